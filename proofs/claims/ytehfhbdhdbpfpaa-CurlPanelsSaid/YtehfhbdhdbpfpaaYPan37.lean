/- Parts of a proof: K1. No condition. -/
import Derived.Test.YtehfhbdhdbpfpaaYPan06
namespace Go.Proofs.Ytehfhbdhdbpfpaa.Print
end Go.Proofs.Ytehfhbdhdbpfpaa.Print
namespace Go.Proofs.YtehfhbdhdbpfpaaW.PrintWords
end Go.Proofs.YtehfhbdhdbpfpaaW.PrintWords
set_option linter.unusedVariables false
set_option linter.unusedSimpArgs false
namespace Go.Proofs.Ytehfhbdhdbpfpaa.Spec
open Go.RowKit Go.Proofs.Ytehfhbdhdbpfpaa.Print Go.Proofs.YtehfhbdhdbpfpaaW.PrintWords
def sA : List Sh := [⟨10, 1⟩, ⟨5, 0⟩, ⟨10, 1⟩]
def sC : List Sh := [⟨3, 0⟩, ⟨5, 0⟩, ⟨8, 0⟩]
def sF : List Sh := [⟨4, 0⟩, ⟨6, 0⟩, ⟨1, 0⟩, ⟨6, 0⟩, ⟨4, 0⟩]
theorem ex1 : curl_Moments.f sF 0 9 [1, 0, 2, 3, 4] 0 = some (-4, 2, 0) := by decide +kernel
theorem ex2 : curl_Moments.f sA 0 4 [1, 0, 2] 5 = some (0, 0, 3) := by decide +kernel
theorem ex3 : curl_Curl.f sA 0 4 [1, 0, 2] = some (9, 0) := by decide +kernel
theorem ex4 : curl_Curl.f sA 0 4 [0, 1, 1] = some (0, 16) := by decide +kernel
theorem ex5 : curl_Least.f sC 0 0 = some (2, 0) := by decide +kernel
theorem ex6 : curl_Order.f sC 0 0 = some ([0, 2, 1], 0) := by decide +kernel
theorem ex7 : curl_Flats.f sF 0 9 = some (8, 0) := by decide +kernel
theorem ex11 : curl_Fewest.f sF 0 9 [1, 0, 2, 3, 4] = some (2, 0) := by decide +kernel
theorem ex13 : curl_Blame.f sC 0 0 = some ([0, 1, 2], 0) := by decide +kernel
theorem ex8 : curl_CheckCure.f sC 0 0 [0, 2, 1] [⟨0, ⟨5, 0⟩⟩] = some (1, 0) := by decide +kernel
theorem ex9 : curl_CheckCure.f sC 0 0 [0, 2, 1] [⟨2, ⟨1, 0⟩⟩] = some (0, 23) := by decide +kernel
theorem ex10 : curl_CheckCure.f sC 0 0 [0, 2, 1] [⟨0, ⟨101, 0⟩⟩] = some (0, 3) := by decide +kernel
end Go.Proofs.Ytehfhbdhdbpfpaa.Spec
