/- Parts of a proof: L0. No condition. -/
import Derived.Test.YtehfhbdhdbpfpaaYPan20
import Derived.Deep.SlicePairs
import Derived.WalkKit
import Derived.ProofKit
import Derived.OpenShut
import Derived.ChangeOld
import Derived.Below
import Derived.SizedLaws
namespace Go.Proofs.Ytehfhbdhdbpfpaa.Print
end Go.Proofs.Ytehfhbdhdbpfpaa.Print
namespace Go.Proofs.Ytehfhbdhdbpfpaa.Spec
end Go.Proofs.Ytehfhbdhdbpfpaa.Spec
namespace Go.Proofs.YtehfhbdhdbpfpaaW.PrintLast
end Go.Proofs.YtehfhbdhdbpfpaaW.PrintLast
namespace Go.Proofs.YtehfhbdhdbpfpaaW.PrintMore
end Go.Proofs.YtehfhbdhdbpfpaaW.PrintMore
namespace Go.Proofs.YtehfhbdhdbpfpaaW.PrintWords
end Go.Proofs.YtehfhbdhdbpfpaaW.PrintWords
set_option linter.unusedVariables false
set_option linter.unusedSimpArgs false
namespace Go.Proofs.Ytehfhbdhdbpfpaa.Own
open Go.RowKit Go.ChangeShapes Go.WideShapes Go.ChangeAt Go.Deep Go.Proofs.YtehfhbdhdbpfpaaW.PrintWords Go.Proofs.YtehfhbdhdbpfpaaW.PrintLast Go.Proofs.YtehfhbdhdbpfpaaW.PrintMore Go.Proofs.Ytehfhbdhdbpfpaa.Print Go.Proofs.Ytehfhbdhdbpfpaa.Spec
set_option linter.unusedVariables false
set_option linter.unusedSimpArgs false
theorem cellsSl : Try.prog.cellsOf 22 = 1 := by kernel_rfl
theorem cellsRg : Try.prog.cellsOf 24 = 2 := by kernel_rfl
theorem cellsSh : Try.prog.cellsOf 52 = 2 := by kernel_rfl
theorem cellsI : Try.prog.cellsOf 2 = 1 := by kernel_rfl
theorem len2_ {α : Type} {cs : List α} (h : cs.length = 2) : ∃ c0 c1, cs = [c0, c1] := by
  rcases cs with _ | ⟨a, _ | ⟨b, _ | ⟨c, r⟩⟩⟩ <;> simp at h
  exact ⟨_, _, rfl⟩
theorem len3_ {α : Type} {cs : List α} (h : cs.length = 3) : ∃ c0 c1 c2, cs = [c0, c1, c2] := by
  rcases cs with _ | ⟨a, _ | ⟨b, _ | ⟨c, _ | ⟨d, r⟩⟩⟩⟩ <;> simp at h
  exact ⟨_, _, _, rfl⟩
theorem open_range {H : Type} {enc : TypeId × Value → H} {W : World} {base : Nat} {sp : Nat → Bool} {hd : Bool} {fuel : Nat} {cs : List Value} {x : DataW H × List MemPlace} (h : DataW.trod enc Try.prog W base sp hd fuel 24 cs = some x) :
    ∃ lo hi : Int, cs = [.int .i64 lo, .int .i64 hi] ∧ (Lit.int .i64 lo).wf = true ∧ (Lit.int .i64 hi).wf = true := by
  obtain ⟨y0, y1, n, rfl, hl, h0, h1⟩ := trod_struct2 Try.underlying24 h
  rw [cellsRg] at hl
  obtain ⟨c0, c1, rfl⟩ := len2_ hl
  simp [cellsI] at h0 h1
  obtain ⟨lo, e0, _, g0⟩ := DataW.trod_int int64Desc h0
  obtain ⟨hi, e1, _, g1⟩ := DataW.trod_int int64Desc h1
  simp at e0 e1
  subst e0
  subst e1
  exact ⟨lo, hi, rfl, g0, g1⟩
theorem open_sheets {H : Type} {enc : TypeId × Value → H} {W : World} {base : Nat} {sp : Nat → Bool} {hd : Bool} {fuel : Nat} {c : Value} {x : DataW H × List MemPlace} (h : DataW.trod enc Try.prog W base sp hd fuel 22 [c] = some x) :
    ∃ (A : Option Addr) (cap : Nat) (l : List Sh), c = .slice A l.length cap ∧ Kd.C k52 W A l.length l ∧ l.length ≤ cap := by
  rcases open_slice_pairs Try.underlying22 Try.underlying52 cellsSh rfl rfl cellsI cellsI h with ⟨hc, _⟩ | ⟨a, len, cap, m, n, V0, V1, D0, D1, P0, P1, hc, _, hlc, hcm, hmm, _, hx⟩
  · simp at hc
    subst hc
    exact ⟨none, 0, [], rfl, ⟨rfl, by simp, fun h => by simp at h⟩, Nat.le_refl _⟩
  · simp at hc
    subst hc
    have hlm : len ≤ m := by rw [hmm]; split <;> omega
    have hlen : ((List.range len).map fun i => (⟨intOf (V0 i), intOf (V1 i)⟩ : Sh)).length = len := by simp
    refine ⟨some a, cap, (List.range len).map fun i => (⟨intOf (V0 i), intOf (V1 i)⟩ : Sh), by rw [hlen], ?_, by rw [hlen]; exact hlc⟩
    refine ⟨rfl, by rw [hlen]; unfold maxLen at hcm; omega, fun _ => ⟨a, rfl, fun j p hj => ?_⟩⟩
    rw [List.getElem?_map] at hj
    obtain ⟨i, hi, rfl⟩ := Option.map_eq_some_iff.1 hj
    obtain ⟨hil, hii⟩ := List.getElem?_eq_some_iff.1 hi
    simp at hil hii
    subst hii
    obtain ⟨e0, e1, g0, g1⟩ := hx j (by omega)
    obtain ⟨p0, q0, _, _⟩ := DataW.trod_int int64Desc g0
    obtain ⟨p1, q1, _, _⟩ := DataW.trod_int int64Desc g1
    simp at q0 q1
    rw [q0] at e0
    rw [q1] at e1
    refine ⟨_, rfl, k52_mk W _, fun i u hu => ?_⟩
    rw [q0, q1] at hu
    match i, hu with
    | 0, hu => rw [← hu]; exact e0
    | 1, hu => rw [← hu]; exact e1
theorem cellsPn : Try.prog.cellsOf 26 = 3 := by kernel_rfl
theorem open_panel {H : Type} {enc : TypeId × Value → H} {W : World} {base : Nat} {sp : Nat → Bool} {hd : Bool} {fuel : Nat} {cs : List Value} {x : DataW H × List MemPlace} (h : DataW.trod enc Try.prog W base sp hd fuel 26 cs = some x) :
    ∃ (A : Option Addr) (cap : Nat) (l : List Sh) (lo hi : Int), cs = [.slice A l.length cap, .int .i64 lo, .int .i64 hi] ∧ Kd.C k52 W A l.length l ∧ l.length ≤ cap ∧ (Lit.int .i64 lo).wf = true ∧ (Lit.int .i64 hi).wf = true := by
  obtain ⟨y0, y1, n, rfl, hl, h0, h1⟩ := trod_struct2 Try.underlying26 h
  rw [cellsPn] at hl
  obtain ⟨c0, c1, c2, rfl⟩ := len3_ hl
  simp [cellsSl, cellsRg] at h0 h1
  obtain ⟨A, cap, l, rfl, hr, hc⟩ := open_sheets h0
  obtain ⟨lo, hi, e, g0, g1⟩ := open_range h1
  simp at e
  obtain ⟨rfl, rfl⟩ := e
  exact ⟨A, cap, l, lo, hi, rfl, hr, hc, g0, g1⟩
end Go.Proofs.Ytehfhbdhdbpfpaa.Own
