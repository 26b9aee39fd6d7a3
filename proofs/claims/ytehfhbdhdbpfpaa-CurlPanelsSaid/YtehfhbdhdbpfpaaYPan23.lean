/- Parts of a proof: M5. No condition. -/
import Derived.Test.YtehfhbdhdbpfpaaYPan22
namespace Go.Proofs.Ytehfhbdhdbpfpaa.Print
end Go.Proofs.Ytehfhbdhdbpfpaa.Print
namespace Go.Proofs.Ytehfhbdhdbpfpaa.Spec
end Go.Proofs.Ytehfhbdhdbpfpaa.Spec
namespace Go.Proofs.YtehfhbdhdbpfpaaW.PrintLast
end Go.Proofs.YtehfhbdhdbpfpaaW.PrintLast
namespace Go.Proofs.YtehfhbdhdbpfpaaW.PrintMore
end Go.Proofs.YtehfhbdhdbpfpaaW.PrintMore
namespace Go.Proofs.YtehfhbdhdbpfpaaW.PrintWords
end Go.Proofs.YtehfhbdhdbpfpaaW.PrintWords
set_option linter.unusedVariables false
set_option linter.unusedSimpArgs false
namespace Go.Proofs.Ytehfhbdhdbpfpaa.Own
open Go.RowKit Go.Shelf Go.Proofs.YtehfhbdhdbpfpaaW.PrintWords Go.Proofs.YtehfhbdhdbpfpaaW.PrintLast Go.Proofs.YtehfhbdhdbpfpaaW.PrintMore Go.Proofs.Ytehfhbdhdbpfpaa.Print Go.Proofs.Ytehfhbdhdbpfpaa.Spec
set_option linter.unusedVariables false
set_option linter.unusedSimpArgs false
theorem run_eql_sums (a b c d : Int) (w : World) : (binOp .eql 102 (.agg #[.int .i64 a, .int .i64 b]) (.agg #[.int .i64 c, .int .i64 d])).run Try.prog w = .ok (.bool (a == c && b == d)) w := by
  have h := eq_sums (a, b) (c, d) w
  simp only [keyV] at h
  simp only [binOp, Sem.run_bind, h, Result.andThen]
  rfl
theorem sums_bd {l : List Sh} (hg : Plain.Good l) {o : List Int} (hord : isOrd l.length o = true) (ac : Int) (sk : Option Int) : (-2100 ≤ sumP l o ac sk ∧ sumP l o ac sk ≤ 2100) ∧ (-2100 ≤ sumM l o ac sk ∧ sumM l o ac sk ≤ 2100) :=
  ⟨Plain.psum_f0 hg hord ac sk o.length (Nat.le_refl _), Plain.psum_f1 hg hord ac sk o.length (Nat.le_refl _)⟩
set_option maxRecDepth 100000 in
set_option maxHeartbeats 4000000 in
theorem solve_none (A : Option Addr) (c : Nat) (l : List Sh) (lo hi : Int) (pb : Nat) (A1 : Option Addr) (c1 : Nat) (o : List Int) (ac : Int) (w : World) (hp : PressIn w pb A c l lo hi) (hr1 : Kd.C (Kd.int .i64) w A1 o.length o) (hg : Plain.Good l) (hord : isOrd l.length o = true) (hlo : 0 ≤ lo ∧ lo ≤ 50) :
    Calls Try.prog 53 #[.pointer (some ⟨pb, 0, none⟩), .slice A1 o.length c1, .int .i64 ac, .slice none 0 0] w
      fun e w' => e = .returned (.tuple #[.slice none 0 0, .bool (solve0 l lo hi o ac)]) ∧ Below w.heap.size w w' := by
  have HP := Lib.hid hp
  have HR1 := Lib.hid hr1
  have HG := Lib.hid hg
  have HO := Lib.hid hord
  clear hp hr1 hg hord
  go_enter Try.func53, Try.ntmps53
  go_wp2_with fail
  refine (sums_calls A c l lo hi pb A1 c1 o ac none none 0 w HP.out HR1.out (Kd.C_nil _ _) (Nat.zero_le _) HG.out HO.out).mono ?_
  rintro e w2 ⟨rfl, hb2⟩
  obtain ⟨hsp, hsm⟩ := sums_bd HG.out HO.out ac none
  obtain ⟨p0, hp0⟩ : ∃ q, sumP l o ac none = q := ⟨_, rfl⟩
  obtain ⟨p1, hp1⟩ : ∃ q, sumM l o ac none = q := ⟨_, rfl⟩
  have HSV := Lib.hid (show solve0 l lo hi o ac = ((decide (p0 = 0) && decide (p1 = 0)) || (decide (lo = hi) && decide (p0 + p1 * lo = 0))) by unfold solve0; rw [hp0, hp1])
  rw [hp0] at hsp
  rw [hp1] at hsm
  rw [hp0, hp1]
  clear hp0 hp1
  obtain ⟨w3, hw3⟩ : ∃ w3, w2.alloc (.cells #[.int .i64 p0, .int .i64 p1] 102) = w3 := ⟨_, rfl⟩
  have hb3 : Below w2.heap.size w2 w3 := by rw [← hw3]; exact ba (b0 w2) _
  have HS3 := Lib.hid (show w3.heap[w2.heap.size]? = some (.cells #[.int .i64 p0, .int .i64 p1] 102 (0, 0)) by rw [← hw3]; exact World.alloc_heap_new w2 _)
  have HB3 := Lib.hid (bt hb2 hb3)
  have hc1 := (HP.out.below HB3.out).2.1
  have hc2 := (HP.out.below HB3.out).2.2.1
  clear hb2 hb3
  go_wp2_with fail
  go_quiet (fail)
  obtain ⟨w4, hw4⟩ : ∃ w4, w3.drewN nq = w4 := ⟨_, rfl⟩
  have HB4 := Lib.hid (show Below w.heap.size w w4 by rw [← hw4]; exact below_drewN nq HB3.out)
  have HS4 := Lib.hid (show w4.heap[w2.heap.size]? = some (.cells #[.int .i64 p0, .int .i64 p1] 102 (0, 0)) by rw [← hw4]; exact HS3.out)
  have hd1 := (HP.out.below HB4.out).2.1
  rw [hw4]
  have hk0 : w4.cell? ⟨w2.heap.size, 0, none⟩ = some (.int .i64 p0) := blk_cell HS4.out 0
  have hk1 : w4.cell? ⟨w2.heap.size, 1, none⟩ = some (.int .i64 p1) := blk_cell HS4.out 1
  have hm5 := Plain.mul_bd2 (a := p1) (b := lo) hsm.1 hsm.2 hlo.1 hlo.2
  clear hc1 hc2 hw3 hw4
  have heq := run_eql_sums p0 p1 0 0
  cases hz : (p0 == 0 && p1 == 0)
  · rw [hz] at heq
    cases hlh : (lo == hi)
    · go_wp2_with fail
      go_quiet (fail)
      go_wp2
      go_ret2
      have hv : solve0 l lo hi o ac = false := by
        rw [HSV.out]
        simp only [Bool.and_eq_false_iff, beq_eq_false_iff_ne] at hz
        have h1 : lo ≠ hi := by simpa using hlh
        rcases hz with h | h <;> simp [h, h1]
      exact ⟨by rw [hv]; rfl, below_drewN _ HB4.out⟩
    · cases hz2 : (p0 + p1 * lo == 0)
      · go_wp2_with fail
        go_quiet (fail)
        go_wp2
        go_ret2
        have hv : solve0 l lo hi o ac = false := by
          rw [HSV.out]
          simp only [Bool.and_eq_false_iff, beq_eq_false_iff_ne] at hz
          have h2 : p0 + p1 * lo ≠ 0 := by simpa using hz2
          rcases hz with h | h <;> simp [h, h2]
        exact ⟨by rw [hv]; rfl, below_drewN _ HB4.out⟩
      · go_wp2_with fail
        go_quiet (fail)
        go_wp2
        go_ret2
        have hv : solve0 l lo hi o ac = true := by
          rw [HSV.out]
          have h1 : lo = hi := by simpa using hlh
          have h2 : p0 + p1 * lo = 0 := by simpa using hz2
          simp [h1] at h2 ⊢
          right; omega
        exact ⟨by rw [hv]; rfl, below_drewN _ HB4.out⟩
  · rw [hz] at heq
    go_wp2_with fail
    go_quiet (fail)
    go_wp2
    go_ret2
    have hv : solve0 l lo hi o ac = true := by
      rw [HSV.out]
      simp only [Bool.and_eq_true, beq_iff_eq] at hz
      simp [hz.1, hz.2]
    exact ⟨by rw [hv]; rfl, below_drewN _ HB4.out⟩
end Go.Proofs.Ytehfhbdhdbpfpaa.Own
