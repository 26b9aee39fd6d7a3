/- Parts of a proof: C8. No condition. -/
import Derived.Test.YtehfhbdhdbpfpaaYPan13
namespace Go.Proofs.Ytehfhbdhdbpfpaa.Own
end Go.Proofs.Ytehfhbdhdbpfpaa.Own
namespace Go.Proofs.Ytehfhbdhdbpfpaa.Print
end Go.Proofs.Ytehfhbdhdbpfpaa.Print
namespace Go.Proofs.Ytehfhbdhdbpfpaa.Spec
end Go.Proofs.Ytehfhbdhdbpfpaa.Spec
namespace Go.Proofs.YtehfhbdhdbpfpaaW.PrintLast
end Go.Proofs.YtehfhbdhdbpfpaaW.PrintLast
namespace Go.Proofs.YtehfhbdhdbpfpaaW.PrintMore
end Go.Proofs.YtehfhbdhdbpfpaaW.PrintMore
namespace Go.Proofs.YtehfhbdhdbpfpaaW.PrintWords
end Go.Proofs.YtehfhbdhdbpfpaaW.PrintWords
set_option linter.unusedVariables false
set_option linter.unusedSimpArgs false
namespace Go.Proofs.Ytehfhbdhdbpfpaa.Own
open Go.RowKit Go.Shelf Go.Proofs.YtehfhbdhdbpfpaaW.PrintWords Go.Proofs.YtehfhbdhdbpfpaaW.PrintLast Go.Proofs.YtehfhbdhdbpfpaaW.PrintMore Go.Proofs.Ytehfhbdhdbpfpaa.Print Go.Proofs.Ytehfhbdhdbpfpaa.Spec
set_option linter.unusedVariables false
set_option linter.unusedSimpArgs false
theorem opened_zero {l : List Sh} {lo hi : Int} {o : List Int} (h : opened l lo hi o = 0) : panel l lo hi = 0 ∧ isOrd l.length o = true := by
  unfold opened at h
  split at h
  · refine ⟨by assumption, ?_⟩
    split at h
    · assumption
    · cases h
  · exact absurd h (by assumption)
theorem open1_err (A : Option Addr) (c : Nat) (l : List Sh) (lo hi : Int) (A1 : Option Addr) (c1 : Nat) (o : List Int) (g : Nat) (x : Int) (w : World) (hr : Kd.C k52 w A l.length l)
    (hr1 : Kd.C (Kd.int .i64) w A1 o.length o) (hlen : o.length ≤ 12) (hg : w.cell? ⟨g, 0, none⟩ = some (.slice A1 o.length c1)) (hx : opened l lo hi o = x) (h0 : x ≠ 0) :
    Calls Try.prog 36 #[.agg #[.slice A l.length c, .int .i64 lo, .int .i64 hi], .slice (some ⟨g, 0, none⟩) 1 1] w (Refused x w) := by
  unfold opened at hx
  by_cases hp : panel l lo hi = 0
  · rw [if_pos hp] at hx
    by_cases ho : isOrd l.length o = true
    · rw [if_pos ho] at hx; exact absurd hx.symm h0
    · rw [if_neg ho] at hx; subst hx
      exact open1_bad A c l lo hi A1 c1 o g w hr hp hr1 hlen hg (by simpa using ho)
  · rw [if_neg hp] at hx
    exact open0_err A c l lo hi x _ w hr hx h0
theorem open1_good (A : Option Addr) (c : Nat) (l : List Sh) (lo hi : Int) (A1 : Option Addr) (c1 : Nat) (o : List Int) (g : Nat) (w : World) (hr : Kd.C k52 w A l.length l)
    (hr1 : Kd.C (Kd.int .i64) w A1 o.length o) (hlen : o.length ≤ 12) (hg : w.cell? ⟨g, 0, none⟩ = some (.slice A1 o.length c1)) (hx : opened l lo hi o = 0) :
    Calls Try.prog 36 #[.agg #[.slice A l.length c, .int .i64 lo, .int .i64 hi], .slice (some ⟨g, 0, none⟩) 1 1] w (Opened A c l lo hi w) :=
  open1_ok A c l lo hi A1 c1 o g w hr (opened_zero hx).1 hr1 hlen hg (opened_zero hx).2
theorem pressIn_of {A : Option Addr} {c : Nat} {l : List Sh} {lo hi : Int} {pb mb : Nat} {w w' : World} (hb : w'.heap[pb]? = some (.cells (pressCells A c l lo hi mb) 84 (0, 0)))
    (hr : Kd.C k52 w A l.length l) (hB : Below w.heap.size w w') : PressIn w' pb A c l lo hi :=
  ⟨blk_cell hb 0, blk_cell hb 1, blk_cell hb 2, Kd.C_below hr hB⟩
set_option maxRecDepth 100000 in
set_option maxHeartbeats 1600000 in
theorem Curl_err (A : Option Addr) (c : Nat) (l : List Sh) (lo hi : Int) (A1 : Option Addr) (c1 : Nat) (o : List Int) (x : Int) (w : World) (hr : Kd.C k52 w A l.length l)
    (hr1 : Kd.C (Kd.int .i64) w A1 o.length o) (hlen : o.length ≤ 12) (hx : opened l lo hi o = x) (h0 : x ≠ 0) :
    Calls Try.prog 14 #[.agg #[.slice A l.length c, .int .i64 lo, .int .i64 hi], .slice A1 o.length c1] w fun e w' => e = .returned (.tuple #[.int .i64 0, .int .i64 x]) ∧ Below w.heap.size w w' := by
  have HR := Lib.hid hr
  have HR1 := Lib.hid hr1
  have HX := Lib.hid hx
  have hxb : (x != 0) = true := by simpa using h0
  clear hr hr1 hx
  go_enter Try.func14, Try.ntmps14
  go_wp2_with fail
  refine (open1_err A c l lo hi A1 c1 o (w.heap.size + 1) x _ (Kd.C_below HR.out (ba (ba (b0 w) _) _)) (Kd.C_below HR1.out (ba (ba (b0 w) _) _)) hlen (by simp) HX.out h0).mono ?_
  rintro e w1 ⟨rfl, hb1⟩
  go_wp2
  go_ret2
  exact ⟨rfl, bt (ba (ba (b0 w) _) _) hb1⟩
set_option maxRecDepth 100000 in
set_option maxHeartbeats 1600000 in
theorem Curl_ok (A : Option Addr) (c : Nat) (l : List Sh) (lo hi : Int) (A1 : Option Addr) (c1 : Nat) (o : List Int) (w : World) (hr : Kd.C k52 w A l.length l)
    (hr1 : Kd.C (Kd.int .i64) w A1 o.length o) (hlen : o.length ≤ 12) (hx : opened l lo hi o = 0) :
    Calls Try.prog 14 #[.agg #[.slice A l.length c, .int .i64 lo, .int .i64 hi], .slice A1 o.length c1] w fun e w' => e = .returned (.tuple #[.int .i64 (curlV l lo hi o), .int .i64 0]) ∧ Below w.heap.size w w' := by
  have HR := Lib.hid hr
  have HR1 := Lib.hid hr1
  have HX := Lib.hid hx
  obtain ⟨hgd, hlo0, hlh, hhi, _⟩ := Plain.good_of_panel (opened_zero hx).1
  have HG := Lib.hid hgd
  clear hr hr1 hx hgd
  go_enter Try.func14, Try.ntmps14
  go_wp2_with fail
  refine (open1_good A c l lo hi A1 c1 o (w.heap.size + 1) _ (Kd.C_below HR.out (ba (ba (b0 w) _) _)) (Kd.C_below HR1.out (ba (ba (b0 w) _) _)) hlen (by simp) HX.out).mono ?_
  rintro e w1 ⟨pb, mb, rfl, hp, hm, hpl, hml, hne, hb1⟩
  have HB1 := Lib.hid (bt (ba (ba (b0 w) _) _) hb1)
  have HP := Lib.hid (pressIn_of hp HR.out HB1.out)
  clear hp hm hb1
  go_wp2_with fail
  refine (curl_calls A c l lo hi pb A1 c1 o w1 HP.out (Kd.C_below HR1.out HB1.out) HG.out (opened_zero HX.out).2 ⟨hlo0, by omega⟩ ⟨by omega, hhi⟩).mono ?_
  rintro e w2 ⟨rfl, hb2⟩
  go_wp2
  go_ret2
  exact ⟨rfl, bt HB1.out hb2⟩
set_option maxRecDepth 100000 in
set_option maxHeartbeats 1600000 in
theorem Moments_err (A : Option Addr) (c : Nat) (l : List Sh) (lo hi : Int) (A1 : Option Addr) (c1 : Nat) (o : List Int) (d x : Int) (w : World) (hr : Kd.C k52 w A l.length l)
    (hr1 : Kd.C (Kd.int .i64) w A1 o.length o) (hlen : o.length ≤ 12) (hx : opened l lo hi o = x) (h0 : x ≠ 0) :
    Calls Try.prog 12 #[.agg #[.slice A l.length c, .int .i64 lo, .int .i64 hi], .slice A1 o.length c1, .int .i64 d] w fun e w' => e = .returned (.tuple #[.int .i64 0, .int .i64 0, .int .i64 x]) ∧ Below w.heap.size w w' := by
  have HR := Lib.hid hr
  have HR1 := Lib.hid hr1
  have HX := Lib.hid hx
  have hxb : (x != 0) = true := by simpa using h0
  clear hr hr1 hx
  go_enter Try.func12, Try.ntmps12
  go_wp2_with fail
  refine (open1_err A c l lo hi A1 c1 o (w.heap.size + 1) x _ (Kd.C_below HR.out (ba (ba (b0 w) _) _)) (Kd.C_below HR1.out (ba (ba (b0 w) _) _)) hlen (by simp) HX.out h0).mono ?_
  rintro e w1 ⟨rfl, hb1⟩
  go_wp2
  go_ret3
  exact ⟨rfl, bt (ba (ba (b0 w) _) _) hb1⟩
set_option maxRecDepth 100000 in
set_option maxHeartbeats 1600000 in
theorem Moments_far (A : Option Addr) (c : Nat) (l : List Sh) (lo hi : Int) (A1 : Option Addr) (c1 : Nat) (o : List Int) (d : Int) (w : World) (hr : Kd.C k52 w A l.length l)
    (hr1 : Kd.C (Kd.int .i64) w A1 o.length o) (hlen : o.length ≤ 12) (hx : opened l lo hi o = 0) (hd : inB lo hi [d] = false) :
    Calls Try.prog 12 #[.agg #[.slice A l.length c, .int .i64 lo, .int .i64 hi], .slice A1 o.length c1, .int .i64 d] w fun e w' => e = .returned (.tuple #[.int .i64 0, .int .i64 0, .int .i64 3]) ∧ Below w.heap.size w w' := by
  have HR := Lib.hid hr
  have HR1 := Lib.hid hr1
  have HX := Lib.hid hx
  have HD := Lib.hid hd
  clear hr hr1 hx hd
  go_enter Try.func12, Try.ntmps12
  go_wp2_with fail
  refine (open1_good A c l lo hi A1 c1 o (w.heap.size + 1) _ (Kd.C_below HR.out (ba (ba (b0 w) _) _)) (Kd.C_below HR1.out (ba (ba (b0 w) _) _)) hlen (by simp) HX.out).mono ?_
  rintro e w1 ⟨pb, mb, rfl, hp, hm, hpl, hml, hne, hb1⟩
  have HB1 := Lib.hid (bt (ba (ba (b0 w) _) _) hb1)
  have hc1 : w1.cell? ⟨w.heap.size, 1, none⟩ = some (.int .i64 lo) := (hb1.cell (by simp; omega)).trans (by simp)
  have hc2 : w1.cell? ⟨w.heap.size, 2, none⟩ = some (.int .i64 hi) := (hb1.cell (by simp; omega)).trans (by simp)
  clear hp hm hb1
  go_wp2_with fail
  refine (within_calls (some ⟨w1.heap.size, 0, none⟩) 1 [d] lo hi _ (C_one (by simp))).mono ?_
  rintro e w2 ⟨rfl, hb2⟩
  rw [HD.out]
  go_wp2
  go_ret3
  exact ⟨rfl, bt (ba HB1.out _) hb2⟩
set_option maxRecDepth 100000 in
set_option maxHeartbeats 1600000 in
theorem Moments_ok (A : Option Addr) (c : Nat) (l : List Sh) (lo hi : Int) (A1 : Option Addr) (c1 : Nat) (o : List Int) (d : Int) (w : World) (hr : Kd.C k52 w A l.length l)
    (hr1 : Kd.C (Kd.int .i64) w A1 o.length o) (hlen : o.length ≤ 12) (hx : opened l lo hi o = 0) (hd : inB lo hi [d] = true) :
    Calls Try.prog 12 #[.agg #[.slice A l.length c, .int .i64 lo, .int .i64 hi], .slice A1 o.length c1, .int .i64 d] w fun e w' => e = .returned (.tuple #[.int .i64 (moment l o 0 d), .int .i64 (moment l o 1 d), .int .i64 0]) ∧ Below w.heap.size w w' := by
  have HR := Lib.hid hr
  have HR1 := Lib.hid hr1
  have HX := Lib.hid hx
  have HD := Lib.hid hd
  obtain ⟨hgd, hlo0, hlh, hhi, _⟩ := Plain.good_of_panel (opened_zero hx).1
  have HG := Lib.hid hgd
  have hd2 : lo ≤ d ∧ d ≤ hi := by rw [inB_one] at hd; simpa using hd
  clear hr hr1 hx hd hgd
  go_enter Try.func12, Try.ntmps12
  go_wp2_with fail
  refine (open1_good A c l lo hi A1 c1 o (w.heap.size + 1) _ (Kd.C_below HR.out (ba (ba (b0 w) _) _)) (Kd.C_below HR1.out (ba (ba (b0 w) _) _)) hlen (by simp) HX.out).mono ?_
  rintro e w1 ⟨pb, mb, rfl, hp, hm, hpl, hml, hne, hb1⟩
  have HB1 := Lib.hid (bt (ba (ba (b0 w) _) _) hb1)
  have HP := Lib.hid (pressIn_of hp HR.out HB1.out)
  have hc1 : w1.cell? ⟨w.heap.size, 1, none⟩ = some (.int .i64 lo) := (hb1.cell (by simp; omega)).trans (by simp)
  have hc2 : w1.cell? ⟨w.heap.size, 2, none⟩ = some (.int .i64 hi) := (hb1.cell (by simp; omega)).trans (by simp)
  clear hp hm hb1
  go_wp2_with fail
  refine (within_calls (some ⟨w1.heap.size, 0, none⟩) 1 [d] lo hi _ (C_one (by simp))).mono ?_
  rintro e w2 ⟨rfl, hb2⟩
  rw [HD.out]
  have HB2 := Lib.hid (bt (ba HB1.out _) hb2)
  have HP2 := Lib.hid (HP.out.below (bt (ba (b0 w1) _) hb2))
  clear hb2
  go_wp2_with fail
  refine (moments_calls A c l lo hi pb A1 c1 o d w2 HP2.out (Kd.C_below HR1.out HB2.out) HG.out (opened_zero HX.out).2 (by omega) (by omega)).mono ?_
  rintro e w3 ⟨rfl, hb3⟩
  have HB3 := Lib.hid (bt HB2.out hb3)
  clear hb3
  obtain ⟨m0, hm0⟩ : ∃ m, moment l o 0 d = m := ⟨_, rfl⟩
  obtain ⟨m1, hm1⟩ : ∃ m, moment l o 1 d = m := ⟨_, rfl⟩
  have H0 := Lib.hid hm0
  have H1 := Lib.hid hm1
  rw [hm0, hm1]
  clear hm0 hm1
  go_wp2
  go_region
  all_goals go_wp2
  all_goals go_ret3
  all_goals exact ⟨by rw [H0.out, H1.out]; rfl, (ba HB3.out _).drew⟩
end Go.Proofs.Ytehfhbdhdbpfpaa.Own
namespace Go.Proofs.Ytehfhbdhdbpfpaa.Gen
open Go.RowKit Go.Proofs.YtehfhbdhdbpfpaaW.PrintWords Go.Proofs.YtehfhbdhdbpfpaaW.PrintLast Go.Proofs.YtehfhbdhdbpfpaaW.PrintMore Go.Proofs.Ytehfhbdhdbpfpaa.Print Go.Proofs.Ytehfhbdhdbpfpaa.Spec Go.Proofs.Ytehfhbdhdbpfpaa.Own
theorem curl_CheckPanel.calls (A0_0 : Option Addr) (c0_0 : Nat) (l0_0 : List (S52)) (a0_1 : Int) (a0_2 : Int) (r : Int) (w : World) (hr0_0 : Kd.C k52 w A0_0 l0_0.length l0_0) (hc0_0 : l0_0.length ≤ c0_0) (h : curl_CheckPanel.f l0_0 a0_1 a0_2 = some r) :
    Calls Try.prog 16 #[.agg #[.slice A0_0 l0_0.length c0_0, .int .i64 a0_1, .int .i64 a0_2]] w fun e w' => e = .returned (.int .i64 r) ∧ Below w.heap.size w w' := by
  simp only [curl_CheckPanel.f, Option.some.injEq] at h
  subst h
  exact checkPanel_calls A0_0 c0_0 l0_0 a0_1 a0_2 w hr0_0
theorem curl_Moments.calls (A0_0 : Option Addr) (c0_0 : Nat) (l0_0 : List (S52)) (a0_1 : Int) (a0_2 : Int) (A1 : Option Addr) (c1 : Nat) (l1 : List Int) (a2 : Int) (r1 : Int) (r2 : Int) (r3 : Int) (w : World) (hr0_0 : Kd.C k52 w A0_0 l0_0.length l0_0) (hc0_0 : l0_0.length ≤ c0_0) (hr1 : Kd.C (Kd.int .i64) w A1 l1.length l1) (hc1 : l1.length ≤ c1) (h : curl_Moments.f l0_0 a0_1 a0_2 l1 a2 = some (r1, r2, r3)) :
    Calls Try.prog 12 #[.agg #[.slice A0_0 l0_0.length c0_0, .int .i64 a0_1, .int .i64 a0_2], .slice A1 l1.length c1, .int .i64 a2] w fun e w' => e = .returned (.tuple #[.int .i64 r1, .int .i64 r2, .int .i64 r3]) ∧ Below w.heap.size w w' := by
  unfold curl_Moments.f at h
  by_cases hl : l1.length ≤ 12
  · rw [if_pos hl, Option.some.injEq] at h
    by_cases hx : opened l0_0 a0_1 a0_2 l1 = 0
    · rw [if_pos hx] at h
      by_cases hd : a0_1 ≤ a2 ∧ a2 ≤ a0_2
      · rw [if_pos hd] at h
        simp only [Prod.mk.injEq] at h
        obtain ⟨rfl, rfl, rfl⟩ := h
        exact Moments_ok A0_0 c0_0 l0_0 a0_1 a0_2 A1 c1 l1 a2 w hr0_0 hr1 hl hx (by rw [inB_one]; simpa using hd)
      · rw [if_neg hd] at h
        simp only [Prod.mk.injEq] at h
        obtain ⟨rfl, rfl, rfl⟩ := h
        exact Moments_far A0_0 c0_0 l0_0 a0_1 a0_2 A1 c1 l1 a2 w hr0_0 hr1 hl hx (by rw [inB_one, Bool.eq_false_iff]; simpa using hd)
    · rw [if_neg hx] at h
      simp only [Prod.mk.injEq] at h
      obtain ⟨rfl, rfl, rfl⟩ := h
      exact Moments_err A0_0 c0_0 l0_0 a0_1 a0_2 A1 c1 l1 a2 _ w hr0_0 hr1 hl rfl hx
  · rw [if_neg hl] at h; cases h
theorem curl_Curl.calls (A0_0 : Option Addr) (c0_0 : Nat) (l0_0 : List (S52)) (a0_1 : Int) (a0_2 : Int) (A1 : Option Addr) (c1 : Nat) (l1 : List Int) (r1 : Int) (r2 : Int) (w : World) (hr0_0 : Kd.C k52 w A0_0 l0_0.length l0_0) (hc0_0 : l0_0.length ≤ c0_0) (hr1 : Kd.C (Kd.int .i64) w A1 l1.length l1) (hc1 : l1.length ≤ c1) (h : curl_Curl.f l0_0 a0_1 a0_2 l1 = some (r1, r2)) :
    Calls Try.prog 14 #[.agg #[.slice A0_0 l0_0.length c0_0, .int .i64 a0_1, .int .i64 a0_2], .slice A1 l1.length c1] w fun e w' => e = .returned (.tuple #[.int .i64 r1, .int .i64 r2]) ∧ Below w.heap.size w w' := by
  unfold curl_Curl.f at h
  by_cases hl : l1.length ≤ 12
  · rw [if_pos hl, Option.some.injEq] at h
    by_cases hx : opened l0_0 a0_1 a0_2 l1 = 0
    · rw [if_pos hx] at h
      simp only [Prod.mk.injEq] at h
      obtain ⟨rfl, rfl⟩ := h
      exact Curl_ok A0_0 c0_0 l0_0 a0_1 a0_2 A1 c1 l1 w hr0_0 hr1 hl hx
    · rw [if_neg hx] at h
      simp only [Prod.mk.injEq] at h
      obtain ⟨rfl, rfl⟩ := h
      exact Curl_err A0_0 c0_0 l0_0 a0_1 a0_2 A1 c1 l1 _ w hr0_0 hr1 hl rfl hx
  · rw [if_neg hl] at h; cases h
end Go.Proofs.Ytehfhbdhdbpfpaa.Gen
