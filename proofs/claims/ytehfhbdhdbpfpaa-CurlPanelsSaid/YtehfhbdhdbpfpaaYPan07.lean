/- Parts of a proof: C1 C2. No condition. -/
import Derived.Test.YtehfhbdhdbpfpaaYPan06
namespace Go.Proofs.Ytehfhbdhdbpfpaa.Print
end Go.Proofs.Ytehfhbdhdbpfpaa.Print
namespace Go.Proofs.Ytehfhbdhdbpfpaa.Spec
end Go.Proofs.Ytehfhbdhdbpfpaa.Spec
namespace Go.Proofs.YtehfhbdhdbpfpaaW.PrintLast
end Go.Proofs.YtehfhbdhdbpfpaaW.PrintLast
namespace Go.Proofs.YtehfhbdhdbpfpaaW.PrintMore
end Go.Proofs.YtehfhbdhdbpfpaaW.PrintMore
namespace Go.Proofs.YtehfhbdhdbpfpaaW.PrintWords
end Go.Proofs.YtehfhbdhdbpfpaaW.PrintWords
set_option linter.unusedVariables false
set_option linter.unusedSimpArgs false
section
namespace Go.Proofs.Ytehfhbdhdbpfpaa.Own
open Go.RowKit Go.Proofs.YtehfhbdhdbpfpaaW.PrintWords Go.Proofs.YtehfhbdhdbpfpaaW.PrintLast Go.Proofs.YtehfhbdhdbpfpaaW.PrintMore Go.Proofs.Ytehfhbdhdbpfpaa.Print Go.Proofs.Ytehfhbdhdbpfpaa.Spec
set_option linter.unusedVariables false
set_option linter.unusedSimpArgs false
def idx {α : Type} (p : α → Bool) (l : List α) : Int := match l.findIdx? p with | some i => (i : Int) | none => -1
theorem idx_hit {α : Type} (p : α → Bool) (l : List α) (k : Nat) (hk : k < l.length) (h0 : ∀ j (hj : j < l.length), j < k → p l[j] = false) (h : p l[k] = true) : idx p l = k := by
  have : l.findIdx? p = some k := List.findIdx?_eq_some_iff_getElem.2 ⟨hk, h, fun j hj => by simp [h0 j (by omega) hj]⟩
  simp [idx, this]
theorem idx_none {α : Type} (p : α → Bool) (l : List α) (h0 : ∀ j (hj : j < l.length), p l[j] = false) : idx p l = -1 := by
  have : l.findIdx? p = none := List.findIdx?_eq_none_iff.2 fun x hx => by
    obtain ⟨j, hj, rfl⟩ := List.getElem_of_mem hx
    exact h0 j hj
  simp [idx, this]
theorem idx_any {α : Type} (p : α → Bool) (l : List α) : decide (0 ≤ idx p l) = l.any p := by
  unfold idx
  cases h : l.findIdx? p with
  | none =>
    have := List.findIdx?_eq_none_iff.1 h
    simp only [show ¬ (0 : Int) ≤ -1 by omega, decide_false]
    exact (List.any_eq_false.2 (fun x hx => by simp [this x hx])).symm
  | some i =>
    obtain ⟨hi, hp, _⟩ := List.findIdx?_eq_some_iff_getElem.1 h
    simp only [show (0 : Int) ≤ (i : Int) by omega, decide_true]
    exact (List.any_eq_true.2 ⟨_, List.getElem_mem hi, hp⟩).symm
def outB (lo hi n : Int) : Bool := decide (n < lo) || decide (hi < n)
theorem within1 (n lo hi : Int) (b1 b2 : Nat) (w : World) (h1 : w.cell? ⟨b1, 0, none⟩ = some (.int .i64 lo)) (h2 : w.cell? ⟨b2, 0, none⟩ = some (.int .i64 hi)) :
    Calls Try.prog 61 #[.int .i64 n, .pointer (some ⟨b1, 0, none⟩), .pointer (some ⟨b2, 0, none⟩)] w fun e w' => e = .returned (.bool (outB lo hi n)) ∧ w = w' := by
  by_cases hlo : n < lo
  · have hb : decide (n < lo) = true := by simpa using hlo
    have H := Lib.hid (show outB lo hi n = true by simp [outB, hb])
    go_enter Try.func61, Try.ntmps61
    go_wp2
    go_ret
    exact ⟨by rw [H.out]; rfl, rfl⟩
  · have hb : decide (n < lo) = false := by simpa using hlo
    have H := Lib.hid (show outB lo hi n = decide (hi < n) by simp [outB, hb])
    go_enter Try.func61, Try.ntmps61
    go_wp2
    go_ret
    exact ⟨by rw [H.out]; rfl, rfl⟩
theorem C_cell {w : World} {A : Option Addr} {l : List Int} (hr : Kd.C (Kd.int .i64) w A l.length l) (k : Nat) (hk : k < l.length) :
    ∃ ad, A = some ad ∧ w.cell? (ad.add k) = some (.int .i64 l[k]) := by
  obtain ⟨ad, h1, h2⟩ := Kd.at_int hr (k : Int) (by omega) (by omega)
  refine ⟨ad, h1, ?_⟩
  simp only [Int.toNat_natCast] at h2
  rw [h2]
  simp [rd, List.getD_eq_getElem?_getD, hk]
set_option maxHeartbeats 400000 in
theorem indexFunc64 (A : Option Addr) (c : Nat) (l : List Int) (lo hi : Int) (b1 b2 : Nat) (w : World) (h1 : w.cell? ⟨b1, 0, none⟩ = some (.int .i64 lo)) (h2 : w.cell? ⟨b2, 0, none⟩ = some (.int .i64 hi))
    (hr : Kd.C (Kd.int .i64) w A l.length l) :
    Calls Try.prog 76 #[.slice A l.length c, .func (.func 61) #[] #[.pointer (some ⟨b1, 0, none⟩), .pointer (some ⟨b2, 0, none⟩)]] w
      fun e w' => e = .returned (.int .i64 (idx (outB lo hi) l)) ∧ w = w' := by
  have hm : l.length ≤ 9223372036854775807 := hr.2.1
  have HR := Lib.hid hr
  clear hr
  go_enter Try.func76, Try.ntmps76
  go_wp2
  go_loop [8] (fun i => ∃ k : Nat, k ≤ l.length ∧ i = .int .i64 k ∧ Hid (∀ j (hj : j < l.length), j < k → outB lo hi l[j] = false)) (fun i => l.length - (intOf i).toNat)
  case atStart => exact ⟨0, Nat.zero_le _, rfl, fun j hj h => absurd h (by omega)⟩
  case round =>
    obtain ⟨k, hk, rfl, HP⟩ := hrel
    by_cases hlt : k < l.length
    · obtain ⟨ad, rfl, hc⟩ := C_cell HR.out k hlt
      cases hb : outB lo hi l[k]
      · have HB := Lib.hid hb
        clear hb
        go_wp2_with fail
        refine (within1 _ lo hi b1 b2 _ h1 h2).mono ?_
        rintro e w' ⟨rfl, rfl⟩
        rw [HB.out]
        go_wp2
        go_round
        case rel => exact ⟨k + 1, by omega, by go_num, fun j hj h => by
          by_cases e : j = k
          · subst e; exact HB.out
          · exact HP.out j hj (by omega)⟩
        case measure => simp [intOf]; omega
      · have HB := Lib.hid hb
        clear hb
        have H := Lib.hid (idx_hit (outB lo hi) l k hlt HP.out HB.out)
        go_wp2_with fail
        refine (within1 _ lo hi b1 b2 _ h1 h2).mono ?_
        rintro e w' ⟨rfl, rfl⟩
        rw [HB.out]
        go_wp2
        go_ret
        exact ⟨by rw [H.out]; rfl, rfl⟩
    · have H := Lib.hid (idx_none (outB lo hi) l (fun j hj => HP.out j hj (by omega)))
      go_wp2
      go_ret
      exact ⟨by rw [H.out]; rfl, rfl⟩
theorem containsFunc64 (A : Option Addr) (c : Nat) (l : List Int) (lo hi : Int) (b1 b2 : Nat) (w : World) (h1 : w.cell? ⟨b1, 0, none⟩ = some (.int .i64 lo)) (h2 : w.cell? ⟨b2, 0, none⟩ = some (.int .i64 hi))
    (hr : Kd.C (Kd.int .i64) w A l.length l) :
    Calls Try.prog 60 #[.slice A l.length c, .func (.func 61) #[] #[.pointer (some ⟨b1, 0, none⟩), .pointer (some ⟨b2, 0, none⟩)]] w
      fun e w' => e = .returned (.bool (l.any (outB lo hi))) ∧ w = w' := by
  have H := Lib.hid (idx_any (outB lo hi) l)
  have HR := Lib.hid hr
  clear hr
  go_enter Try.func60, Try.ntmps60
  go_wp2_with fail
  refine (indexFunc64 A c l lo hi b1 b2 _ h1 h2 HR.out).mono ?_
  rintro e w' ⟨rfl, rfl⟩
  go_wp2
  go_ret
  exact ⟨by rw [← H.out]; rfl, rfl⟩
def inB (lo hi : Int) (l : List Int) : Bool := !(l.any (outB lo hi))
theorem within_calls (A : Option Addr) (c : Nat) (l : List Int) (lo hi : Int) (w : World) (hr : Kd.C (Kd.int .i64) w A l.length l) :
    Calls Try.prog 37 #[.int .i64 lo, .int .i64 hi, .slice A l.length c] w fun e w' => e = .returned (.bool (inB lo hi l)) ∧ Below w.heap.size w w' := by
  have H := Lib.hid (show inB lo hi l = !(l.any (outB lo hi)) from rfl)
  have HR := Lib.hid hr
  clear hr
  go_enter Try.func37, Try.ntmps37
  go_wp2_with fail
  have hb : Below w.heap.size w ((w.alloc (.cells #[.int .i64 lo] 2)).alloc (.cells #[.int .i64 hi] 2)) := ((Below.refl _ _).alloc (Nat.le_refl _) _).alloc (by simp) _
  refine (containsFunc64 A c l lo hi w.heap.size (w.heap.size + 1) _ ?_ ?_ (Kd.C_below HR.out hb)).mono ?_
  · simp
  · simp
  rintro e w' ⟨rfl, rfl⟩
  go_wp2
  go_ret
  exact ⟨by rw [H.out]; rfl, hb⟩
theorem inB_one (lo hi x : Int) : inB lo hi [x] = (decide (lo ≤ x) && decide (x ≤ hi)) := by
  simp only [inB, outB, List.any_cons, List.any_nil, Bool.or_false, Bool.not_or]
  congr 1 <;> (rw [Bool.eq_iff_iff]; simp)
theorem inB_two (lo hi x y : Int) : inB lo hi [x, y] = (decide (lo ≤ x) && decide (x ≤ hi) && (decide (lo ≤ y) && decide (y ≤ hi))) := by
  have h := inB_one lo hi x
  have h2 := inB_one lo hi y
  simp only [inB, List.any_cons, List.any_nil, Bool.or_false, Bool.not_or] at h h2 ⊢
  rw [h, h2]
theorem C_ints {W : World} {g : Nat} (xs : List Int) (hm : xs.length ≤ 9223372036854775807) (h : ∀ j (hj : j < xs.length), W.cell? ⟨g, j, none⟩ = some (.int .i64 xs[j])) : Kd.C (Kd.int .i64) W (some ⟨g, 0, none⟩) xs.length xs :=
  Kd.C_of_reads (d := (0 : Int)) (h1 := fun _ => rfl) ⟨rfl, hm, fun _ => ⟨_, rfl, fun j hj => by
    rw [add_plain]
    rw [h j hj]
    simp [List.getD_eq_getElem?_getD, hj]⟩⟩
theorem C_one {W : World} {g : Nat} {x : Int} (h : W.cell? ⟨g, 0, none⟩ = some (.int .i64 x)) : Kd.C (Kd.int .i64) W (some ⟨g, 0, none⟩) [x].length [x] :=
  C_ints [x] (by simp) (fun j hj => by
    obtain rfl : j = 0 := by simp at hj; exact hj
    exact h)
theorem C_two {W : World} {g : Nat} {x y : Int} (h : W.cell? ⟨g, 0, none⟩ = some (.int .i64 x)) (h1 : W.cell? ⟨g, 1, none⟩ = some (.int .i64 y)) : Kd.C (Kd.int .i64) W (some ⟨g, 0, none⟩) [x, y].length [x, y] :=
  C_ints [x, y] (by simp) (fun j hj => by
    match j, hj with
    | 0, _ => exact h
    | 1, _ => exact h1)
set_option maxHeartbeats 400000 in
theorem stray_calls (s : Sh) (w : World) :
    Calls Try.prog 44 #[.agg #[.int .i64 s.f0, .int .i64 s.f1]] w fun e w' => e = .returned (.bool (!shOk s)) ∧ Below w.heap.size w w' := by
  obtain ⟨p, m⟩ := s
  have H := Lib.hid (show shOk ⟨p, m⟩ = (inB 0 100 [p] && inB (-10) 10 [m]) by simp only [inB_one, shOk]; simp [Bool.and_assoc])
  cases hb : inB 0 100 [p]
  · have HB := Lib.hid hb
    clear hb
    go_enter Try.func44, Try.ntmps44
    go_wp2_with fail
    refine (within_calls (some ⟨w.heap.size + 1, 0, none⟩) 1 [p] 0 100 _ (C_one (by simp))).mono ?_
    rintro e w1 ⟨rfl, hb1⟩
    rw [HB.out]
    go_wp2
    go_ret
    exact ⟨by rw [H.out, HB.out]; rfl, bt (ba (ba (b0 _) _) _) hb1⟩
  · have HB := Lib.hid hb
    clear hb
    go_enter Try.func44, Try.ntmps44
    go_wp2_with fail
    refine (within_calls (some ⟨w.heap.size + 1, 0, none⟩) 1 [p] 0 100 _ (C_one (by simp))).mono ?_
    rintro e w1 ⟨rfl, hb1⟩
    rw [HB.out]
    have hc : w1.cell? ⟨w.heap.size, 1, none⟩ = some (.int .i64 m) := (hb1.cell (by simp; omega)).trans (by simp)
    have hs := hb1.size
    go_wp2_with fail
    refine (within_calls (some ⟨w1.heap.size, 0, none⟩) 1 [m] (-10) 10 _ (C_one (by simp))).mono ?_
    rintro e w2 ⟨rfl, hb2⟩
    go_wp2
    go_ret
    exact ⟨by rw [H.out, HB.out]; rfl, bt (ba (bt (ba (ba (b0 _) _) _) hb1) _) hb2⟩
end Go.Proofs.Ytehfhbdhdbpfpaa.Own
end
section
namespace Go.Proofs.Ytehfhbdhdbpfpaa.Own
open Go.RowKit Go.Proofs.YtehfhbdhdbpfpaaW.PrintWords Go.Proofs.YtehfhbdhdbpfpaaW.PrintLast Go.Proofs.YtehfhbdhdbpfpaaW.PrintMore Go.Proofs.Ytehfhbdhdbpfpaa.Print Go.Proofs.Ytehfhbdhdbpfpaa.Spec
set_option linter.unusedVariables false
set_option linter.unusedSimpArgs false
theorem C_cellSh {w : World} {A : Option Addr} {l : List Sh} (hr : Kd.C k52 w A l.length l) (k : Nat) (hk : k < l.length) :
    ∃ ad, A = some ad ∧ w.cell? (ad.add (k * 2)) = some (.int .i64 l[k].f0) ∧ w.cell? ⟨(ad.add (k * 2)).block, (ad.add (k * 2)).off + 1, none⟩ = some (.int .i64 l[k].f1) := by
  obtain ⟨ad, h1, h2, h3⟩ := at_T52 hr (k : Int) (by omega) (by omega)
  have e : rd_T52 l (k : Int) = l[k] := by simp [rd_T52, List.getD_eq_getElem?_getD, hk]
  rw [e] at h2 h3
  exact ⟨ad, h1, by simpa using h2, by simpa using h3⟩
set_option maxHeartbeats 400000 in
theorem indexFuncSh (A : Option Addr) (c : Nat) (l : List Sh) (w : World) (hr : Kd.C k52 w A l.length l) :
    Calls Try.prog 64 #[.slice A l.length c, .func (.func 44) #[] #[]] w
      fun e w' => e = .returned (.int .i64 (idx (fun s => !shOk s) l)) ∧ Below w.heap.size w w' := by
  have hm : l.length ≤ 9223372036854775807 := hr.2.1
  have HR := Lib.hid hr
  clear hr
  go_enter Try.func64, Try.ntmps64
  go_wp2
  go_loopw [8] (fun i wr => ∃ k : Nat, k ≤ l.length ∧ i = .int .i64 k ∧ Hid (∀ j (hj : j < l.length), j < k → (!shOk l[j]) = false) ∧ Hid (Below w.heap.size w wr)) (fun i _ => l.length - (intOf i).toNat)
  case atStart => exact ⟨0, Nat.zero_le _, rfl, fun j hj h => absurd h (by omega), b0 _⟩
  case round =>
    obtain ⟨k, hk, rfl, HP, HW⟩ := hrel
    by_cases hlt : k < l.length
    · obtain ⟨ad, rfl, hc, hc2⟩ := C_cellSh (Kd.C_below HR.out HW.out) k hlt
      cases hb : (!shOk l[k])
      · have HB := Lib.hid hb
        clear hb
        go_wp2_with fail
        refine (stray_calls l[k] _).mono ?_
        rintro e w1 ⟨rfl, hb1⟩
        rw [HB.out]
        go_wp2
        go_roundw
        case rel => exact ⟨k + 1, by omega, by go_num, fun j hj h => by
          by_cases e : j = k
          · subst e; exact HB.out
          · exact HP.out j hj (by omega), bt HW.out hb1⟩
        case measure => simp [intOf]; omega
      · have HB := Lib.hid hb
        clear hb
        have H := Lib.hid (idx_hit (fun s => !shOk s) l k hlt HP.out HB.out)
        go_wp2_with fail
        refine (stray_calls l[k] _).mono ?_
        rintro e w1 ⟨rfl, hb1⟩
        rw [HB.out]
        go_wp2
        go_ret
        exact ⟨by rw [H.out]; rfl, bt HW.out hb1⟩
    · have H := Lib.hid (idx_none (fun s => !shOk s) l (fun j hj => HP.out j hj (by omega)))
      go_wp2
      go_ret
      exact ⟨by rw [H.out]; rfl, HW.out⟩
theorem containsFuncSh (A : Option Addr) (c : Nat) (l : List Sh) (w : World) (hr : Kd.C k52 w A l.length l) :
    Calls Try.prog 43 #[.slice A l.length c, .func (.func 44) #[] #[]] w
      fun e w' => e = .returned (.bool (l.any (fun s => !shOk s))) ∧ Below w.heap.size w w' := by
  have H := Lib.hid (idx_any (fun s => !shOk s) l)
  have HR := Lib.hid hr
  clear hr
  go_enter Try.func43, Try.ntmps43
  go_wp2_with fail
  refine (indexFuncSh A c l _ HR.out).mono ?_
  rintro e w' ⟨rfl, hb⟩
  go_wp2
  go_ret
  exact ⟨by rw [← H.out]; rfl, hb⟩
theorem panel6 (l : List Sh) (lo hi : Int) (h : l.length < 3 ∨ 7 < l.length ∨ l.length % 2 = 0) : panel l lo hi = 6 := by unfold panel; rw [if_pos h]
theorem panel3 (l : List Sh) (lo hi : Int) (h : ¬ (l.length < 3 ∨ 7 < l.length ∨ l.length % 2 = 0)) (h2 : l.any (fun s => !shOk s) = true ∨ lo < 0 ∨ 50 < lo ∨ hi < 0 ∨ 50 < hi ∨ hi < lo) : panel l lo hi = 3 := by unfold panel; rw [if_neg h, if_pos h2]
theorem panel0 (l : List Sh) (lo hi : Int) (h : ¬ (l.length < 3 ∨ 7 < l.length ∨ l.length % 2 = 0)) (h2 : ¬ (l.any (fun s => !shOk s) = true ∨ lo < 0 ∨ 50 < lo ∨ hi < 0 ∨ 50 < hi ∨ hi < lo)) : panel l lo hi = 0 := by unfold panel; rw [if_neg h, if_neg h2]
set_option maxHeartbeats 800000 in
theorem checkPanel_calls (A : Option Addr) (c : Nat) (l : List Sh) (lo hi : Int) (w : World) (hr : Kd.C k52 w A l.length l) :
    Calls Try.prog 16 #[.agg #[.slice A l.length c, .int .i64 lo, .int .i64 hi]] w fun e w' => e = .returned (.int .i64 (panel l lo hi)) ∧ Below w.heap.size w w' := by
  have hm : l.length ≤ 9223372036854775807 := hr.2.1
  have HR := Lib.hid hr
  clear hr
  have HI := Lib.hid (inB_one 3 7 (l.length : Int))
  cases hb : inB 3 7 [(l.length : Int)]
  · have HB := Lib.hid hb
    have H := Lib.hid (panel6 l lo hi (by rw [HI.out] at hb; simp at hb; omega))
    clear hb
    go_enter Try.func16, Try.ntmps16
    go_wp2_with fail
    refine (within_calls (some ⟨w.heap.size + 1, 0, none⟩) 1 [(l.length : Int)] 3 7 _ (C_one (by simp))).mono ?_
    rintro e w1 ⟨rfl, hb1⟩
    rw [HB.out]
    go_wp2
    go_ret
    exact ⟨by rw [H.out]; rfl, bt (ba (ba (b0 _) _) _) hb1⟩
  · have HB := Lib.hid hb
    have hlen : 3 ≤ l.length ∧ l.length ≤ 7 := by rw [HI.out] at hb; simp at hb; omega
    clear hb
    cases he : ((l.length : Int) % 2 == 0)
    · have hodd : ¬ (l.length < 3 ∨ 7 < l.length ∨ l.length % 2 = 0) := by rw [beq_eq_false_iff_ne] at he; omega
      have HO := Lib.hid hodd
      clear hodd
      cases ha : l.any (fun s => !shOk s)
      · have HA := Lib.hid ha
        clear ha
        cases hi2 : inB 0 50 [lo, hi]
        · have HI2 := Lib.hid hi2
          have H := Lib.hid (panel3 l lo hi HO.out (by rw [inB_two] at hi2; simp at hi2; omega))
          clear hi2
          go_enter Try.func16, Try.ntmps16
          go_wp2_with fail
          refine (within_calls (some ⟨w.heap.size + 1, 0, none⟩) 1 [(l.length : Int)] 3 7 _ (C_one (by simp))).mono ?_
          rintro e w1 ⟨rfl, hb1⟩
          rw [HB.out]
          have hb1' := Lib.hid (bt (ba (ba (b0 w) _) _) hb1)
          have hc0 : w1.cell? ⟨w.heap.size, 0, none⟩ = some (.slice A l.length c) := (hb1.cell (by simp; omega)).trans (by simp)
          have hc1 : w1.cell? ⟨w.heap.size, 1, none⟩ = some (.int .i64 lo) := (hb1.cell (by simp; omega)).trans (by simp)
          have hc2 : w1.cell? ⟨w.heap.size, 2, none⟩ = some (.int .i64 hi) := (hb1.cell (by simp; omega)).trans (by simp)
          have hs : w.heap.size + 1 < w1.heap.size := by have := hb1.size; simp at this; omega
          clear hb1
          go_wp2_with fail
          refine (containsFuncSh A c l _ (Kd.C_below HR.out hb1'.out)).mono ?_
          rintro e w2 ⟨rfl, hb2⟩
          rw [HA.out]
          have hb2' := Lib.hid (bt hb1'.out hb2)
          replace hc1 : w2.cell? ⟨w.heap.size, 1, none⟩ = some (.int .i64 lo) := (hb2.cell (by simp; omega)).trans hc1
          replace hc2 : w2.cell? ⟨w.heap.size, 2, none⟩ = some (.int .i64 hi) := (hb2.cell (by simp; omega)).trans hc2
          clear hc0 hb2
          go_wp2_with fail
          refine (within_calls (some ⟨w2.heap.size, 0, none⟩) 2 [lo, hi] 0 50 _ (C_two (by simp) (by simp))).mono ?_
          rintro e w3 ⟨rfl, hb3⟩
          rw [HI2.out]
          go_wp2
          go_ret
          exact ⟨by rw [H.out]; rfl, bt (ba hb2'.out _) hb3⟩
        · have HI2 := Lib.hid hi2
          have hbd : 0 ≤ lo ∧ lo ≤ 50 ∧ 0 ≤ hi ∧ hi ≤ 50 := by rw [inB_two] at hi2; simp at hi2; omega
          clear hi2
          cases hg : decide (hi < lo)
          · have H := Lib.hid (panel0 l lo hi HO.out (by have := of_decide_eq_false hg; rw [HA.out]; simp; omega))
            go_enter Try.func16, Try.ntmps16
            go_wp2_with fail
            refine (within_calls (some ⟨w.heap.size + 1, 0, none⟩) 1 [(l.length : Int)] 3 7 _ (C_one (by simp))).mono ?_
            rintro e w1 ⟨rfl, hb1⟩
            rw [HB.out]
            have hb1' := Lib.hid (bt (ba (ba (b0 w) _) _) hb1)
            have hc0 : w1.cell? ⟨w.heap.size, 0, none⟩ = some (.slice A l.length c) := (hb1.cell (by simp; omega)).trans (by simp)
            have hc1 : w1.cell? ⟨w.heap.size, 1, none⟩ = some (.int .i64 lo) := (hb1.cell (by simp; omega)).trans (by simp)
            have hc2 : w1.cell? ⟨w.heap.size, 2, none⟩ = some (.int .i64 hi) := (hb1.cell (by simp; omega)).trans (by simp)
            have hs : w.heap.size + 1 < w1.heap.size := by have := hb1.size; simp at this; omega
            clear hb1
            go_wp2_with fail
            refine (containsFuncSh A c l _ (Kd.C_below HR.out hb1'.out)).mono ?_
            rintro e w2 ⟨rfl, hb2⟩
            rw [HA.out]
            have hb2' := Lib.hid (bt hb1'.out hb2)
            replace hc1 : w2.cell? ⟨w.heap.size, 1, none⟩ = some (.int .i64 lo) := (hb2.cell (by simp; omega)).trans hc1
            replace hc2 : w2.cell? ⟨w.heap.size, 2, none⟩ = some (.int .i64 hi) := (hb2.cell (by simp; omega)).trans hc2
            have hs2 : w.heap.size + 1 < w2.heap.size := by have := hb2.size; omega
            clear hc0 hb2
            go_wp2_with fail
            refine (within_calls (some ⟨w2.heap.size, 0, none⟩) 2 [lo, hi] 0 50 _ (C_two (by simp) (by simp))).mono ?_
            rintro e w3 ⟨rfl, hb3⟩
            rw [HI2.out]
            have hb3' := Lib.hid (bt (ba hb2'.out (.cells #[.int .i64 lo, .int .i64 hi] 2)) hb3)
            replace hc1 : w3.cell? ⟨w.heap.size, 1, none⟩ = some (.int .i64 lo) := (hb3.cell (by simp; omega)).trans (by rw [World.cell?_alloc_lt _ _ _ (by simp; omega)]; exact hc1)
            replace hc2 : w3.cell? ⟨w.heap.size, 2, none⟩ = some (.int .i64 hi) := (hb3.cell (by simp; omega)).trans (by rw [World.cell?_alloc_lt _ _ _ (by simp; omega)]; exact hc2)
            clear hb3
            go_wp2
            go_ret
            exact ⟨by rw [H.out]; rfl, hb3'.out⟩
          · have H := Lib.hid (panel3 l lo hi HO.out (by have := of_decide_eq_true hg; omega))
            go_enter Try.func16, Try.ntmps16
            go_wp2_with fail
            refine (within_calls (some ⟨w.heap.size + 1, 0, none⟩) 1 [(l.length : Int)] 3 7 _ (C_one (by simp))).mono ?_
            rintro e w1 ⟨rfl, hb1⟩
            rw [HB.out]
            have hb1' := Lib.hid (bt (ba (ba (b0 w) _) _) hb1)
            have hc0 : w1.cell? ⟨w.heap.size, 0, none⟩ = some (.slice A l.length c) := (hb1.cell (by simp; omega)).trans (by simp)
            have hc1 : w1.cell? ⟨w.heap.size, 1, none⟩ = some (.int .i64 lo) := (hb1.cell (by simp; omega)).trans (by simp)
            have hc2 : w1.cell? ⟨w.heap.size, 2, none⟩ = some (.int .i64 hi) := (hb1.cell (by simp; omega)).trans (by simp)
            have hs : w.heap.size + 1 < w1.heap.size := by have := hb1.size; simp at this; omega
            clear hb1
            go_wp2_with fail
            refine (containsFuncSh A c l _ (Kd.C_below HR.out hb1'.out)).mono ?_
            rintro e w2 ⟨rfl, hb2⟩
            rw [HA.out]
            have hb2' := Lib.hid (bt hb1'.out hb2)
            replace hc1 : w2.cell? ⟨w.heap.size, 1, none⟩ = some (.int .i64 lo) := (hb2.cell (by simp; omega)).trans hc1
            replace hc2 : w2.cell? ⟨w.heap.size, 2, none⟩ = some (.int .i64 hi) := (hb2.cell (by simp; omega)).trans hc2
            have hs2 : w.heap.size + 1 < w2.heap.size := by have := hb2.size; omega
            clear hc0 hb2
            go_wp2_with fail
            refine (within_calls (some ⟨w2.heap.size, 0, none⟩) 2 [lo, hi] 0 50 _ (C_two (by simp) (by simp))).mono ?_
            rintro e w3 ⟨rfl, hb3⟩
            rw [HI2.out]
            have hb3' := Lib.hid (bt (ba hb2'.out (.cells #[.int .i64 lo, .int .i64 hi] 2)) hb3)
            replace hc1 : w3.cell? ⟨w.heap.size, 1, none⟩ = some (.int .i64 lo) := (hb3.cell (by simp; omega)).trans (by rw [World.cell?_alloc_lt _ _ _ (by simp; omega)]; exact hc1)
            replace hc2 : w3.cell? ⟨w.heap.size, 2, none⟩ = some (.int .i64 hi) := (hb3.cell (by simp; omega)).trans (by rw [World.cell?_alloc_lt _ _ _ (by simp; omega)]; exact hc2)
            clear hb3
            go_wp2
            go_ret
            exact ⟨by rw [H.out]; rfl, hb3'.out⟩
      · have HA := Lib.hid ha
        have H := Lib.hid (panel3 l lo hi HO.out (.inl ha))
        clear ha
        go_enter Try.func16, Try.ntmps16
        go_wp2_with fail
        refine (within_calls (some ⟨w.heap.size + 1, 0, none⟩) 1 [(l.length : Int)] 3 7 _ (C_one (by simp))).mono ?_
        rintro e w1 ⟨rfl, hb1⟩
        rw [HB.out]
        have hb1' := Lib.hid (bt (ba (ba (b0 w) _) _) hb1)
        have hc0 : w1.cell? ⟨w.heap.size, 0, none⟩ = some (.slice A l.length c) := (hb1.cell (by simp; omega)).trans (by simp)
        have hs : w.heap.size + 1 < w1.heap.size := by have := hb1.size; simp at this; omega
        clear hb1
        go_wp2_with fail
        refine (containsFuncSh A c l _ (Kd.C_below HR.out hb1'.out)).mono ?_
        rintro e w2 ⟨rfl, hb2⟩
        rw [HA.out]
        go_wp2
        go_ret
        exact ⟨by rw [H.out]; rfl, bt hb1'.out hb2⟩
    · have H := Lib.hid (panel6 l lo hi (by rw [beq_iff_eq] at he; omega))
      go_enter Try.func16, Try.ntmps16
      go_wp2_with fail
      refine (within_calls (some ⟨w.heap.size + 1, 0, none⟩) 1 [(l.length : Int)] 3 7 _ (C_one (by simp))).mono ?_
      rintro e w1 ⟨rfl, hb1⟩
      rw [HB.out]
      have hb1' := Lib.hid (bt (ba (ba (b0 w) _) _) hb1)
      have hc0 : w1.cell? ⟨w.heap.size, 0, none⟩ = some (.slice A l.length c) := (hb1.cell (by simp; omega)).trans (by simp)
      clear hb1
      go_wp2
      go_ret
      exact ⟨by rw [H.out]; rfl, hb1'.out⟩
end Go.Proofs.Ytehfhbdhdbpfpaa.Own
end
