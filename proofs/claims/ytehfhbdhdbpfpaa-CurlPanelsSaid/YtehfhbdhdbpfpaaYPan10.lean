/- Parts of a proof: P1 C3 C4 P2. No condition. -/
import Derived.Test.YtehfhbdhdbpfpaaYPan06
import Derived.Test.YtehfhbdhdbpfpaaYPan07
import Derived.Test.YtehfhbdhdbpfpaaYPan08
import Derived.Test.YtehfhbdhdbpfpaaYPan09
import Derived.RangeFuncBox
import Derived.Maps.AppendAt
namespace Go.Proofs.Ytehfhbdhdbpfpaa.Lib
end Go.Proofs.Ytehfhbdhdbpfpaa.Lib
namespace Go.Proofs.Ytehfhbdhdbpfpaa.Spec
end Go.Proofs.Ytehfhbdhdbpfpaa.Spec
namespace Go.Proofs.YtehfhbdhdbpfpaaW.PrintLast
end Go.Proofs.YtehfhbdhdbpfpaaW.PrintLast
namespace Go.Proofs.YtehfhbdhdbpfpaaW.PrintMore
end Go.Proofs.YtehfhbdhdbpfpaaW.PrintMore
namespace Go.Proofs.YtehfhbdhdbpfpaaW.PrintWords
end Go.Proofs.YtehfhbdhdbpfpaaW.PrintWords
set_option linter.unusedVariables false
set_option linter.unusedSimpArgs false
section
namespace Go.Proofs.Ytehfhbdhdbpfpaa.Plain
open Go.RowKit Go.Proofs.YtehfhbdhdbpfpaaW.PrintWords Go.Proofs.Ytehfhbdhdbpfpaa.Lib
set_option linter.unusedVariables false
def SortedTo (xs : List Int) (m : Nat) : Prop := ∀ a b, a < b → b < m → xs.getD a 0 ≤ xs.getD b 0
def Hole (xs : List Int) (i j : Nat) : Prop :=
  (∀ a b, a < b → b ≤ i → a ≠ j → b ≠ j → xs.getD a 0 ≤ xs.getD b 0) ∧ (∀ b, j < b → b ≤ i → xs.getD j 0 ≤ xs.getD b 0)
theorem getD_set (xs : List Int) (p q : Nat) (u : Int) (hp : p < xs.length) : (xs.set p u).getD q 0 = if p = q then u else xs.getD q 0 := by
  simp only [List.getD_eq_getElem?_getD, List.getElem?_set]
  split
  · subst_vars; simp
  · rfl
theorem rd_nat (xs : List Int) (k : Nat) : rd xs (k : Int) = xs.getD k 0 := by simp [rd]
theorem swap_perm (xs : List Int) (p q : Nat) (hp : p < xs.length) (hq : q < xs.length) (hne : p ≠ q) : ((xs.set p (xs.getD q 0)).set q (xs.getD p 0)).Perm xs := by
  rw [List.perm_iff_count]
  intro b
  have h1 : q < (xs.set p (xs.getD q 0)).length := by simpa using hq
  rw [List.count_set h1, List.count_set hp, List.getElem_set_ne hne]
  have e1 : xs.getD q 0 = xs[q] := by simp [List.getD_eq_getElem?_getD, hq]
  have e2 : xs.getD p 0 = xs[p] := by simp [List.getD_eq_getElem?_getD, hp]
  simp only [e1, e2]
  have c1 : (if xs[p] == b then 1 else 0) ≤ xs.count b := by
    split
    · rename_i h; exact List.count_pos_iff.2 (by rw [← beq_iff_eq.1 h]; exact List.getElem_mem hp)
    · omega
  generalize (if xs[p] == b then 1 else 0) = x at *
  generalize (if xs[q] == b then 1 else 0) = y at *
  omega
theorem less_f (a b : Int) : cmp_Less_int.f a b = some (decide (a < b)) := by
  simp [cmp_Less_int.f, cmp_isNaN_int.f]
theorem w64 (i : Int) (h0 : -9223372036854775808 ≤ i) (h : i ≤ 9223372036854775807) : wrap64 i = i := by unfold wrap64; omega
theorem hole_step (xs : List Int) (i j : Nat) (hj : j + 1 ≤ i) (hi : i < xs.length) (h : Hole xs i (j + 1)) (hlt : xs.getD (j + 1) 0 < xs.getD j 0) :
    Hole ((xs.set (j + 1) (xs.getD j 0)).set j (xs.getD (j + 1) 0)) i j := by
  have g : ∀ q, ((xs.set (j + 1) (xs.getD j 0)).set j (xs.getD (j + 1) 0)).getD q 0 = if j = q then xs.getD (j + 1) 0 else if j + 1 = q then xs.getD j 0 else xs.getD q 0 := by
    intro q
    rw [getD_set _ _ _ _ (by simp; omega), getD_set _ _ _ _ (by omega)]
  obtain ⟨h1, h2⟩ := h
  refine ⟨fun a b hab hb ha hb' => ?_, fun b hb hbi => ?_⟩
  · rw [g a, g b, if_neg (show ¬ j = a by omega), if_neg (show ¬ j = b by omega)]
    by_cases e : j + 1 = a
    · rw [if_pos e, if_neg (show ¬ j + 1 = b by omega)]
      exact h1 j b (by omega) hb (by omega) (by omega)
    · rw [if_neg e]
      by_cases e2 : j + 1 = b
      · rw [if_pos e2]
        exact h1 a j (by omega) (by omega) (by omega) (by omega)
      · rw [if_neg e2]
        exact h1 a b hab hb (by omega) (by omega)
  · rw [g j, g b, if_pos rfl, if_neg (show ¬ j = b by omega)]
    by_cases e : j + 1 = b
    · rw [if_pos e]; omega
    · rw [if_neg e]; exact h2 b (by omega) hbi
theorem hole_done (xs : List Int) (i j : Nat) (hj : j ≤ i) (h : Hole xs i j) (hs : ∀ p, j = p + 1 → xs.getD p 0 ≤ xs.getD j 0) : SortedTo xs (i + 1) := by
  intro a b hab hb
  obtain ⟨h1, h2⟩ := h
  by_cases ea : a = j
  · subst ea; exact h2 b hab (by omega)
  · by_cases eb : b = j
    · subst eb
      obtain ⟨p, rfl⟩ : ∃ p, b = p + 1 := ⟨b - 1, by omega⟩
      have := hs p rfl
      by_cases e : a = p
      · subst e; exact this
      · have := h1 a p (by omega) (by omega) (by omega) (by omega); omega
    · exact h1 a b hab (by omega) ea eb
theorem inner (n : Nat) (hn : n ≤ 1000) (i : Nat) (hi : i < n) : ∀ (j : Nat) (xs : List Int), xs.length = n → j ≤ i → Hole xs i j →
    ∃ (xs' : List Int) (m : Nat), xs'.Perm xs ∧ SortedTo xs' (i + 1) ∧ ∀ k, slices_insertionSortOrdered_int.l1 (k + m) xs 0 n i j = slices_insertionSortOrdered_int.l0 k xs' 0 n ((i : Int) + 1) := by
  intro j
  induction j with
  | zero =>
    intro xs hl hj h
    refine ⟨xs, 1, List.Perm.refl _, hole_done xs i 0 hj h (fun p hp => by omega), fun k => ?_⟩
    simp only [slices_insertionSortOrdered_int.l1]
    rw [if_neg (by omega), w64 _ (by omega) (by omega)]
  | succ j ih =>
    intro xs hl hj h
    have e0 : ((j + 1 : Nat) : Int) - 1 = (j : Int) := by omega
    by_cases hlt : xs.getD (j + 1) 0 < xs.getD j 0
    · obtain ⟨xs', m, hp, hs, hk⟩ := ih ((xs.set (j + 1) (xs.getD j 0)).set j (xs.getD (j + 1) 0)) (by simpa using hl) (by omega) (hole_step xs i j hj (by omega) h hlt)
      refine ⟨xs', m + 1, hp.trans (swap_perm xs (j + 1) j (by omega) (by omega) (by omega)), hs, fun k => ?_⟩
      rw [← hk k, show k + (m + 1) = (k + m) + 1 by omega]
      simp only [slices_insertionSortOrdered_int.l1]
      rw [w64 _ (by omega) (by omega), e0]
      rw [if_pos (by omega), if_pos (by omega), if_pos (by omega), if_pos (by omega), if_pos (by omega), less_f]
      simp only [Option.bind_some, rd_nat]
      rw [if_pos (by simpa using hlt)]
      simp
    · refine ⟨xs, 1, List.Perm.refl _, hole_done xs i (j + 1) hj h (fun p hp => by
        obtain rfl : j = p := by omega
        omega), fun k => ?_⟩
      simp only [slices_insertionSortOrdered_int.l1]
      rw [w64 (((j + 1 : Nat) : Int) - 1) (by omega) (by omega), e0]
      rw [if_pos (by omega), if_pos (by omega), if_pos (by omega), if_pos (by omega), if_pos (by omega), less_f]
      simp only [Option.bind_some, rd_nat]
      rw [if_neg (by simpa using hlt), w64 _ (by omega) (by omega)]
theorem outer (n : Nat) (hn : n ≤ 1000) : ∀ (d i : Nat) (xs : List Int), xs.length = n → n - i = d → SortedTo xs i →
    ∃ (k : Nat) (r : List Int), slices_insertionSortOrdered_int.l0 k xs 0 n i = some r ∧ r.Perm xs ∧ SortedTo r n := by
  intro d
  induction d with
  | zero =>
    intro i xs hl hd hs
    exact ⟨1, xs, by simp only [slices_insertionSortOrdered_int.l0]; rw [if_neg (by omega)], List.Perm.refl _, fun a b hab hb => hs a b hab (by omega)⟩
  | succ d ih =>
    intro i xs hl hd hs
    obtain ⟨xs', m, hp, hs', hk⟩ := inner n hn i (by omega) i xs hl (Nat.le_refl _) ⟨fun a b hab hb ha hb' => hs a b hab (by omega), fun b hb hbi => by omega⟩
    obtain ⟨k, r, hr, hp2, hs2⟩ := ih (i + 1) xs' (by rw [hp.length_eq, hl]) (by omega) hs'
    refine ⟨k + m + 1, r, ?_, hp2.trans hp, hs2⟩
    simp only [slices_insertionSortOrdered_int.l0]
    rw [if_pos (by omega), hk k]
    exact hr
theorem sort_f (xs : List Int) (hn : xs.length ≤ 1000) : ∃ (k : Nat) (r : List Int), slices_insertionSortOrdered_int.f k xs 0 xs.length = some r ∧ r.Perm xs ∧ SortedTo r r.length := by
  obtain ⟨k, r, h, hp, hs⟩ := outer xs.length hn (xs.length - 1) 1 xs rfl rfl (fun a b hab hb => by omega)
  exact ⟨k, r, by unfold slices_insertionSortOrdered_int.f; rw [w64 _ (by omega) (by omega)]; exact h, hp, by rw [hp.length_eq]; exact hs⟩
theorem sorted_pairwise (r : List Int) (h : SortedTo r r.length) : r.Pairwise (· ≤ ·) := by
  rw [List.pairwise_iff_getElem]
  intro i j hi hj hij
  have := h i j hij hj
  simpa [List.getD_eq_getElem?_getD, hi, hj] using this
end Go.Proofs.Ytehfhbdhdbpfpaa.Plain
end
section
namespace Go.Proofs.Ytehfhbdhdbpfpaa.Own
open Go.RowKit Go.Shelf Go.Proofs.YtehfhbdhdbpfpaaW.PrintWords Go.Proofs.YtehfhbdhdbpfpaaW.PrintLast Go.Proofs.YtehfhbdhdbpfpaaW.PrintMore
set_option linter.unusedVariables false
set_option linter.unusedSimpArgs false
def AnyInt (w : World) (e : Ending) (w' : World) : Prop := (∃ r : Int, e = .returned (.int .i64 r)) ∧ w = w'
set_option maxRecDepth 100000 in
set_option maxHeartbeats 400000 in
theorem len64_small (n : Int) (h0 : 0 ≤ n) (h : n ≤ 12) (w : World) : Calls Try.prog 87 #[.int .u64 n] w (AnyInt w) := by
  have h1 : ¬ 4294967296 ≤ n := by omega
  have h2 : ¬ 65536 ≤ n := by omega
  have h3 : ¬ 256 ≤ n := by omega
  go_enter Try.func87, Try.ntmps87
  go_wp2
  go_ret
  exact ⟨⟨_, rfl⟩, rfl⟩
set_option maxHeartbeats 400000 in
theorem len_small (n : Int) (h0 : 0 ≤ n) (h : n ≤ 12) (w : World) : Calls Try.prog 70 #[.int .u64 n] w (AnyInt w) := by
  go_enter Try.func70, Try.ntmps70
  go_wp2_with fail
  refine (len64_small n h0 h _).mono ?_
  rintro e w' ⟨⟨r, rfl⟩, rfl⟩
  go_wp2
  go_ret
  exact ⟨⟨_, rfl⟩, rfl⟩
def SortedP (w0 w : World) (P : Nat → Prop) (u : Value) (l : List Int) (e : Ending) (w' : World) : Prop :=
  e = .returned (.tuple #[]) ∧ ∃ r : List Int, r.Perm l ∧ r.Pairwise (· ≤ ·) ∧ Kd.R (Kd.int .i64) 3 w' w0.heap.size (fun k => P k ∨ w.heap.size ≤ k) u r ∧ Below w0.heap.size w0 w'
set_option maxRecDepth 100000 in
set_option maxHeartbeats 400000 in
theorem pdq12 (P : Nat → Prop) (u : Value) (l : List Int) (lim : Int) (w0 w : World) (hB : Below w0.heap.size w0 w) (ho : Kd.R (Kd.int .i64) 3 w w0.heap.size P u l) (hl : l.length ≤ 12) :
    Calls Try.prog 89 #[u, .int .i64 0, .int .i64 l.length, .int .i64 lim] w (SortedP w0 w P u l) := by
  obtain ⟨k, r, hk, hp, hs⟩ := Plain.sort_f l (by omega)
  have HF := Lib.hid (⟨hk, hp, Plain.sorted_pairwise r hs⟩ : _ ∧ _ ∧ _)
  have HO := Lib.hid ho
  clear hk hp hs ho
  go_enter Try.func89, Try.ntmps89
  go_wp2
  refine wp_loop_once ?_
  go_wp2_with fail
  refine (Lib.slices_insertionSortOrdered_int.calls k P u l 0 l.length r w0 _ hB HO.out HF.out.1).mono ?_
  rintro e w' ⟨rfl, h1, h2, h3⟩
  go_wp2
  refine bodyPost_ret (results_none rfl _ _ _) rfl ?_
  exact ⟨rfl, r, HF.out.2.1, HF.out.2.2, h1, h2⟩
set_option maxHeartbeats 400000 in
theorem sort12 (P : Nat → Prop) (u : Value) (l : List Int) (w0 w : World) (hB : Below w0.heap.size w0 w) (ho : Kd.R (Kd.int .i64) 3 w w0.heap.size P u l) (hl : l.length ≤ 12) :
    Calls Try.prog 74 #[u] w (SortedP w0 w P u l) := by
  obtain ⟨A, c, rfl⟩ := Kd.R_slice ho
  have HO := Lib.hid ho
  clear ho
  go_enter Try.func74, Try.ntmps74
  go_wp2_with fail
  refine (len_small (l.length : Int) (by omega) (by omega) _).mono ?_
  rintro e w' ⟨⟨n, rfl⟩, rfl⟩
  go_wp2_with fail
  refine (pdq12 P _ l n w0 _ hB HO.out hl).mono ?_
  rintro e w' ⟨rfl, r, h1, h2, h3, h4⟩
  go_wp2
  go_end0
  exact ⟨rfl, r, h1, h2, h3, h4⟩
end Go.Proofs.Ytehfhbdhdbpfpaa.Own
end
section
namespace Go.Proofs.Ytehfhbdhdbpfpaa.Own
open Go.RowKit Go.Shelf Go.Proofs.YtehfhbdhdbpfpaaW.PrintWords Go.Proofs.YtehfhbdhdbpfpaaW.PrintLast Go.Proofs.YtehfhbdhdbpfpaaW.PrintMore
set_option linter.unusedVariables false
set_option linter.unusedSimpArgs false
attribute [local go_sem] Oper.semAt_some
theorem infoInt : (Try.prog.info? 3).map (fun i => (i.zero, i.size, i.bytes)) = some (some (.int .i64 0), 1, 8) := by kernel_rfl
set_option maxRecDepth 100000 in
set_option maxHeartbeats 1000000 in
theorem values_seq (A : Option Addr) (c : Nat) (xs : List Int) (bx B l : Nat) (bad : TypeId) (w W0 : World) (hb : Below w.heap.size w W0) (hB : w.heap.size ≤ B) (hl : w.heap.size ≤ l) (hbx : bx < w.heap.size)
    (hc : w.cell? ⟨bx, 0, none⟩ = some (.slice A xs.length c)) (hr : Kd.C (Kd.int .i64) w A xs.length xs) :
    SeqOwn Try.prog 75 #[.pointer (some ⟨bx, 0, none⟩)] (fun (x : Int) v _ => v = .int .i64 x) xs (fun _ => False) (fun W k => BS B (fun k => k < w.heap.size) bad W k ∨ k = l) l W0 := by
  intro J hJ hY h0
  have hm : xs.length ≤ 9223372036854775807 := hr.2.1
  have HR := Lib.hid hr
  have HBX := Lib.hid hbx
  have hc0 : W0.cell? ⟨bx, 0, none⟩ = some (.slice A xs.length c) := (hb.cell (p := ⟨bx, 0, none⟩) hbx).trans hc
  have HS : Hid (∀ W W', KS ((fun W k => BS B (fun k => k < w.heap.size) bad W k ∨ k = l) W) W W' → w.heap.size ≤ W.heap.size → Below w.heap.size W W') := Lib.hid (fun W W' h hw => h.below hw (fun i hi => by
    rcases hi with (⟨h1, h2⟩ | ⟨h1, _⟩) | h1 <;> omega))
  have HY := Lib.hid hY
  clear hr hbx hY hc
  refine callsIn_of_wp Try.func75 rfl trivial ?_ rfl
  simp only [Try.ntmps75, List.size_toArray, List.length_cons, List.length_nil, Nat.reduceAdd, Nat.reduceSub, Array.replicate_succ, Array.replicate_zero, List.push_toArray, List.append_toArray, List.nil_append, List.cons_append]
  gi_wp2
  gi_loopw [7] (fun i wr => ∃ k : Nat, k ≤ xs.length ∧ i = .int .i64 k ∧ Hid (J (xs.take k) wr) ∧ Hid (Below w.heap.size w wr)) (fun i _ => xs.length - (intOf i).toNat)
  case atStart => exact ⟨0, Nat.zero_le _, rfl, Lib.hid (by simpa using h0), hb⟩
  case round =>
    obtain ⟨k, hk, rfl, HJ, HW⟩ := hrel
    by_cases hlt : k < xs.length
    · obtain ⟨ad, rfl, hcx⟩ := C_cell (Kd.C_below HR.out HW.out) k hlt
      have htk : xs.take k ++ [xs[k]] = xs.take (k + 1) := by rw [List.take_succ_eq_append_getElem hlt]
      obtain ⟨fn, tmps, assign, body, hy, hR⟩ := HY.out (xs.take k) xs[k] _ wr HJ.out (by rw [htk]; exact List.take_prefix _ _) rfl
      have HT := Lib.hid htk
      clear htk
      gi_wp2
      refine (round_any hR).mono ?_
      rintro e W3 ⟨rfl, hJ3, hk3⟩
      have HJ3 := Lib.hid hJ3
      have HK3 := Lib.hid (HS.out _ _ hk3 HW.out.size)
      clear hJ3 hk3
      gi_wp2
      go_roundw
      case rel => exact ⟨k + 1, by omega, by go_num, by rw [← HT.out]; exact HJ3.out, HW.out.trans HK3.out⟩
      case measure => simp [intOf]; omega
    · have HE := Lib.hid (show xs.take k = xs by rw [List.take_of_length_le (by omega)])
      gi_wp2
      go_end0
      exact ⟨⟨_, rfl⟩, by have := HJ.out; rw [HE.out] at this; exact this⟩
theorem values_calls (A : Option Addr) (n c : Nat) (w : World) :
    Calls Try.prog 59 #[.slice A n c] w fun e w' => e = .returned (.func (.func 75) #[] #[.pointer (some ⟨w.heap.size, 0, none⟩)]) ∧ w.alloc (.cells #[.slice A n c] 27) = w' := by
  go_enter Try.func59, Try.ntmps59
  go_wp2
  go_ret
  exact ⟨rfl, rfl⟩
def Made (w : World) (xs : List Int) (e : Ending) (w' : World) : Prop := ∃ v, e = .returned v ∧ Kd.R (Kd.int .i64) 3 w' w.heap.size (fun _ => True) v xs ∧ Below w.heap.size w w'
def Coll (w : World) (pre : List Int) (W : World) : Prop :=
  ∃ v, Boxed W w.heap.size 27 v ∧ W.ownsRow (w.heap.size + 3) 3 1 v pre.length (pre.map (Value.int .i64)) ∧ Below w.heap.size w W
theorem Coll.move {w W W' : World} {pre : List Int} (h : Coll w pre W) (hk : KS (fun k => False ∨ k = w.heap.size + 1 ∨ k = w.heap.size + 1 + 1) W W') : Coll w pre W' := by
  obtain ⟨v, h1, h2, h3⟩ := h
  refine ⟨v, hk.blk h1 (by rintro (h | h | h) <;> first | exact h | omega), own_move h2 (fun k hb => ?_), h3.trans (hk.below h3.size (fun i hi => by rcases hi with h | h | h <;> first | exact h.elim | omega))⟩
  have h4 := own_lt h2 k hb
  have h5 := own_base h2 k hb
  exact hk.block k h4 (by rintro (h | h | h) <;> first | exact h | omega)
set_option maxRecDepth 100000 in
set_option maxHeartbeats 1000000 in
theorem appendSeq_ints (A : Option Addr) (c : Nat) (xs : List Int) (bx : Nat) (w : World) (hlen : xs.length ≤ 1000) (hbx : bx < w.heap.size)
    (hc : w.cell? ⟨bx, 0, none⟩ = some (.slice A xs.length c)) (hr : Kd.C (Kd.int .i64) w A xs.length xs) :
    Calls Try.prog 88 #[.slice none 0 0, .func (.func 75) #[] #[.pointer (some ⟨bx, 0, none⟩)]] w (Made w xs) := by
  obtain ⟨i0, hi, hz0, hz1, hz2⟩ := info_parts infoInt
  refine (callsIn_wide (n := 3)).1 ?_
  refine callsIn_of_wp_marks Try.func88 rfl trivial ?_ rfl
  simp only [Try.ntmps88, List.size_toArray, List.length_cons, List.length_nil, Nat.reduceAdd, Nat.reduceSub, Array.replicate_succ, Array.replicate_zero, List.push_toArray, List.append_toArray, List.nil_append, List.cons_append]
  gi_wp2
  refine range_law (gf := 75) (lb := #[.pointer (some ⟨bx, 0, none⟩)]) (xs := xs) (U := fun _ => False) (Qk := fun k => k < w.heap.size) (bad := 3) (enc := fun (x : Int) v _ => v = .int .i64 x)
    rfl (enters_of Try.func75 (by kernel_rfl) rfl) (fun _ h => h.elim)
    (fun W0 hb0 _ => values_seq A c xs bx _ _ _ w W0 (bt (ba (b0 w) _) hb0) (by simp) (by simp; omega) hbx hc hr)
    (fun _ _ _ _ h _ => h) (Coll w) (fun pre W W' h hk => h.move (by simpa only [World.size_alloc] using hk)) ⟨_, Boxed.new w _ _, World.ownsRow_nil _ _ _ _, ba (b0 w) _⟩
    (fun v => { tmps := #[.slice none 0 0, .func (.func 75) #[] #[.pointer (some ⟨bx, 0, none⟩)], .pointer (some ⟨w.heap.size, 0, none⟩), undef, .slice none 0 0, v, .func (.func 75) #[] #[.pointer (some ⟨bx, 0, none⟩)], v, undef, undef, undef, undef, undef], defers := [] }) ?assign ?body ?done
  case assign =>
    intro l v W K hK
    gi_wp2
    exact hK
  case body =>
    rintro l pre x v W ⟨s, hv, hrow, hB⟩ hpre rfl hsz
    have hpl : pre.length < 1000 := by have := hpre.length_le; simp at this; omega
    have hsz' : w.heap.size + 3 ≤ W.heap.size := by simpa [Nat.add_assoc] using hsz
    have hc' := hv.cell
    have HB := Lib.hid hB
    have HP := Lib.hid hpre
    clear hB hpre
    gi_wp2_with (gi_at_builtin; refine wpListIn_append_own _ rfl _ _ 27 rfl (w.heap.size + 3) 3 i0 (.int .i64 0) 1 8 Try.underlying27 hi hz0 hz1 hz2 rfl (by decide) _ _ _ rfl (hrow.alloc _) ⟨W.heap.size, 0, none⟩ 1 1 [.int .i64 x] rfl rfl (cell_one_new _ _ _) (by simp [Value.oneCell']) (by unfold maxLen; omega) (by omega) (by simp; omega) ?_; intro v' w1 hown' hgrow _; obtain ⟨g', cap', rfl⟩ := ownsRow_succ hown'; have hv1 : Boxed w1 w.heap.size 27 s := (hv.alloc _).kept hgrow (hv.not_row (by decide) hrow); have hc1 := hv1.cell; have hf1 := hv1.frozen)
    refine ⟨⟨_, hv1.set _, ?_, ?_⟩, ?_⟩
    · simpa using hown'.kept (grownBy_setCell' w1 w.heap.size _) (.inr (hv1.not_row (by decide) hown').symm)
    · exact ((HB.out.alloc HB.out.size _).grown hgrow (by simp; omega) (fun k e => by have := own_base hrow k e; omega)).setCell (p := ⟨w.heap.size, 0, none⟩) (Nat.le_refl _) _
    · refine KS.setCell (p := ⟨w.heap.size, 0, none⟩) (((KS.refl _ W).alloc _).grown hgrow (fun k e _ => .inr ⟨?_, ?_⟩)) (fun _ => .inl ⟨by simp, by simp⟩) _
      · have := own_base hrow k e; simp; omega
      · obtain ⟨cs, hcs⟩ := own_typed hrow k e
        exact ⟨cs, _, hcs⟩
  case done =>
    rintro W ⟨s, hv, hrow, hB⟩ hD
    have hc' := hv.cell
    gi_wp2
    refine ⟨by simp, .inl ⟨_, _, rfl, run_takeDeferred hD, ?_⟩⟩
    refine ⟨_, results_tmp rfl _ _ _, s, rfl, ?_, ?_⟩
    · exact Kd.R_lower (Kd.R_of_own (ownsRow_putObj hrow _ hD rfl) (fun _ _ => trivial)) (by omega)
    · exact hB.trans (((KS.refl (fun k => k = w.heap.size + 1) W).putObj (fun _ => by simp) _).below hB.size (fun i hi => by omega))
set_option maxHeartbeats 400000 in
theorem collect_ints (A : Option Addr) (c : Nat) (xs : List Int) (bx : Nat) (w : World) (hlen : xs.length ≤ 1000) (hbx : bx < w.heap.size)
    (hc : w.cell? ⟨bx, 0, none⟩ = some (.slice A xs.length c)) (hr : Kd.C (Kd.int .i64) w A xs.length xs) :
    Calls Try.prog 73 #[.func (.func 75) #[] #[.pointer (some ⟨bx, 0, none⟩)]] w (Made w xs) := by
  have HR := Lib.hid hr
  have HC := Lib.hid hc
  clear hr hc
  go_enter Try.func73, Try.ntmps73
  go_wp2_with fail
  refine (appendSeq_ints A c xs bx _ hlen hbx HC.out HR.out).mono ?_
  rintro e w' ⟨v, rfl, h1, h2⟩
  go_wp2
  go_ret
  exact ⟨v, rfl, h1, h2⟩
def MadeSorted (w : World) (xs : List Int) (e : Ending) (w' : World) : Prop :=
  ∃ v r, e = .returned v ∧ r.Perm xs ∧ r.Pairwise (· ≤ ·) ∧ Kd.R (Kd.int .i64) 3 w' w.heap.size (fun _ => True) v r ∧ Below w.heap.size w w'
set_option maxHeartbeats 400000 in
theorem sorted_ints (A : Option Addr) (c : Nat) (xs : List Int) (bx : Nat) (w : World) (hlen : xs.length ≤ 12) (hbx : bx < w.heap.size)
    (hc : w.cell? ⟨bx, 0, none⟩ = some (.slice A xs.length c)) (hr : Kd.C (Kd.int .i64) w A xs.length xs) :
    Calls Try.prog 58 #[.func (.func 75) #[] #[.pointer (some ⟨bx, 0, none⟩)]] w (MadeSorted w xs) := by
  have HR := Lib.hid hr
  have HC := Lib.hid hc
  clear hr hc
  go_enter Try.func58, Try.ntmps58
  go_wp2_with fail
  refine (collect_ints A c xs bx _ (by omega) hbx HC.out HR.out).mono ?_
  rintro e w1 ⟨v, rfl, h1, h2⟩
  obtain ⟨A1, c1, rfl⟩ := Kd.R_slice h1
  have H1 := Lib.hid h1
  have H2 := Lib.hid h2
  clear h1 h2
  go_wp2_with fail
  refine (sort12 (fun _ => True) _ xs w _ H2.out H1.out hlen).mono ?_
  rintro e w2 ⟨rfl, r, h3, h4, h5, h6⟩
  have H3 := Lib.hid h3
  have H4 := Lib.hid h4
  have H5 := Lib.hid h5
  have H6 := Lib.hid h6
  clear h3 h4 h5 h6
  go_wp2
  go_ret
  exact ⟨_, r, rfl, H3.out, H4.out, Kd.R_mono H5.out (fun _ _ => trivial), H6.out⟩
end Go.Proofs.Ytehfhbdhdbpfpaa.Own
end
section
namespace Go.Proofs.Ytehfhbdhdbpfpaa.Plain
open Go.RowKit Go.Proofs.YtehfhbdhdbpfpaaW.PrintWords Go.Proofs.Ytehfhbdhdbpfpaa.Spec
set_option linter.unusedVariables false
theorem iota_length (n : Nat) : (iota n).length = n := by simp [iota]
theorem iota_get (n j : Nat) (hj : j < (iota n).length) : (iota n)[j] = (j : Int) := by simp [iota]
theorem iota_sorted (n : Nat) : (iota n).Pairwise (· ≤ ·) := by
  rw [List.pairwise_iff_getElem]
  intro i j hi hj hij
  rw [iota_get, iota_get]; omega
theorem eq_iota {r : List Int} (h : ∀ j (hj : j < r.length), r[j] = (j : Int)) : r = iota r.length := by
  apply List.ext_getElem (by rw [iota_length])
  intro i h1 h2
  rw [h i h1, iota_get]
theorem ord_of_sorted {o r : List Int} {n : Nat} (hp : r.Perm o) (hn : o.length = n) (h : ∀ j (hj : j < r.length), r[j] = (j : Int)) : isOrd n o = true := by
  unfold isOrd
  rw [List.isPerm_iff]
  have e := eq_iota h
  rw [hp.length_eq, hn] at e
  rw [← e]
  exact hp.symm
theorem not_ord_of_len {o : List Int} {n : Nat} (hn : o.length ≠ n) : isOrd n o = false := by
  rw [Bool.eq_false_iff]
  intro h
  unfold isOrd at h
  rw [List.isPerm_iff] at h
  exact hn (by rw [h.length_eq, iota_length])
theorem sorted_of_ord {o r : List Int} {n : Nat} (hp : r.Perm o) (hs : r.Pairwise (· ≤ ·)) (h : isOrd n o = true) (j : Nat) (hj : j < r.length) : r[j] = (j : Int) := by
  have e : r = iota n := (hp.trans (List.isPerm_iff.1 h)).eq_of_pairwise (fun a b _ _ h1 h2 => by omega) hs (iota_sorted n)
  subst e
  exact iota_get n j hj
theorem ord_perm {n : Nat} {o : List Int} (h : isOrd n o = true) : o.Perm (iota n) := List.isPerm_iff.1 h
theorem ord_length {n : Nat} {o : List Int} (h : isOrd n o = true) : o.length = n := by rw [(ord_perm h).length_eq, iota_length]
theorem ord_mem {n : Nat} {o : List Int} (h : isOrd n o = true) (x : Int) (hx : x ∈ o) : 0 ≤ x ∧ x < n := by
  have := (ord_perm h).mem_iff.1 hx
  simp only [iota, List.mem_map, List.mem_range] at this
  obtain ⟨a, ha, rfl⟩ := this
  omega
theorem ord_get {n : Nat} {o : List Int} (h : isOrd n o = true) (j : Nat) (hj : j < o.length) : 0 ≤ o[j] ∧ o[j] < n := ord_mem h _ (List.getElem_mem hj)
end Go.Proofs.Ytehfhbdhdbpfpaa.Plain
end
