/- Parts of a proof: C10 C11. No condition. -/
import Derived.Test.YtehfhbdhdbpfpaaYPan15
import Derived.Laws.EntriesVeiled
import Derived.RangeFuncBox
import Derived.Maps.AppendAt
namespace Go.Proofs.Ytehfhbdhdbpfpaa.Print
end Go.Proofs.Ytehfhbdhdbpfpaa.Print
namespace Go.Proofs.Ytehfhbdhdbpfpaa.Spec
end Go.Proofs.Ytehfhbdhdbpfpaa.Spec
namespace Go.Proofs.YtehfhbdhdbpfpaaW.PrintLast
end Go.Proofs.YtehfhbdhdbpfpaaW.PrintLast
namespace Go.Proofs.YtehfhbdhdbpfpaaW.PrintMore
end Go.Proofs.YtehfhbdhdbpfpaaW.PrintMore
namespace Go.Proofs.YtehfhbdhdbpfpaaW.PrintWords
end Go.Proofs.YtehfhbdhdbpfpaaW.PrintWords
set_option linter.unusedVariables false
set_option linter.unusedSimpArgs false
section
namespace Go.Proofs.Ytehfhbdhdbpfpaa.Own
open Go.RowKit Go.Shelf Go.Proofs.YtehfhbdhdbpfpaaW.PrintWords Go.Proofs.YtehfhbdhdbpfpaaW.PrintLast Go.Proofs.YtehfhbdhdbpfpaaW.PrintMore Go.Proofs.Ytehfhbdhdbpfpaa.Print Go.Proofs.Ytehfhbdhdbpfpaa.Spec
set_option linter.unusedVariables false
set_option linter.unusedSimpArgs false
theorem goUpto_eq (n m : Nat) (b : List Int) (k : Nat) : goUpto n m b k = ((List.range k).map fun (i : Nat) => (i : Int)).flatMap fun i => if i ∈ b then [] else goPerms n m (b ++ [i]) := by
  induction k with
  | zero => rfl
  | succ k ih => rw [goUpto, ih, List.range_succ]; simp [goRound]
theorem goUpto_all (n m : Nat) (b : List Int) : goUpto n m b n = goPerms n (m + 1) b := by rw [goUpto_eq]; rfl
theorem goUpto_prefix (n m : Nat) (b : List Int) {i k : Nat} (h : i ≤ k) : goUpto n m b i <+: goUpto n m b k := by
  obtain ⟨d, rfl⟩ : ∃ d, k = i + d := ⟨k - i, by omega⟩
  induction d with
  | zero => exact List.prefix_refl _
  | succ d ih => exact (ih (by omega)).trans ⟨goRound n m b (i + d), rfl⟩
theorem goOn_all (l bx pb : Nat) (A : Option Addr) (n c Y : Nat) (J : List (List Int) → World → Prop) (xs : List (List Int)) (hn : n ≤ 7)
    (hJ : ∀ pre W W', J pre W → KS (fun k => k = Y + 1) W W' → J pre W')
    (hY : ∀ pre x A' c' W, J pre W → pre ++ [x] <+: xs → OrdRow (Y + 3) x (.slice A' x.length c') W → x.length = n →
      YieldAt Fence.wide 3 Try.prog l #[.slice A' x.length c'] W fun e W' => e = .returned (.bool true) ∧ J (pre ++ [x]) W' ∧ Leaves l bx pb A n c Y W W') :
    ∀ (m : Nat) (b : List Int) (v : Value) (A' : Option Addr) (c' : Nat) (W : World) (pre : List (List Int)), v = .slice A' b.length c' → b.length + m = n → GoAt l bx pb A n c Y W b → OrdRow (Y + 3) b v W → J pre W → pre ++ goPerms n m b <+: xs →
      Calls Try.prog 66 #[v, .pointer (some ⟨bx, 0, none⟩), .pointer (some ⟨Y, 0, none⟩), .pointer (some ⟨Y + 1, 0, none⟩), .pointer (some ⟨Y + 2, 0, none⟩)] W (GoneOn l bx pb A n c Y (J (pre ++ goPerms n m b)) b W)
  | 0, b, v, A', c', W, pre, hv, hb, hg, ho, hj, hp => by
    subst hv
    exact goOn_whole l bx pb A n c Y (J pre) (J (pre ++ [b])) b A' c' W (by omega) hg ho (hY pre b A' c' W hj hp ho (by omega))
  | m + 1, b, v, A', c', W, pre, hv, hb, hg, ho, hj, hp => by
    have hgo : ∀ (k : Nat), k < n → (k : Int) ∉ b → ∀ (v : Value) (W' : World) (A' : Option Addr) (c' : Nat), v = .slice A' (b.length + 1) c' → GoAt l bx pb A n c Y W' (b ++ [(k : Int)]) → OrdRow (Y + 3) (b ++ [(k : Int)]) v W' → J (pre ++ goUpto n m b k) W' →
      Calls Try.prog 66 #[v, .pointer (some ⟨bx, 0, none⟩), .pointer (some ⟨Y, 0, none⟩), .pointer (some ⟨Y + 1, 0, none⟩), .pointer (some ⟨Y + 2, 0, none⟩)] W' (GoneOn l bx pb A n c Y (J (pre ++ goUpto n m b (k + 1))) (b ++ [(k : Int)]) W') := by
      intro k hk hkb v' W' A1 c1 hv1 hg1 ho1 hj1
      have he : pre ++ goUpto n m b k ++ goPerms n m (b ++ [(k : Int)]) = pre ++ goUpto n m b (k + 1) := by
        rw [List.append_assoc]; simp [goUpto, goRound, hkb]
      have h := goOn_all l bx pb A n c Y J xs hn hJ hY m (b ++ [(k : Int)]) v' A1 c1 W' (pre ++ goUpto n m b k) (by rw [hv1]; simp) (by simp; omega) hg1 ho1 hj1
        (by
          rw [he]
          rw [← goUpto_all] at hp
          exact List.IsPrefix.trans (List.prefix_append_right_inj _ |>.2 (goUpto_prefix n m b (by omega))) hp)
      rw [he] at h
      exact h
    rcases ho.2 with ⟨h1, h2⟩ | ⟨g, cap, cur, h1, _⟩
    · rw [← goUpto_all]
      obtain rfl : b = [] := List.eq_nil_of_length_eq_zero h2
      subst h1
      exact goOn_first l bx pb A n c Y m J W pre hn (by simpa using hb) hg ho hj hJ (by simpa using hgo)
    · rw [← goUpto_all]
      subst h1
      exact goOn_step l bx pb A n c Y m J b g cap W pre hn hb hg ho hj hJ hgo
def ordEnc (n base : Nat) (x : List Int) (v : Value) (W : World) : Prop := (∃ A' c', v = .slice A' x.length c') ∧ OrdRow base x v W ∧ x.length = n
set_option maxRecDepth 100000 in
set_option maxHeartbeats 1000000 in
theorem orders_seq (bx pb : Nat) (A : Option Addr) (n c B l : Nat) (Qk : Nat → Prop) (bad : TypeId) (W0 : World) (hn : n ≤ 7) (hx : W0.heap[bx]? = some (.cells #[.pointer (some ⟨pb, 0, none⟩)] 62 (0, 0)))
    (hp : W0.cell? ⟨pb, 0, none⟩ = some (.slice A n c)) (hB : B ≤ W0.heap.size) (hbx : bx < B) (hpb : pb < B) (hqx : Qk bx) (hqp : Qk pb) (hl : l < W0.heap.size) (hlB : B ≤ l) (h1 : bad ≠ 3) (h2 : bad ≠ 106) (h3 : bad ≠ 87) :
    SeqOwn Try.prog 65 #[.pointer (some ⟨bx, 0, none⟩)] (ordEnc n (W0.heap.size + 3)) (perms n) (fun k => k = W0.heap.size + 1) (fun W k => BS B Qk bad W k ∨ k = l) l W0 := by
  intro J hJ hY h0
  have hgo := goOn_all l bx pb A n c W0.heap.size J (perms n) hn hJ (fun pre x A' c' W hj hpre ho hxl => by
    obtain ⟨fn, tmps, assign, body, hy, hR⟩ := hY pre x _ W hj hpre ⟨⟨A', c', rfl⟩, ho, hxl⟩
    refine ⟨fn, tmps, assign, body, hy, hR.mono ?_⟩
    rintro e W' ⟨he, hj', hks⟩
    have hno : ∀ k t cs, W.heap[k]? = some (.cells cs t (0, 0)) → W0.heap.size ≤ k → t ≠ bad → ¬ (BS B Qk bad W k ∨ k = l) := by
      rintro k t cs hk hle ht ((⟨hkB, _⟩ | ⟨_, cs', fr, hk'⟩) | hkl)
      · omega
      · rw [hk] at hk'; cases hk'; exact ht rfl
      · omega
    have hno2 : ∀ k, k < B → Qk k → ¬ (BS B Qk bad W k ∨ k = l) := by
      rintro k hkB hq ((⟨_, hnq⟩ | ⟨hle, _⟩) | hkl)
      · exact hnq hq
      · omega
      · omega
    refine ⟨he, hj', fun b hb => ⟨hks.blk hb.y (hno _ _ _ hb.y (Nat.le_refl _) h2.symm), hks.blk hb.m (hno _ _ _ hb.m (by omega) h3.symm), hks.blk hb.g (hno _ _ _ hb.g (by omega) h2.symm), hks.blk hb.x (hno2 _ hbx hqx), hks.cell hb.p (hno2 _ hpb hqp), hb.lx, hb.lp⟩, fun y v hv => ?_⟩
    refine own_move hv (fun k hk => ?_)
    obtain ⟨cs, hcs⟩ := own_typed hv k hk
    exact hks.block k (own_lt hv k hk) (hno k _ _ hcs (by have := own_base hv k hk; omega) h1.symm))
  have HGO := Lib.hid hgo
  have HJ := Lib.hid hJ
  have H0 := Lib.hid h0
  have HX := Lib.hid (⟨hx, hp⟩ : _ ∧ _)
  clear hgo hJ hY h0 hx hp
  refine callsIn_wide.2 ?_
  obtain ⟨w1, hw1⟩ : ∃ w1, ((W0.alloc (.cells #[.func (.yield l) #[] #[]] 106)).alloc (.cells #[.int .i64 0, .int .i64 0, .int .i64 0, .int .i64 0, .int .i64 0, .int .i64 0, .int .i64 0] 87)).alloc (.cells #[.nilFunc] 106) = w1 := ⟨_, rfl⟩
  have hb1 : Below W0.heap.size W0 w1 := by rw [← hw1]; exact ba (ba (ba (b0 W0) _) _) _
  have hy1 : w1.heap[W0.heap.size]? = some (.cells #[.func (.yield l) #[] #[]] 106 (0, 0)) := by
    rw [← hw1]; exact (Below.heap_alloc _ _ _ (by simp; omega)).trans ((Below.heap_alloc _ _ _ (by simp)).trans (World.alloc_heap_new W0 _))
  have hm1 : w1.heap[W0.heap.size + 1]? = some (.cells (marksOf []) 87 (0, 0)) := by
    rw [← hw1]; rw [marks_nil]; exact (Below.heap_alloc _ _ _ (by simp)).trans (by simpa using World.alloc_heap_new (W0.alloc (.cells #[.func (.yield l) #[] #[]] 106)) _)
  have hg1 : w1.heap[W0.heap.size + 1 + 1]? = some (.cells #[.nilFunc] 106 (0, 0)) := by
    rw [← hw1]; simpa using World.alloc_heap_new ((W0.alloc (.cells #[.func (.yield l) #[] #[]] 106)).alloc (.cells #[.int .i64 0, .int .i64 0, .int .i64 0, .int .i64 0, .int .i64 0, .int .i64 0, .int .i64 0] 87)) (.cells #[.nilFunc] 106)
  have hgc : w1.cell? ⟨W0.heap.size + 1 + 1, 0, none⟩ = some .nilFunc := blk_cell hg1 0
  have hgf := blk_frozen hg1 0
  have hs1 := blk_lt hg1
  obtain ⟨w2, hw2⟩ : ∃ w2, w1.setCell ⟨W0.heap.size + 1 + 1, 0, none⟩ (goVal bx W0.heap.size) = w2 := ⟨_, rfl⟩
  have hks : KS (fun i => i = W0.heap.size + 1 + 1) w1 w2 := by rw [← hw2]; exact KS.setCell (S := fun i => i = W0.heap.size + 1 + 1) (KS.refl _ w1) (p := ⟨W0.heap.size + 1 + 1, 0, none⟩) (fun _ => rfl) _
  have HB2 := Lib.hid (hb1.trans (hks.below (B := W0.heap.size) (by omega) (fun i hi => by omega)))
  have HGA := Lib.hid (show GoAt l bx pb A n c W0.heap.size w2 [] from
    ⟨hks.blk hy1 (by omega), hks.blk hm1 (by omega), by rw [← hw2]; exact blk_put hg1 0 _ rfl, blk_below HX.out.1 HB2.out, (HB2.out.cell (by simp; omega)).trans HX.out.2, by omega, by omega⟩)
  have hc2 : w2.cell? ⟨W0.heap.size + 1 + 1, 0, none⟩ = some (.func (.func 66) #[] #[.pointer (some ⟨bx, 0, none⟩), .pointer (some ⟨W0.heap.size, 0, none⟩), .pointer (some ⟨W0.heap.size + 1, 0, none⟩), .pointer (some ⟨W0.heap.size + 1 + 1, 0, none⟩)]) := blk_cell HGA.out.g 0
  unfold goVal at hw2
  clear hks hy1 hm1 hg1 hb1
  go_enter Try.func65, Try.ntmps65
  go_wp2_with fail
  refine (HGO.out n [] (.slice none 0 0) none 0 w2 [] rfl (by simp) HGA.out (World.ownsRow_nil _ _ _ _) (HJ.out _ _ _ H0.out (KS.of_below HB2.out _)) (List.prefix_refl _)).mono ?_
  rintro e w3 ⟨rfl, hj3, _⟩
  have HJ3 := Lib.hid hj3
  clear hj3
  go_wp2
  go_end0
  exact ⟨⟨_, rfl⟩, HJ3.out⟩
theorem orders_calls (pb : Nat) (w : World) :
    Calls Try.prog 46 #[.pointer (some ⟨pb, 0, none⟩)] w fun e w' => e = .returned (.func (.func 65) #[] #[.pointer (some ⟨w.heap.size, 0, none⟩)]) ∧ w.alloc (.cells #[.pointer (some ⟨pb, 0, none⟩)] 62) = w' := by
  go_enter Try.func46, Try.ntmps46
  go_wp2
  go_ret
  exact ⟨rfl, rfl⟩
end Go.Proofs.Ytehfhbdhdbpfpaa.Own
end
section
namespace Go.Proofs.Ytehfhbdhdbpfpaa.Own
open Go.RowKit Go.Shelf Go.Proofs.YtehfhbdhdbpfpaaW.PrintWords Go.Proofs.YtehfhbdhdbpfpaaW.PrintLast Go.Proofs.YtehfhbdhdbpfpaaW.PrintMore Go.Proofs.Ytehfhbdhdbpfpaa.Print Go.Proofs.Ytehfhbdhdbpfpaa.Spec
set_option linter.unusedVariables false
set_option linter.unusedSimpArgs false
attribute [local go_sem] Oper.semAt_some
theorem goPerms_len (n : Nat) : ∀ (m : Nat) (b : List Int), (goPerms n m b).length ≤ n ^ m
  | 0, b => by simp [goPerms]
  | m + 1, b => by
    rw [goPerms, List.length_flatMap]
    have h : ∀ l : List Int, (l.map fun i => (if i ∈ b then ([] : List (List Int)) else goPerms n m (b ++ [i])).length).sum ≤ l.length * n ^ m := by
      intro l
      induction l with
      | nil => simp
      | cons i l ih =>
        rw [List.map_cons, List.sum_cons, List.length_cons, Nat.add_mul, Nat.one_mul]
        have h1 : (if i ∈ b then ([] : List (List Int)) else goPerms n m (b ++ [i])).length ≤ n ^ m := by
          split
          · simp
          · exact goPerms_len n m _
        omega
    refine Nat.le_trans (h _) ?_
    simp [iota, Nat.pow_succ, Nat.mul_comm]
theorem perms_len {n : Nat} (hn : n ≤ 7) : (perms n).length ≤ 1000000 := by
  have h1 : (perms n).length ≤ n ^ n := goPerms_len n n []
  have h2 : n ^ n ≤ 7 ^ 7 := Nat.le_trans (Nat.pow_le_pow_left hn n) (Nat.pow_le_pow_right (by omega) hn)
  have h3 : (7 : Nat) ^ 7 = 823543 := rfl
  omega
theorem infoRow : (Try.prog.info? 27).map (fun i => (i.zero, i.size, i.bytes)) = some (some (.slice none 0 0), 1, 24) := by kernel_rfl
theorem rowSlice : Try.prog.underlying 91 = some (.slice 27) := by kernel_rfl
theorem ownsRow_lower {w : World} {base b' : Nat} {e : TypeId} {size n : Nat} {v : Value} {xs : List Value} (h : w.ownsRow base e size v n xs) (hb : b' ≤ base) : w.ownsRow b' e size v n xs := by
  refine ⟨h.1, ?_⟩
  rcases h.2 with h2 | ⟨g, cap, cur, hv, hg, r⟩
  · exact .inl h2
  · exact .inr ⟨g, cap, cur, hv, by omega, r⟩
def OrdsIn (n base : Nat) (xs : List (List Int)) (hs : List Value) (W : World) : Prop := hs.length = xs.length ∧ ∀ (j : Nat) x v, xs[j]? = some x → hs[j]? = some v → ordEnc n base x v W
theorem ordEnc.keep {n base : Nat} {x : List Int} {v : Value} {W W' : World} (h : ordEnc n base x v W) (hk : ∀ k cs, base ≤ k → W.heap[k]? = some (.cells cs 3 (0, 0)) → W'.heap[k]? = W.heap[k]?) : ordEnc n base x v W' :=
  ⟨h.1, own_move h.2.1 (fun k hb => by
    obtain ⟨cs, hcs⟩ := own_typed h.2.1 k hb
    exact hk k cs (own_base h.2.1 k hb) hcs), h.2.2⟩
theorem OrdsIn.keep {n base : Nat} {xs : List (List Int)} {hs : List Value} {W W' : World} (h : OrdsIn n base xs hs W) (hk : ∀ k cs, base ≤ k → W.heap[k]? = some (.cells cs 3 (0, 0)) → W'.heap[k]? = W.heap[k]?) : OrdsIn n base xs hs W' :=
  ⟨h.1, fun j x v h1 h2 => (h.2 j x v h1 h2).keep hk⟩
theorem OrdsIn.below {n base : Nat} {xs : List (List Int)} {hs : List Value} {W W' : World} (h : OrdsIn n base xs hs W) (hb : Below W.heap.size W W') : OrdsIn n base xs hs W' := h.keep (fun k cs _ h1 => hb.block k (blk_lt h1))
theorem OrdsIn.push {n base : Nat} {xs : List (List Int)} {hs : List Value} {W : World} (h : OrdsIn n base xs hs W) {x : List Int} {v : Value} (hx : ordEnc n base x v W) : OrdsIn n base (xs ++ [x]) (hs ++ [v]) W := by
  refine ⟨by simp [h.1], fun j y u h1 h2 => ?_⟩
  by_cases hj : j < xs.length
  · rw [List.getElem?_append_left hj] at h1
    rw [List.getElem?_append_left (by rw [h.1]; exact hj)] at h2
    exact h.2 j y u h1 h2
  · rw [List.getElem?_append_right (by omega)] at h1
    rw [List.getElem?_append_right (by rw [h.1]; omega), h.1] at h2
    have hj0 : j - xs.length = 0 := by
      have := (List.getElem?_eq_some_iff.1 h1).1
      simp at this; omega
    rw [hj0] at h1 h2
    simp at h1 h2
    subst h1; subst h2
    exact hx
def MadeOrds (n : Nat) (w : World) (xs : List (List Int)) (e : Ending) (w' : World) : Prop :=
  ∃ v hs, e = .returned v ∧ w'.ownsRow w.heap.size 27 1 v xs.length hs ∧ OrdsIn n w.heap.size xs hs w' ∧ Below w.heap.size w w'
def Coll2 (n : Nat) (w : World) (pre : List (List Int)) (W : World) : Prop :=
  ∃ v hs, Boxed W w.heap.size 91 v ∧ W.ownsRow (w.heap.size + 6) 27 1 v pre.length hs ∧ OrdsIn n (w.heap.size + 6) pre hs W ∧ Below w.heap.size w W
theorem Coll2.move {n : Nat} {w W W' : World} {pre : List (List Int)} (h : Coll2 n w pre W) (hk : KS (fun k => k = w.heap.size + 4 ∨ k = w.heap.size + 1 ∨ k = w.heap.size + 1 + 1) W W') : Coll2 n w pre W' := by
  obtain ⟨v, hs, h1, h2, h3, h4⟩ := h
  refine ⟨v, hs, hk.blk h1 (by rintro (h | h | h) <;> omega), own_move h2 (fun k hb => ?_), h3.keep (fun k cs hb hc => hk.block k (blk_lt hc) (by rintro (h | h | h) <;> omega)), h4.trans (hk.below h4.size (fun i hi => by rcases hi with h | h | h <;> omega))⟩
  have h4 := own_lt h2 k hb
  have h5 := own_base h2 k hb
  exact hk.block k h4 (by rintro (h | h | h) <;> omega)
set_option maxRecDepth 100000 in
set_option maxHeartbeats 1000000 in
theorem appendSeq_ords (bx pb : Nat) (A : Option Addr) (n c : Nat) (w : World) (hn0 : 1 ≤ n) (hn : n ≤ 7) (hx : w.heap[bx]? = some (.cells #[.pointer (some ⟨pb, 0, none⟩)] 62 (0, 0))) (hp : w.cell? ⟨pb, 0, none⟩ = some (.slice A n c)) :
    Calls Try.prog 72 #[.slice none 0 0, .func (.func 65) #[] #[.pointer (some ⟨bx, 0, none⟩)]] w (MadeOrds n w (perms n)) := by
  obtain ⟨i0, hi, hz0, hz1, hz2⟩ := info_parts infoRow
  have hbx := blk_lt hx
  have hpb := World.block_lt_of_cell? w _ hp
  simp at hpb
  have hlen := perms_len hn
  refine (callsIn_wide (n := 3)).1 ?_
  refine callsIn_of_wp_marks Try.func72 rfl trivial ?_ rfl
  simp only [Try.ntmps72, List.size_toArray, List.length_cons, List.length_nil, Nat.reduceAdd, Nat.reduceSub, Array.replicate_succ, Array.replicate_zero, List.push_toArray, List.append_toArray, List.nil_append, List.cons_append]
  gi_wp2
  refine range_law (gf := 65) (lb := #[.pointer (some ⟨bx, 0, none⟩)]) (xs := perms n) (U := fun k => k = w.heap.size + 4) (Qk := fun k => k < w.heap.size) (bad := 27) (enc := ordEnc n (w.heap.size + 6))
    rfl (enters_of Try.func65 (by kernel_rfl) rfl) (fun k h => by simp; omega)
    (fun W0 hb0 hs0 => ?seq)
    (fun x v W W' h hk => h.keep (fun k cs hb hc => hk.block k (blk_lt hc) (by simp; omega))) (Coll2 n w) (fun pre W W' h hk => h.move (by simpa only [World.size_alloc] using hk)) ⟨_, [], Boxed.new w _ _, World.ownsRow_nil _ _ _ _, ⟨rfl, fun j x v h => by simp at h⟩, ba (b0 w) _⟩
    (fun v => { tmps := #[.slice none 0 0, .func (.func 65) #[] #[.pointer (some ⟨bx, 0, none⟩)], .pointer (some ⟨w.heap.size, 0, none⟩), undef, .slice none 0 0, v, .func (.func 65) #[] #[.pointer (some ⟨bx, 0, none⟩)], v, undef, undef, undef, undef, undef], defers := [] }) ?assign ?body ?done
  case seq =>
    have hsz : W0.heap.size = w.heap.size + 3 := by rw [hs0]; simp
    have hb1 : Below w.heap.size w W0 := bt (ba (b0 w) _) hb0
    have h := orders_seq bx pb A n c (w.heap.size + 1) (w.heap.size + 1 + 1) (fun k => k < w.heap.size) 27 W0 hn ((hb1.block bx hbx).trans hx) ((hb1.cell (p := ⟨pb, 0, none⟩) hpb).trans hp) (by omega) (by omega) (by omega) hbx hpb (by omega) (by omega) (by decide) (by decide) (by decide)
    rw [hsz] at h
    simpa only [World.size_alloc] using h
  case assign =>
    intro l v W K hK
    gi_wp2
    exact hK
  case body =>
    rintro l pre x v W ⟨s, hs, hv, hrow, hin, hB⟩ hpre hx2 hsz
    obtain ⟨⟨A', c', rfl⟩, hxr, hxl⟩ := hx2
    have hpl : pre.length < 1000000 := by have := hpre.length_le; simp at this; omega
    have hsz' : w.heap.size + 6 ≤ W.heap.size := by
      rcases hxr.2 with ⟨_, h⟩ | ⟨g, cap, cur, h, hb, hh, _⟩
      · omega
      · have := blk_lt hh; omega
    have hc' := hv.cell
    have HX := Lib.hid (⟨⟨A', c', rfl⟩, hxr, hxl⟩ : ordEnc n (w.heap.size + 6) x (.slice A' x.length c') W)
    have HIN := Lib.hid hin
    have HB := Lib.hid hB
    have HP := Lib.hid hpre
    clear hB hpre hin hxr hxl
    gi_wp2_with (gi_at_builtin; refine wpListIn_append_own _ rfl _ _ 91 rfl (w.heap.size + 6) 27 i0 (.slice none 0 0) 1 24 rowSlice hi hz0 hz1 hz2 rfl (by decide) _ _ _ rfl (hrow.alloc _) ⟨W.heap.size, 0, none⟩ 1 1 [.slice A' x.length c'] rfl rfl (cell_one_new _ _ _) (by simp [Value.oneCell']) (by unfold maxLen; omega) (by omega) (by simp; omega) ?_; intro v' w1 hown' hgrow _; obtain ⟨g', cap', rfl⟩ := ownsRow_succ hown'; have hv1 : Boxed w1 w.heap.size 91 s := (hv.alloc _).kept hgrow (hv.not_row (by decide) hrow); have hc1 := hv1.cell; have hf1 := hv1.frozen)
    have hkeep : ∀ k cs, w.heap.size + 6 ≤ k → W.heap[k]? = some (.cells cs 3 (0, 0)) → (w1.setCell ⟨w.heap.size, 0, none⟩ (.slice (some ⟨g', 0, none⟩) (pre.length + 1) cap')).heap[k]? = W.heap[k]? := by
      intro k cs hk hc
      refine (Below.heap_setCell _ _ _ _ (by simp; omega)).trans ((hgrow.block k (by simp; exact Nat.lt_succ_of_lt (blk_lt hc)) ?_).trans (Below.heap_alloc _ _ _ (blk_lt hc)))
      intro e
      obtain ⟨cs2, hcs2⟩ := own_typed hrow k e.symm
      rw [hc] at hcs2
      cases hcs2
    refine ⟨⟨_, hs ++ [.slice A' x.length c'], hv1.set _, ?_, (HIN.out.push HX.out).keep hkeep, ?_⟩, ?_⟩
    · simpa using hown'.kept (grownBy_setCell' w1 w.heap.size _) (.inr (hv1.not_row (by decide) hown').symm)
    · exact ((HB.out.alloc HB.out.size _).grown hgrow (by simp; omega) (fun k e => by have := own_base hrow k e; omega)).setCell (p := ⟨w.heap.size, 0, none⟩) (Nat.le_refl _) _
    · refine KS.setCell (p := ⟨w.heap.size, 0, none⟩) (((KS.refl _ W).alloc _).grown hgrow (fun k e _ => .inr ⟨?_, ?_⟩)) (fun _ => .inl ⟨by simp, by simp⟩) _
      · have := own_base hrow k e; simp; omega
      · obtain ⟨cs, hcs⟩ := own_typed hrow k e
        exact ⟨cs, _, hcs⟩
  case done =>
    rintro W ⟨s, hs, hv, hrow, hin, hB⟩ hD
    have hc' := hv.cell
    gi_wp2
    refine ⟨by simp, .inl ⟨_, _, rfl, run_takeDeferred hD, ?_⟩⟩
    have hks : ∀ o, KS (fun k => k = w.heap.size + 1) W (W.putObj (w.heap.size + 1) o) := fun o => (KS.refl (fun k => k = w.heap.size + 1) W).putObj (fun _ => rfl) _
    refine ⟨_, results_tmp rfl _ _ _, s, hs, rfl, ?_, ?_, ?_⟩
    · exact ownsRow_lower (ownsRow_putObj hrow _ hD rfl) (by omega)
    · simp only [World.size_alloc]
      have h1 : OrdsIn n (w.heap.size + 6) (perms n) hs (W.putObj (w.heap.size + 1) (.deferred none)) := hin.keep (fun k cs hb hc => (hks _).block k (blk_lt hc) (by omega))
      exact ⟨h1.1, fun j x v h2 h3 => ⟨(h1.2 j x v h2 h3).1, ownsRow_lower (h1.2 j x v h2 h3).2.1 (by omega), (h1.2 j x v h2 h3).2.2⟩⟩
    · simp only [World.size_alloc]
      exact hB.trans ((hks _).below hB.size (fun i hi => by omega))
set_option maxHeartbeats 400000 in
theorem collect_ords (bx pb : Nat) (A : Option Addr) (n c : Nat) (w : World) (hn0 : 1 ≤ n) (hn : n ≤ 7) (hx : w.heap[bx]? = some (.cells #[.pointer (some ⟨pb, 0, none⟩)] 62 (0, 0))) (hp : w.cell? ⟨pb, 0, none⟩ = some (.slice A n c)) :
    Calls Try.prog 55 #[.func (.func 65) #[] #[.pointer (some ⟨bx, 0, none⟩)]] w (MadeOrds n w (perms n)) := by
  have HX := Lib.hid hx
  have HP := Lib.hid hp
  clear hx hp
  go_enter Try.func55, Try.ntmps55
  go_wp2_with fail
  refine (appendSeq_ords bx pb A n c _ hn0 hn HX.out HP.out).mono ?_
  rintro e w' ⟨v, hs, rfl, h1, h2, h3⟩
  go_wp2
  go_ret
  exact ⟨v, hs, rfl, h1, h2, h3⟩
end Go.Proofs.Ytehfhbdhdbpfpaa.Own
end
