/- Parts of a proof: C9. No condition. -/
import Derived.Test.YtehfhbdhdbpfpaaYPan14
import Derived.Deep.RegionLawGrows
namespace Go.Proofs.Ytehfhbdhdbpfpaa.Print
end Go.Proofs.Ytehfhbdhdbpfpaa.Print
namespace Go.Proofs.Ytehfhbdhdbpfpaa.Spec
end Go.Proofs.Ytehfhbdhdbpfpaa.Spec
namespace Go.Proofs.YtehfhbdhdbpfpaaW.PrintLast
end Go.Proofs.YtehfhbdhdbpfpaaW.PrintLast
namespace Go.Proofs.YtehfhbdhdbpfpaaW.PrintMore
end Go.Proofs.YtehfhbdhdbpfpaaW.PrintMore
namespace Go.Proofs.YtehfhbdhdbpfpaaW.PrintWords
end Go.Proofs.YtehfhbdhdbpfpaaW.PrintWords
set_option linter.unusedVariables false
set_option linter.unusedSimpArgs false
namespace Go.Proofs.Ytehfhbdhdbpfpaa.Own
open Go.RowKit Go.Shelf Go.Proofs.YtehfhbdhdbpfpaaW.PrintWords Go.Proofs.YtehfhbdhdbpfpaaW.PrintLast Go.Proofs.YtehfhbdhdbpfpaaW.PrintMore Go.Proofs.Ytehfhbdhdbpfpaa.Print Go.Proofs.Ytehfhbdhdbpfpaa.Spec
set_option linter.unusedVariables false
set_option linter.unusedSimpArgs false
attribute [local go_sem] Oper.semAt_some
def marksOf (b : List Int) : Array Value := ((List.range 7).map fun (i : Nat) => Value.int .i64 (if (i : Int) ∈ b then 1 else 0)).toArray
theorem marks_nil : marksOf [] = #[.int .i64 0, .int .i64 0, .int .i64 0, .int .i64 0, .int .i64 0, .int .i64 0, .int .i64 0] := rfl
theorem marks_at (b : List Int) (k : Nat) (hk : k < 7) : (marksOf b)[k]? = some (.int .i64 (if (k : Int) ∈ b then 1 else 0)) := by
  simp [marksOf, hk]
theorem marks_size (b : List Int) : (marksOf b).size = 7 := by simp [marksOf]
theorem marks_set (b : List Int) (k : Nat) (hk : k < 7) : (marksOf b).setIfInBounds k (.int .i64 1) = marksOf (b ++ [(k : Int)]) := by
  apply Array.ext_getElem?
  intro i
  rw [Array.getElem?_setIfInBounds, marks_size]
  by_cases hi : i < 7
  · by_cases e : k = i
    · subst e; rw [if_pos rfl, if_pos hk, marks_at _ _ hk]; simp
    · rw [if_neg e, marks_at _ _ hi, marks_at _ _ hi]
      have : (i : Int) ≠ (k : Int) := by omega
      simp [this]
  · have h0 : ∀ b, (marksOf b)[i]? = none := fun b => Array.getElem?_eq_none (by rw [marks_size]; omega)
    rw [if_neg (by omega), h0, h0]
theorem marks_unset (b : List Int) (k : Nat) (hk : k < 7) (hb : (k : Int) ∉ b) : (marksOf (b ++ [(k : Int)])).setIfInBounds k (.int .i64 0) = marksOf b := by
  apply Array.ext_getElem?
  intro i
  rw [Array.getElem?_setIfInBounds, marks_size]
  by_cases hi : i < 7
  · by_cases e : k = i
    · subst e; rw [if_pos rfl, if_pos hk, marks_at _ _ hk]; simp [hb]
    · rw [if_neg e, marks_at _ _ hi, marks_at _ _ hi]
      have : (i : Int) ≠ (k : Int) := by omega
      simp [this]
  · have h0 : ∀ b, (marksOf b)[i]? = none := fun b => Array.getElem?_eq_none (by rw [marks_size]; omega)
    rw [if_neg (by omega), h0, h0]
def goVal (bx Y : Nat) : Value := .func (.func 66) #[] #[.pointer (some ⟨bx, 0, none⟩), .pointer (some ⟨Y, 0, none⟩), .pointer (some ⟨Y + 1, 0, none⟩), .pointer (some ⟨Y + 2, 0, none⟩)]
structure GoAt (l bx pb : Nat) (A : Option Addr) (n c Y : Nat) (W : World) (b : List Int) : Prop where
  y : W.heap[Y]? = some (.cells #[.func (.yield l) #[] #[]] 106 (0, 0))
  m : W.heap[Y + 1]? = some (.cells (marksOf b) 87 (0, 0))
  g : W.heap[Y + 2]? = some (.cells #[goVal bx Y] 106 (0, 0))
  x : W.heap[bx]? = some (.cells #[.pointer (some ⟨pb, 0, none⟩)] 62 (0, 0))
  p : W.cell? ⟨pb, 0, none⟩ = some (.slice A n c)
  lx : bx < Y
  lp : pb < Y
def OrdRow (base : Nat) (x : List Int) (v : Value) (W : World) : Prop := W.ownsRow base 3 1 v x.length (x.map (.int .i64))
theorem GoAt.keep {l bx pb : Nat} {A : Option Addr} {n c Y : Nat} {W W' : World} {b : List Int} (h : GoAt l bx pb A n c Y W b) (hk : ∀ k, k ≤ Y + 2 → k < W.heap.size → W'.heap[k]? = W.heap[k]?) : GoAt l bx pb A n c Y W' b := by
  have h1 := blk_lt h.g
  refine ⟨(hk _ (by omega) (by omega)).trans h.y, (hk _ (by omega) (by omega)).trans h.m, (hk _ (by omega) (by omega)).trans h.g, (hk _ (by have := h.lx; omega) (by have := h.lx; omega)).trans h.x, ?_, h.lx, h.lp⟩
  have h2 := h.p
  rw [← h2]
  simp only [World.cell?, hk pb (by have := h.lp; omega) (by have := h.lp; omega)]
theorem OrdRow.keep {base : Nat} {x : List Int} {v : Value} {W W' : World} (h : OrdRow base x v W) (hk : ∀ k, base ≤ k → k < W.heap.size → W'.heap[k]? = W.heap[k]?) : OrdRow base x v W' :=
  own_move h (fun k hb => hk k (own_base h k hb) (own_lt h k hb))
theorem OrdRow.below {base : Nat} {x : List Int} {v : Value} {W W' : World} (h : OrdRow base x v W) (hb : Below W.heap.size W W') : OrdRow base x v W' := h.keep (fun k _ h1 => hb.block k h1)
def Leaves (l bx pb : Nat) (A : Option Addr) (n c Y : Nat) (W W' : World) : Prop :=
  (∀ b, GoAt l bx pb A n c Y W b → GoAt l bx pb A n c Y W' b) ∧ (∀ x v, OrdRow (Y + 3) x v W → OrdRow (Y + 3) x v W')
def GoneOn (l bx pb : Nat) (A : Option Addr) (n c Y : Nat) (J : World → Prop) (b : List Int) (W : World) (e : Ending) (W' : World) : Prop :=
  e = .returned (.bool true) ∧ J W' ∧ GoAt l bx pb A n c Y W' b ∧ (∀ x v, OrdRow (Y + 3) x v W → OrdRow (Y + 3) x v W')
set_option maxRecDepth 100000 in
set_option maxHeartbeats 1000000 in
theorem goOn_whole (l bx pb : Nat) (A : Option Addr) (n c Y : Nat) (J J' : World → Prop) (b : List Int) (Ab : Option Addr) (cb : Nat) (W : World) (hb : b.length = n) (h : GoAt l bx pb A n c Y W b) (ho : OrdRow (Y + 3) b (.slice Ab b.length cb) W)
    (hY : YieldAt Fence.wide 3 Try.prog l #[.slice Ab b.length cb] W fun e W' => e = .returned (.bool true) ∧ J' W' ∧ Leaves l bx pb A n c Y W W') :
    Calls Try.prog 66 #[.slice Ab b.length cb, .pointer (some ⟨bx, 0, none⟩), .pointer (some ⟨Y, 0, none⟩), .pointer (some ⟨Y + 1, 0, none⟩), .pointer (some ⟨Y + 2, 0, none⟩)] W (GoneOn l bx pb A n c Y J' b W) := by
  obtain ⟨fn, tmps, assign, body, hy, hR⟩ := hY
  have HR := Lib.hid hR
  have H := Lib.hid h
  have hc1 : W.cell? ⟨bx, 0, none⟩ = some (.pointer (some ⟨pb, 0, none⟩)) := blk_cell h.x 0
  have hc2 := h.p
  have hc3 : W.cell? ⟨Y, 0, none⟩ = some (.func (.yield l) #[] #[]) := blk_cell h.y 0
  subst hb
  clear h hR
  refine (callsIn_wide (n := 3)).1 ?_
  refine callsIn_of_wp Try.func66 rfl trivial ?_ rfl
  simp only [Try.ntmps66, List.size_toArray, List.length_cons, List.length_nil, Nat.reduceAdd, Nat.reduceSub, Array.replicate_succ, Array.replicate_zero, List.push_toArray, List.append_toArray, List.nil_append, List.cons_append]
  gi_wp2
  refine (round_any HR.out).mono ?_
  rintro e W2 ⟨rfl, hJ2, hL⟩
  have HJ := Lib.hid hJ2
  have HL := Lib.hid hL
  clear hJ2 hL
  gi_wp2
  go_ret
  exact ⟨rfl, HJ.out, HL.out.1 _ H.out, HL.out.2⟩
theorem infoSlice : Try.prog.underlying 27 = some (.slice 3) := by kernel_rfl
def goRound (n m : Nat) (b : List Int) (k : Nat) : List (List Int) := if (k : Int) ∈ b then [] else goPerms n m (b ++ [(k : Int)])
def goUpto (n m : Nat) (b : List Int) : Nat → List (List Int)
  | 0 => []
  | k + 1 => goUpto n m b k ++ goRound n m b k
set_option maxRecDepth 100000 in
set_option maxHeartbeats 4000000 in
theorem goOn_step (l bx pb : Nat) (A : Option Addr) (n c Y m : Nat) (J : List (List Int) → World → Prop) (b : List Int) (g cb : Nat) (W : World) (pre : List (List Int)) (hn : n ≤ 7) (hb : b.length + (m + 1) = n)
    (h : GoAt l bx pb A n c Y W b) (ho : OrdRow (Y + 3) b (.slice (some ⟨g, 0, none⟩) b.length cb) W) (hj : J pre W)
    (hJ : ∀ pre W W', J pre W → KS (fun k => k = Y + 1) W W' → J pre W')
    (hgo : ∀ (k : Nat), k < n → (k : Int) ∉ b → ∀ (v : Value) (W' : World) (A' : Option Addr) (c' : Nat), v = .slice A' (b.length + 1) c' → GoAt l bx pb A n c Y W' (b ++ [(k : Int)]) → OrdRow (Y + 3) (b ++ [(k : Int)]) v W' → J (pre ++ goUpto n m b k) W' →
      Calls Try.prog 66 #[v, .pointer (some ⟨bx, 0, none⟩), .pointer (some ⟨Y, 0, none⟩), .pointer (some ⟨Y + 1, 0, none⟩), .pointer (some ⟨Y + 2, 0, none⟩)] W' (GoneOn l bx pb A n c Y (J (pre ++ goUpto n m b (k + 1))) (b ++ [(k : Int)]) W')) :
    Calls Try.prog 66 #[.slice (some ⟨g, 0, none⟩) b.length cb, .pointer (some ⟨bx, 0, none⟩), .pointer (some ⟨Y, 0, none⟩), .pointer (some ⟨Y + 1, 0, none⟩), .pointer (some ⟨Y + 2, 0, none⟩)] W (GoneOn l bx pb A n c Y (J (pre ++ goUpto n m b n)) b W) := by
  have H := Lib.hid h
  have HO := Lib.hid ho
  have HJ0 := Lib.hid hj
  have HJ := Lib.hid hJ
  have HG := Lib.hid hgo
  have hc1 : W.cell? ⟨bx, 0, none⟩ = some (.pointer (some ⟨pb, 0, none⟩)) := blk_cell h.x 0
  have hc2 := h.p
  have hbn : ((b.length : Int) == (n : Int)) = false := by rw [beq_eq_false_iff_ne]; omega
  clear h ho hj hJ hgo
  go_enter Try.func66, Try.ntmps66
  go_wp2_with fail
  clear hc1 hc2
  go_loopw [27] (fun i wr => ∃ k : Nat, k ≤ n ∧ i = .int .i64 k ∧ Hid (J (pre ++ goUpto n m b k) wr) ∧ Hid (GoAt l bx pb A n c Y wr b) ∧ Hid (∀ x v, OrdRow (Y + 3) x v W → OrdRow (Y + 3) x v wr)) (fun i _ => n - (intOf i).toNat)
  case atStart => exact ⟨0, Nat.zero_le _, rfl, Lib.hid (by simpa [goUpto] using HJ0.out), H, Lib.hid (fun _ _ h => h)⟩
  case round =>
    obtain ⟨k, hk, rfl, HJk, HA, HW⟩ := hrel
    clear HJ0
    by_cases hlt : k < n
    · have hmk : wr.cell? ⟨Y + 1, k, none⟩ = some (.int .i64 (if (k : Int) ∈ b then 1 else 0)) := by rw [blk_cell HA.out.m k]; exact marks_at b k (by omega)
      by_cases hin : (k : Int) ∈ b
      · rw [if_pos hin] at hmk
        have HU := Lib.hid (show goUpto n m b (k + 1) = goUpto n m b k by simp [goUpto, goRound, hin])
        have HIN := Lib.hid hin
        clear hin
        go_wp2
        go_roundw
        case rel => exact ⟨k + 1, by omega, by go_num, Lib.hid (by rw [HU.out]; exact HJk.out), HA, HW⟩
        case measure => simp [intOf]; omega
      · rw [if_neg hin] at hmk
        have hmf := blk_frozen HA.out.m k
        have HIN := Lib.hid hin
        clear hin
        go_wp2_with fail
        obtain ⟨w1, hw1⟩ : ∃ w1, wr.setCell ⟨Y + 1, k, none⟩ (.int .i64 1) = w1 := ⟨_, rfl⟩
        have hks : KS (fun i => i = Y + 1) wr w1 := by rw [← hw1]; exact KS.setCell (S := fun i => i = Y + 1) (KS.refl _ wr) (p := ⟨Y + 1, k, none⟩) (fun _ => rfl) _
        have HA1 := Lib.hid (show GoAt l bx pb A n c Y w1 (b ++ [(k : Int)]) from
          ⟨hks.blk HA.out.y (by omega), by rw [← hw1]; exact blk_put HA.out.m k _ (marks_set b k (by omega)), hks.blk HA.out.g (by omega), hks.blk HA.out.x (by have := HA.out.lx; omega),
            (hks.cell HA.out.p (by have := HA.out.lp; simp; omega)), HA.out.lx, HA.out.lp⟩)
        have HJ1 := Lib.hid (HJ.out _ _ _ HJk.out hks)
        have HW1 := Lib.hid (show ∀ x v, OrdRow (Y + 3) x v W → OrdRow (Y + 3) x v w1 from fun x v h => (HW.out x v h).keep (fun i hi h1 => hks.block i h1 (by omega)))
        rw [hw1]
        clear hw1 hks hmk hmf
        have hs1 : Y + 2 < w1.heap.size := blk_lt HA1.out.g
        have hc4 : w1.cell? ⟨Y + 2, 0, none⟩ = some (.func (.func 66) #[] #[.pointer (some ⟨bx, 0, none⟩), .pointer (some ⟨Y, 0, none⟩), .pointer (some ⟨Y + 1, 0, none⟩), .pointer (some ⟨Y + 2, 0, none⟩)]) := blk_cell HA1.out.g 0
        have HC4 := Lib.hid (show ∀ W2, Below w1.heap.size w1 W2 → W2.cell? ⟨Y + 2, 0, none⟩ = some (.func (.func 66) #[] #[.pointer (some ⟨bx, 0, none⟩), .pointer (some ⟨Y, 0, none⟩), .pointer (some ⟨Y + 1, 0, none⟩), .pointer (some ⟨Y + 2, 0, none⟩)]) from
          fun W2 hB => (hB.cell (p := ⟨Y + 2, 0, none⟩) hs1).trans hc4)
        have HBW := Lib.hid (show ∀ W2, (w1.drew.alloc (.cells #[.int .i64 (k : Int)] 3)).grownBy W2 none → Below w1.heap.size w1 W2 from
          fun W2 h => ⟨h.os, h.tape, h.output, by have := h.size; simp at this; omega, fun i hi => (h.block i (by simp; omega) (by simp)).trans (Below.heap_alloc w1.drew _ i hi)⟩)
        have HLO := Lib.hid (show ∀ (v : Value) (W2 : World), W2.ownsRow (w1.drew.alloc (.cells #[.int .i64 (k : Int)] 3)).heap.size 3 1 v (b.length + 1) (b.map (Value.int .i64) ++ [.int .i64 (k : Int)]) → OrdRow (Y + 3) (b ++ [(k : Int)]) v W2 from by
          intro v W2 h
          unfold OrdRow
          rw [List.length_append, List.map_append]
          refine ⟨h.1, ?_⟩
          rcases h.2 with h2 | ⟨g2, cap2, cur2, e, hg2, r⟩
          · exact .inl h2
          · exact .inr ⟨g2, cap2, cur2, e, by simp at hg2; omega, r⟩)
        have HLast := Lib.hid (show ∀ w3, (J (pre ++ goUpto n m b (k + 1)) w3 ∧ GoAt l bx pb A n c Y w3 (b ++ [(k : Int)]) ∧ ∀ x v, OrdRow (Y + 3) x v W → OrdRow (Y + 3) x v w3) →
            J (pre ++ goUpto n m b (k + 1)) (w3.setCell ⟨Y + 1, k, none⟩ (.int .i64 0)) ∧ GoAt l bx pb A n c Y (w3.setCell ⟨Y + 1, k, none⟩ (.int .i64 0)) b ∧ ∀ x v, OrdRow (Y + 3) x v W → OrdRow (Y + 3) x v (w3.setCell ⟨Y + 1, k, none⟩ (.int .i64 0)) from by
          rintro w3 ⟨h1, h2, h3⟩
          have hks : KS (fun i => i = Y + 1) w3 (w3.setCell ⟨Y + 1, k, none⟩ (.int .i64 0)) := KS.setCell (S := fun i => i = Y + 1) (KS.refl _ w3) (p := ⟨Y + 1, k, none⟩) (fun _ => rfl) _
          exact ⟨HJ.out _ _ _ h1 hks, ⟨hks.blk h2.y (by omega), blk_put h2.m k _ (marks_unset b k (by omega) HIN.out), hks.blk h2.g (by omega), hks.blk h2.x (by have := h2.lx; omega),
            (hks.cell h2.p (by have := h2.lp; simp; omega)), h2.lx, h2.lp⟩, fun x v h => (h3 x v h).keep (fun i hi h1 => hks.block i h1 (by omega))⟩)
        obtain ⟨i0, hi, hz0, hz1, hz2⟩ := info_parts infoInt
        have HRow := Lib.hid (HW1.out _ _ HO.out)
        have hncb : b.length ≤ cb := by
          rcases HRow.out.2 with ⟨hv, _⟩ | ⟨g', cap, cur, hv, hgb, hgw, hncap, hcapm, hcs, htk⟩
          · cases hv
          · simp only [Value.slice.injEq] at hv
            omega
        have HOLD : Hid (∀ W2, Below w1.heap.size w1 W2 → ∀ b', (some ⟨g, 0, none⟩ : Option Addr) = some b' → ∀ j u, (b.map (Value.int .i64))[j]? = some u → W2.cell? (b'.add j) = some u) := by
          intro W2 hB2 b' hb' j u hj
          obtain rfl := Option.some.inj hb'
          rcases HRow.out.2 with ⟨hv, _⟩ | ⟨g', cap, cur, hv, hgb, hgw, hncap, hcapm, hcs, htk⟩
          · cases hv
          · simp only [Value.slice.injEq, Option.some.injEq, Addr.mk.injEq, and_true] at hv
            obtain ⟨rfl, _, rfl⟩ := hv
            rw [← htk] at hj
            have hj2 : j < b.length * 1 := by
              have := (List.getElem?_eq_some_iff.1 hj).1
              simp at this; omega
            rw [List.getElem?_take, if_pos hj2] at hj
            rw [add_plain, blk_cell (blk_below hgw hB2) j]
            simpa using hj
        clear HRow
        go_region_law (first
          | (refine step_append_grows rfl (.tmp 42) (.tmp 44) 27 rfl 3 i0 (.int .i64 0) 1 8 infoSlice hi hz0 hz1 hz2 rfl (by decide) (some ⟨g, 0, none⟩) b.length b.length (b.map (Value.int .i64)) (by simp [Act.eval, Act.put]) (by intro h; cases h) (by simp) (HOLD.out _ (by exact ba (b0 w1).drew _)) ⟨w1.heap.size, 0, none⟩ 1 1 [.int .i64 (k : Int)] (by simp [Act.eval, Act.put]) rfl (cell_one_new _ _ _) (by simp [Value.oneCell']) (by omega) (by unfold maxLen; omega) (by omega) ?_
             intro v' w2 hown hgrow
             obtain ⟨g', cap', rfl⟩ := ownsRow_succ hown
             have HR2 := Lib.hid (HLO.out _ _ hown)
             have HB2 := Lib.hid (HBW.out _ hgrow)
             have hc5 := HC4.out _ HB2.out
             clear hown hgrow)
          | (go_simp
             refine (HG.out k hlt HIN.out _ w2 (some ⟨g', 0, none⟩) cap' rfl (HA1.out.keep fun i _ h => HB2.out.block i h) HR2.out (HJ.out _ _ _ HJ1.out (KS.of_below HB2.out _))).mono ?_
             rintro e w3 ⟨rfl, hj3, hg3, hr3⟩
             have HX3 := Lib.hid (⟨hj3, hg3, fun x v h => hr3 x v ((HW1.out x v h).below HB2.out)⟩ : J (pre ++ goUpto n m b (k + 1)) w3 ∧ GoAt l bx pb A n c Y w3 (b ++ [(k : Int)]) ∧ ∀ x v, OrdRow (Y + 3) x v W → OrdRow (Y + 3) x v w3)
             clear hj3 hg3 hr3)
          )
        all_goals
          have hq1 : w3.cell? ⟨Y + 1, k, none⟩ = some (.int .i64 1) := by
            rw [blk_cell HX3.out.2.1.m k, marks_at _ _ (by omega)]; simp
          have hq2 := blk_frozen HX3.out.2.1.m k
          have HX4 := Lib.hid (HLast.out w3 HX3.out)
          go_wp2
          go_roundw
          case rel => exact ⟨k + 1, by omega, by go_num, Lib.hid HX4.out.1, Lib.hid HX4.out.2.1, Lib.hid HX4.out.2.2⟩
          case measure => simp [intOf]; omega
    · obtain rfl : k = n := by omega
      go_wp2
      go_ret
      exact ⟨rfl, HJk.out, HA.out, HW.out⟩
set_option maxRecDepth 100000 in
set_option maxHeartbeats 4000000 in
theorem goOn_first (l bx pb : Nat) (A : Option Addr) (n c Y m : Nat) (J : List (List Int) → World → Prop) (W : World) (pre : List (List Int)) (hn : n ≤ 7) (hb : 0 + (m + 1) = n)
    (h : GoAt l bx pb A n c Y W []) (ho : OrdRow (Y + 3) [] (.slice none 0 0) W) (hj : J pre W)
    (hJ : ∀ pre W W', J pre W → KS (fun k => k = Y + 1) W W' → J pre W')
    (hgo : ∀ (k : Nat), k < n → (k : Int) ∉ ([] : List Int) → ∀ (v : Value) (W' : World) (A' : Option Addr) (c' : Nat), v = .slice A' (0 + 1) c' → GoAt l bx pb A n c Y W' ([] ++ [(k : Int)]) → OrdRow (Y + 3) ([] ++ [(k : Int)]) v W' → J (pre ++ goUpto n m [] k) W' →
      Calls Try.prog 66 #[v, .pointer (some ⟨bx, 0, none⟩), .pointer (some ⟨Y, 0, none⟩), .pointer (some ⟨Y + 1, 0, none⟩), .pointer (some ⟨Y + 2, 0, none⟩)] W' (GoneOn l bx pb A n c Y (J (pre ++ goUpto n m [] (k + 1))) ([] ++ [(k : Int)]) W')) :
    Calls Try.prog 66 #[.slice none 0 0, .pointer (some ⟨bx, 0, none⟩), .pointer (some ⟨Y, 0, none⟩), .pointer (some ⟨Y + 1, 0, none⟩), .pointer (some ⟨Y + 2, 0, none⟩)] W (GoneOn l bx pb A n c Y (J (pre ++ goUpto n m [] n)) [] W) := by
  have H := Lib.hid h
  have HO := Lib.hid ho
  have HJ0 := Lib.hid hj
  have HJ := Lib.hid hJ
  have HG := Lib.hid hgo
  have hc1 : W.cell? ⟨bx, 0, none⟩ = some (.pointer (some ⟨pb, 0, none⟩)) := blk_cell h.x 0
  have hc2 := h.p
  have hbn : ((0 : Int) == (n : Int)) = false := by rw [beq_eq_false_iff_ne]; omega
  clear h ho hj hJ hgo
  go_enter Try.func66, Try.ntmps66
  go_wp2_with fail
  clear hc1 hc2
  go_loopw [27] (fun i wr => ∃ k : Nat, k ≤ n ∧ i = .int .i64 k ∧ Hid (J (pre ++ goUpto n m [] k) wr) ∧ Hid (GoAt l bx pb A n c Y wr []) ∧ Hid (∀ x v, OrdRow (Y + 3) x v W → OrdRow (Y + 3) x v wr)) (fun i _ => n - (intOf i).toNat)
  case atStart => exact ⟨0, Nat.zero_le _, rfl, Lib.hid (by simpa [goUpto] using HJ0.out), H, Lib.hid (fun _ _ h => h)⟩
  case round =>
    obtain ⟨k, hk, rfl, HJk, HA, HW⟩ := hrel
    clear HJ0
    by_cases hlt : k < n
    · have hmk : wr.cell? ⟨Y + 1, k, none⟩ = some (.int .i64 (if (k : Int) ∈ ([] : List Int) then 1 else 0)) := by rw [blk_cell HA.out.m k]; exact marks_at [] k (by omega)
      by_cases hin : (k : Int) ∈ ([] : List Int)
      · rw [if_pos hin] at hmk
        have HU := Lib.hid (show goUpto n m [] (k + 1) = goUpto n m [] k by simp [goUpto, goRound, hin])
        have HIN := Lib.hid hin
        clear hin
        go_wp2
        go_roundw
        case rel => exact ⟨k + 1, by omega, by go_num, Lib.hid (by rw [HU.out]; exact HJk.out), HA, HW⟩
        case measure => simp [intOf]; omega
      · rw [if_neg hin] at hmk
        have hmf := blk_frozen HA.out.m k
        have HIN := Lib.hid hin
        clear hin
        go_wp2_with fail
        obtain ⟨w1, hw1⟩ : ∃ w1, wr.setCell ⟨Y + 1, k, none⟩ (.int .i64 1) = w1 := ⟨_, rfl⟩
        have hks : KS (fun i => i = Y + 1) wr w1 := by rw [← hw1]; exact KS.setCell (S := fun i => i = Y + 1) (KS.refl _ wr) (p := ⟨Y + 1, k, none⟩) (fun _ => rfl) _
        have HA1 := Lib.hid (show GoAt l bx pb A n c Y w1 ([] ++ [(k : Int)]) from
          ⟨hks.blk HA.out.y (by omega), by rw [← hw1]; exact blk_put HA.out.m k _ (marks_set [] k (by omega)), hks.blk HA.out.g (by omega), hks.blk HA.out.x (by have := HA.out.lx; omega),
            (hks.cell HA.out.p (by have := HA.out.lp; simp; omega)), HA.out.lx, HA.out.lp⟩)
        have HJ1 := Lib.hid (HJ.out _ _ _ HJk.out hks)
        have HW1 := Lib.hid (show ∀ x v, OrdRow (Y + 3) x v W → OrdRow (Y + 3) x v w1 from fun x v h => (HW.out x v h).keep (fun i hi h1 => hks.block i h1 (by omega)))
        rw [hw1]
        clear hw1 hks hmk hmf
        have hs1 : Y + 2 < w1.heap.size := blk_lt HA1.out.g
        have hc4 : w1.cell? ⟨Y + 2, 0, none⟩ = some (.func (.func 66) #[] #[.pointer (some ⟨bx, 0, none⟩), .pointer (some ⟨Y, 0, none⟩), .pointer (some ⟨Y + 1, 0, none⟩), .pointer (some ⟨Y + 2, 0, none⟩)]) := blk_cell HA1.out.g 0
        have HC4 := Lib.hid (show ∀ W2, Below w1.heap.size w1 W2 → W2.cell? ⟨Y + 2, 0, none⟩ = some (.func (.func 66) #[] #[.pointer (some ⟨bx, 0, none⟩), .pointer (some ⟨Y, 0, none⟩), .pointer (some ⟨Y + 1, 0, none⟩), .pointer (some ⟨Y + 2, 0, none⟩)]) from
          fun W2 hB => (hB.cell (p := ⟨Y + 2, 0, none⟩) hs1).trans hc4)
        have HBW := Lib.hid (show ∀ W2, (w1.drew.alloc (.cells #[.int .i64 (k : Int)] 3)).grownBy W2 none → Below w1.heap.size w1 W2 from
          fun W2 h => ⟨h.os, h.tape, h.output, by have := h.size; simp at this; omega, fun i hi => (h.block i (by simp; omega) (by simp)).trans (Below.heap_alloc w1.drew _ i hi)⟩)
        have HLO := Lib.hid (show ∀ (v : Value) (W2 : World), W2.ownsRow (w1.drew.alloc (.cells #[.int .i64 (k : Int)] 3)).heap.size 3 1 v (0 + 1) (([] : List Int).map (Value.int .i64) ++ [.int .i64 (k : Int)]) → OrdRow (Y + 3) ([] ++ [(k : Int)]) v W2 from by
          intro v W2 h
          unfold OrdRow
          rw [List.length_append, List.map_append]
          refine ⟨h.1, ?_⟩
          rcases h.2 with h2 | ⟨g2, cap2, cur2, e, hg2, r⟩
          · exact .inl h2
          · exact .inr ⟨g2, cap2, cur2, e, by simp at hg2; omega, r⟩)
        have HLast := Lib.hid (show ∀ w3, (J (pre ++ goUpto n m [] (k + 1)) w3 ∧ GoAt l bx pb A n c Y w3 ([] ++ [(k : Int)]) ∧ ∀ x v, OrdRow (Y + 3) x v W → OrdRow (Y + 3) x v w3) →
            J (pre ++ goUpto n m [] (k + 1)) (w3.setCell ⟨Y + 1, k, none⟩ (.int .i64 0)) ∧ GoAt l bx pb A n c Y (w3.setCell ⟨Y + 1, k, none⟩ (.int .i64 0)) [] ∧ ∀ x v, OrdRow (Y + 3) x v W → OrdRow (Y + 3) x v (w3.setCell ⟨Y + 1, k, none⟩ (.int .i64 0)) from by
          rintro w3 ⟨h1, h2, h3⟩
          have hks : KS (fun i => i = Y + 1) w3 (w3.setCell ⟨Y + 1, k, none⟩ (.int .i64 0)) := KS.setCell (S := fun i => i = Y + 1) (KS.refl _ w3) (p := ⟨Y + 1, k, none⟩) (fun _ => rfl) _
          exact ⟨HJ.out _ _ _ h1 hks, ⟨hks.blk h2.y (by omega), blk_put h2.m k _ (marks_unset [] k (by omega) HIN.out), hks.blk h2.g (by omega), hks.blk h2.x (by have := h2.lx; omega),
            (hks.cell h2.p (by have := h2.lp; simp; omega)), h2.lx, h2.lp⟩, fun x v h => (h3 x v h).keep (fun i hi h1 => hks.block i h1 (by omega))⟩)
        obtain ⟨i0, hi, hz0, hz1, hz2⟩ := info_parts infoInt
        go_region_law (first
          | (refine step_append_grows rfl (.tmp 42) (.tmp 44) 27 rfl 3 i0 (.int .i64 0) 1 8 infoSlice hi hz0 hz1 hz2 rfl (by decide) none 0 0 [] (by simp [Act.eval, Act.put]) (fun _ => ⟨rfl, rfl⟩) rfl (fun _ h => by cases h) ⟨w1.heap.size, 0, none⟩ 1 1 [.int .i64 (k : Int)] (by simp [Act.eval, Act.put]) rfl (cell_one_new _ _ _) (by simp [Value.oneCell']) (by omega) (by unfold maxLen; omega) (by omega) ?_
             intro v' w2 hown hgrow
             obtain ⟨g', cap', rfl⟩ := ownsRow_succ hown
             have HR2 := Lib.hid (HLO.out _ _ hown)
             have HB2 := Lib.hid (HBW.out _ hgrow)
             have hc5 := HC4.out _ HB2.out
             clear hown hgrow)
          | (go_simp
             refine (HG.out k hlt HIN.out _ w2 (some ⟨g', 0, none⟩) cap' rfl (HA1.out.keep fun i _ h => HB2.out.block i h) HR2.out (HJ.out _ _ _ HJ1.out (KS.of_below HB2.out _))).mono ?_
             rintro e w3 ⟨rfl, hj3, hg3, hr3⟩
             have HX3 := Lib.hid (⟨hj3, hg3, fun x v h => hr3 x v ((HW1.out x v h).below HB2.out)⟩ : J (pre ++ goUpto n m [] (k + 1)) w3 ∧ GoAt l bx pb A n c Y w3 ([] ++ [(k : Int)]) ∧ ∀ x v, OrdRow (Y + 3) x v W → OrdRow (Y + 3) x v w3)
             clear hj3 hg3 hr3)
          )
        all_goals
          have hq1 : w3.cell? ⟨Y + 1, k, none⟩ = some (.int .i64 1) := by
            rw [blk_cell HX3.out.2.1.m k, marks_at _ _ (by omega)]; simp
          have hq2 := blk_frozen HX3.out.2.1.m k
          have HX4 := Lib.hid (HLast.out w3 HX3.out)
          go_wp2
          go_roundw
          case rel => exact ⟨k + 1, by omega, by go_num, Lib.hid HX4.out.1, Lib.hid HX4.out.2.1, Lib.hid HX4.out.2.2⟩
          case measure => simp [intOf]; omega
    · obtain rfl : k = n := by omega
      go_wp2
      go_ret
      exact ⟨rfl, HJk.out, HA.out, HW.out⟩
end Go.Proofs.Ytehfhbdhdbpfpaa.Own
