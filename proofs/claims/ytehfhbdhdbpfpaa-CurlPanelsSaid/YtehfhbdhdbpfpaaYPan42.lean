/- Parts of a proof: W1. No condition. -/
import Derived.Test.YtehfhbdhdbpfpaaYPan32
import Derived.Test.YtehfhbdhdbpfpaaYPan37
import Derived.Test.YtehfhbdhdbpfpaaYPan39
import Derived.Test.YtehfhbdhdbpfpaaYPan40
import Derived.Test.YtehfhbdhdbpfpaaYPan41
import Derived.Deep.RegionLaw
namespace Go.Proofs.Ytehfhbdhdbpfpaa.Print
end Go.Proofs.Ytehfhbdhdbpfpaa.Print
namespace Go.Proofs.Ytehfhbdhdbpfpaa.Spec
end Go.Proofs.Ytehfhbdhdbpfpaa.Spec
namespace Go.Proofs.YtehfhbdhdbpfpaaW.PrintLast
end Go.Proofs.YtehfhbdhdbpfpaaW.PrintLast
namespace Go.Proofs.YtehfhbdhdbpfpaaW.PrintMore
end Go.Proofs.YtehfhbdhdbpfpaaW.PrintMore
namespace Go.Proofs.YtehfhbdhdbpfpaaW.PrintWords
end Go.Proofs.YtehfhbdhdbpfpaaW.PrintWords
set_option linter.unusedVariables false
set_option linter.unusedSimpArgs false
namespace Go.Proofs.Ytehfhbdhdbpfpaa.Own
open Go.RowKit Go.Shelf Go.Proofs.YtehfhbdhdbpfpaaW.PrintWords Go.Proofs.YtehfhbdhdbpfpaaW.PrintLast Go.Proofs.YtehfhbdhdbpfpaaW.PrintMore Go.Proofs.Ytehfhbdhdbpfpaa.Print Go.Proofs.Ytehfhbdhdbpfpaa.Spec
set_option linter.unusedVariables false
set_option linter.unusedSimpArgs false
theorem merge_ {K : Act → World → Prop} {G : Prop} (act : Act) (P : World → Prop) (h1 : (∀ W', P W' → K act W') → G) (h2 : ∀ W', P W' → K act W') : G := h1 h2
theorem changesIs (v : Value) (w : World) :
    Calls Try.prog 34 #[v] w fun e w' => e = .returned v ∧ w = w' := by
  go_enter Try.func34, Try.ntmps34
  go_wp2
  go_ret
  exact ⟨rfl, rfl⟩
theorem ofIs (v : Value) (w : World) :
    Calls Try.prog 28 #[v] w fun e w' => e = .returned v ∧ w = w' := by
  go_enter Try.func28, Try.ntmps28
  go_wp2
  go_ret
  exact ⟨rfl, rfl⟩
theorem even_f : crossbandlaw07_even.f 20 = some (sA, 0, 4) := by kernel_rfl
theorem odd_f : crossbandlaw07_odd.f 20 = some (sC, 0, 0) := by kernel_rfl
theorem five_f : crossbandlaw07_five.f 20 = some (sF, 0, 9) := by kernel_rfl
def PanelAt (w : World) (b : Nat) (l : List Sh) (lo hi : Int) : Prop :=
  ∃ A c, w.heap[b]? = some (.cells #[.slice A l.length c, .int .i64 lo, .int .i64 hi] 26 (0, 0)) ∧ Kd.C k52 w A l.length l ∧ l.length ≤ c
theorem PanelAt.below {w w' : World} {b : Nat} {l : List Sh} {lo hi : Int} (h : PanelAt w b l lo hi) (hb : Below w.heap.size w w') : PanelAt w' b l lo hi := by
  obtain ⟨A, c, h1, h2, h3⟩ := h
  exact ⟨A, c, blk_below h1 hb, Kd.C_below h2 hb, h3⟩
theorem lit_reads (xs : List Int) (W : World) (g : Nat) (hm : xs.length ≤ 100) (h : W.heap[g]? = some (.cells (nums .i64 xs).toArray 3 (0, 0))) : Kd.C (Kd.int .i64) W (some ⟨g, 0, none⟩) xs.length xs :=
  C_ints xs (by omega) (fun j hj => by rw [blk_cell h]; simp [nums, hj])
theorem ch_reads (f p m : Int) (W : World) (g : Nat) (h : W.heap[g]? = some (.cells #[.int .i64 f, .int .i64 p, .int .i64 m] 54 (0, 0))) : Kd.C k54 W (some ⟨g, 0, none⟩) 1 [⟨f, ⟨p, m⟩⟩] := by
  refine ⟨rfl, by simp, fun hn => ⟨_, rfl, fun j x hj => ?_⟩⟩
  obtain ⟨hl, hp⟩ := List.getElem?_eq_some_iff.1 hj
  obtain rfl : j = 0 := by simp at hl; exact hl
  subst hp
  refine ⟨_, rfl, k54_mk W _, fun i u hu => ?_⟩
  rw [add_plain, blk_cell h]
  match i, hu with
  | 0, hu => rw [← hu]; rfl
  | 1, hu => rw [← hu]; rfl
  | 2, hu => rw [← hu]; rfl
theorem put_lit_ (t : List Value) (d) (k : Nat) (v : Value) : Act.put ⟨⟨t⟩, d⟩ (some k) v = ⟨⟨t.set k v⟩, d⟩ := by simp [Act.put]
def qC : List Ch := [⟨0, ⟨5, 10⟩⟩]
theorem ex12' : curl_Cure.f sC 0 0 [0, 2, 1] = some (qC, 0) := by kernel_rfl
theorem ex14 : crossbandref07_CheckCure.f 100 sC 0 0 [0, 2, 1] qC = some (1, 0) := by kernel_rfl
theorem ex15 : crossbandlaw07_Ints.f 20 [0, 2, 1] [0, 2, 1] = some true := by kernel_rfl
theorem ex16 : crossbandlaw07_Ints.f 20 [0, 1, 2] [0, 1, 2] = some true := by kernel_rfl
theorem merge3_ {K : Act → World → Prop} {P : Program} {c : Code} {Q : Exit → Act → World → Prop} {a0 : Act} {w : World} (F : Act → Value → Value → Value → Value → Act) (Pw : Value → World → Prop)
    (h1 : (∀ x1 x2 x3 x4 W', Pw x1 W' → K (F a0 x1 x2 x3 x4) W') → Code.wp P c Q a0 w) (h2 : ∀ x1 x2 x3 x4 W', Pw x1 W' → K (F a0 x1 x2 x3 x4) W') : Code.wp P c Q a0 w := h1 h2
set_option maxRecDepth 100000 in
set_option maxHeartbeats 0 in
theorem Works_calls (w : World) : Calls Try.prog 11 #[] w fun e w' => e = .returned (.bool true) ∧ Below w.heap.size w w' := by
  go_enter Try.func11, Try.ntmps11
  go_wp2_with fail
  refine (crossbandlaw07_even.calls 20 _ _ _ w even_f).mono ?_
  rintro e w1 ⟨v1, rfl, hv1, hb1⟩
  obtain ⟨A1, c1, rfl, hc1, hr1⟩ := Kd.R_reads hv1
  have HR1 := Lib.hid hr1
  have HB1 := Lib.hid hb1
  clear hv1 hr1 hb1
  go_wp2_with fail
  refine (crossbandlaw07_odd.calls 20 _ _ _ w1 odd_f).mono ?_
  rintro e w2 ⟨v2, rfl, hv2, hb2⟩
  obtain ⟨A2, c2, rfl, hc2, hr2⟩ := Kd.R_reads hv2
  have HR2 := Lib.hid hr2
  have HB2 := Lib.hid hb2
  clear hv2 hr2 hb2
  go_wp2_with fail
  refine (crossbandlaw07_five.calls 20 _ _ _ w2 five_f).mono ?_
  rintro e w3 ⟨v3, rfl, hv3, hb3⟩
  obtain ⟨A3, c3, rfl, hc3, hr3⟩ := Kd.R_reads hv3
  have HR3 := Lib.hid hr3
  have HB3 := Lib.hid hb3
  clear hv3 hr3 hb3
  go_wp2_with fail
  obtain ⟨w4, hw4⟩ : ∃ w4, ((w3.alloc (.cells #[.slice A1 sA.length c1, .int .i64 0, .int .i64 4] 26)).alloc (.cells #[.slice A2 sC.length c2, .int .i64 0, .int .i64 0] 26)).alloc (.cells #[.slice A3 sF.length c3, .int .i64 0, .int .i64 9] 26) = w4 := ⟨_, rfl⟩
  have hb4 : Below w3.heap.size w3 w4 := by rw [← hw4]; exact ba (ba (ba (b0 w3) _) _) _
  have HS4 := Lib.hid (show w4.heap.size = w3.heap.size + 3 by rw [← hw4]; simp)
  have HX1 := Lib.hid (show w4.heap[w3.heap.size]? = some (.cells #[.slice A1 sA.length c1, .int .i64 0, .int .i64 4] 26 (0, 0)) by
    rw [← hw4]; exact blk_alloc (blk_alloc (World.alloc_heap_new w3 _) _) _)
  have HX2 := Lib.hid (show w4.heap[w3.heap.size + 1]? = some (.cells #[.slice A2 sC.length c2, .int .i64 0, .int .i64 0] 26 (0, 0)) by
    rw [← hw4]
    refine blk_alloc ?_ _
    have := World.alloc_heap_new (w3.alloc (.cells #[.slice A1 sA.length c1, .int .i64 0, .int .i64 4] 26)) (.cells #[.slice A2 sC.length c2, .int .i64 0, .int .i64 0] 26)
    rwa [World.size_alloc] at this)
  have HX3 := Lib.hid (show w4.heap[w3.heap.size + 2]? = some (.cells #[.slice A3 sF.length c3, .int .i64 0, .int .i64 9] 26 (0, 0)) by
    rw [← hw4]
    have := World.alloc_heap_new ((w3.alloc (.cells #[.slice A1 sA.length c1, .int .i64 0, .int .i64 4] 26)).alloc (.cells #[.slice A2 sC.length c2, .int .i64 0, .int .i64 0] 26)) (.cells #[.slice A3 sF.length c3, .int .i64 0, .int .i64 9] 26)
    rwa [World.size_alloc, World.size_alloc] at this)
  have HBW := Lib.hid (show Below w.heap.size w w4 from bt (bt (bt HB1.out HB2.out) HB3.out) hb4)
  have HP1 := Lib.hid (show ∀ W, Below w4.heap.size w4 W → Kd.C k52 W A1 sA.length sA from fun W h => Kd.C_below HR1.out (bt (bt (bt HB2.out HB3.out) hb4) h))
  have HP2 := Lib.hid (show ∀ W, Below w4.heap.size w4 W → Kd.C k52 W A2 sC.length sC from fun W h => Kd.C_below HR2.out (bt (bt HB3.out hb4) h))
  have HP3 := Lib.hid (show ∀ W, Below w4.heap.size w4 W → Kd.C k52 W A3 sF.length sF from fun W h => Kd.C_below HR3.out (bt hb4 h))
  rw [hw4]
  clear hw4 hb4
  have HB := Lib.hid (Below.refl w4.heap.size w4)
  have hlt : w3.heap.size + 2 < w4.heap.size := by have := HS4.out; have := HB.out.size; omega
  have hx0 : w4.cell? ⟨w3.heap.size + 2, 0, none⟩ = some (.slice A3 sF.length c3) := blk_cell (blk_below HX3.out HB.out) 0
  have hx1 : w4.cell? ⟨w3.heap.size + 2, 1, none⟩ = some (.int .i64 0) := blk_cell (blk_below HX3.out HB.out) 1
  have hx2 : w4.cell? ⟨w3.heap.size + 2, 2, none⟩ = some (.int .i64 9) := blk_cell (blk_below HX3.out HB.out) 2
  have HBX := Lib.hid (Below.refl w4.heap.size w4)
  rename_i K hK
  refine merge_ (K := K) ?act5 (fun W' => Below w4.heap.size w4 W') ?region5 ?rest5
  case region5 =>
    intro HK
    go_region_law (first
      | (go_simp
         go_at_call_of 28 (Value.slice (some ⟨w4.heap.size, 0, none⟩) 5 5)
         refine (ofIs _ _).mono ?_
         rintro e w' ⟨rfl, rfl⟩)
      | (go_simp
         go_at_call_of 12 (Value.slice (some ⟨w4.heap.size, 0, none⟩) 5 5)
         refine (Gen.curl_Moments.calls A3 c3 sF 0 9 (some ⟨w4.heap.size, 0, none⟩) 5 [1, 0, 2, 3, 4] 0 (-4) 2 0 _ (HP3.out _ (by first | exact (HB.out.alloc HB.out.size _).drew | exact HB.out.drew.alloc HB.out.size _)) hc3 (lit_reads [1, 0, 2, 3, 4] _ _ (by simp) (by exact World.alloc_heap_new w4 _)) (by simp) ex1).mono ?_
         rintro e w' ⟨rfl, hb'⟩
         have HBB := Lib.hid hb'
         clear hb'))
    all_goals
      show K _ _
      simp only [put_lit_, List.getElem_toArray, List.getElem_cons_succ, List.getElem_cons_zero, List.set_cons_zero, List.set_cons_succ]
      first
        | exact HK _ (below_then (by first | exact (HBX.out.alloc HBX.out.size _).drew | exact HBX.out.drew.alloc HBX.out.size _) (Nat.le_trans HBX.out.size (by simp)) HBB.out)
        | exact HK _ ((below_then (by first | exact (HBX.out.alloc HBX.out.size _).drew | exact HBX.out.drew.alloc HBX.out.size _) (Nat.le_trans HBX.out.size (by simp)) HBB.out).drew)
  case rest5 =>
   intro w5 hb
   clear hlt hx0 hx1 hx2
   have HB := Lib.hid (below_then HB.out HB.out.size hb)
   clear hb HBX
   refine hK _ _ ?_
   go_wp2_with fail
   have hlt : w3.heap.size < w5.heap.size := by have := HS4.out; have := HB.out.size; omega
   have hx0 : w5.cell? ⟨w3.heap.size, 0, none⟩ = some (.slice A1 sA.length c1) := blk_cell (blk_below HX1.out HB.out) 0
   have hx1 : w5.cell? ⟨w3.heap.size, 1, none⟩ = some (.int .i64 0) := blk_cell (blk_below HX1.out HB.out) 1
   have hx2 : w5.cell? ⟨w3.heap.size, 2, none⟩ = some (.int .i64 4) := blk_cell (blk_below HX1.out HB.out) 2
   have HBX := Lib.hid (Below.refl w5.heap.size w5)
   rename_i K hK
   refine merge_ (K := K) ?act6 (fun W' => Below w5.heap.size w5 W') ?region6 ?rest6
   case region6 =>
     intro HK
     go_region_law (first
       | (go_simp
          go_at_call_of 28 (Value.slice (some ⟨w5.heap.size, 0, none⟩) 3 3)
          refine (ofIs _ _).mono ?_
          rintro e w' ⟨rfl, rfl⟩)
       | (go_simp
          go_at_call_of 12 (Value.slice (some ⟨w5.heap.size, 0, none⟩) 3 3)
          refine (Gen.curl_Moments.calls A1 c1 sA 0 4 (some ⟨w5.heap.size, 0, none⟩) 3 [1, 0, 2] 5 0 0 3 _ (HP1.out _ (by first | exact (HB.out.alloc HB.out.size _).drew | exact HB.out.drew.alloc HB.out.size _)) hc1 (lit_reads [1, 0, 2] _ _ (by simp) (by exact World.alloc_heap_new w5 _)) (by simp) ex2).mono ?_
          rintro e w' ⟨rfl, hb'⟩
          have HBB := Lib.hid hb'
          clear hb'))
     all_goals
       show K _ _
       simp only [put_lit_, List.getElem_toArray, List.getElem_cons_succ, List.getElem_cons_zero, List.set_cons_zero, List.set_cons_succ]
       first
         | exact HK _ (below_then (by first | exact (HBX.out.alloc HBX.out.size _).drew | exact HBX.out.drew.alloc HBX.out.size _) (Nat.le_trans HBX.out.size (by simp)) HBB.out)
         | exact HK _ ((below_then (by first | exact (HBX.out.alloc HBX.out.size _).drew | exact HBX.out.drew.alloc HBX.out.size _) (Nat.le_trans HBX.out.size (by simp)) HBB.out).drew)
   case rest6 =>
    intro w6 hb
    clear hlt hx0 hx1 hx2
    have HB := Lib.hid (below_then HB.out HB.out.size hb)
    clear hb HBX
    refine hK _ _ ?_
    go_wp2_with fail
    have hlt : w3.heap.size < w6.heap.size := by have := HS4.out; have := HB.out.size; omega
    have hx0 : w6.cell? ⟨w3.heap.size, 0, none⟩ = some (.slice A1 sA.length c1) := blk_cell (blk_below HX1.out HB.out) 0
    have hx1 : w6.cell? ⟨w3.heap.size, 1, none⟩ = some (.int .i64 0) := blk_cell (blk_below HX1.out HB.out) 1
    have hx2 : w6.cell? ⟨w3.heap.size, 2, none⟩ = some (.int .i64 4) := blk_cell (blk_below HX1.out HB.out) 2
    have HBX := Lib.hid (Below.refl w6.heap.size w6)
    rename_i K hK
    refine merge_ (K := K) ?act7 (fun W' => Below w6.heap.size w6 W') ?region7 ?rest7
    case region7 =>
      intro HK
      go_region_law (first
        | (go_simp
           go_at_call_of 28 (Value.slice (some ⟨w6.heap.size, 0, none⟩) 3 3)
           refine (ofIs _ _).mono ?_
           rintro e w' ⟨rfl, rfl⟩)
        | (go_simp
           go_at_call_of 14 (Value.slice (some ⟨w6.heap.size, 0, none⟩) 3 3)
           refine (Gen.curl_Curl.calls A1 c1 sA 0 4 (some ⟨w6.heap.size, 0, none⟩) 3 [1, 0, 2] 9 0 _ (HP1.out _ (by first | exact (HB.out.alloc HB.out.size _).drew | exact HB.out.drew.alloc HB.out.size _)) hc1 (lit_reads [1, 0, 2] _ _ (by simp) (by exact World.alloc_heap_new w6 _)) (by simp) ex3).mono ?_
           rintro e w' ⟨rfl, hb'⟩
           have HBB := Lib.hid hb'
           clear hb'))
      all_goals
        show K _ _
        simp only [put_lit_, List.getElem_toArray, List.getElem_cons_succ, List.getElem_cons_zero, List.set_cons_zero, List.set_cons_succ]
        first
          | exact HK _ (below_then (by first | exact (HBX.out.alloc HBX.out.size _).drew | exact HBX.out.drew.alloc HBX.out.size _) (Nat.le_trans HBX.out.size (by simp)) HBB.out)
          | exact HK _ ((below_then (by first | exact (HBX.out.alloc HBX.out.size _).drew | exact HBX.out.drew.alloc HBX.out.size _) (Nat.le_trans HBX.out.size (by simp)) HBB.out).drew)
    case rest7 =>
     intro w7 hb
     clear hlt hx0 hx1 hx2
     have HB := Lib.hid (below_then HB.out HB.out.size hb)
     clear hb HBX
     refine hK _ _ ?_
     go_wp2_with fail
     have hlt : w3.heap.size < w7.heap.size := by have := HS4.out; have := HB.out.size; omega
     have hx0 : w7.cell? ⟨w3.heap.size, 0, none⟩ = some (.slice A1 sA.length c1) := blk_cell (blk_below HX1.out HB.out) 0
     have hx1 : w7.cell? ⟨w3.heap.size, 1, none⟩ = some (.int .i64 0) := blk_cell (blk_below HX1.out HB.out) 1
     have hx2 : w7.cell? ⟨w3.heap.size, 2, none⟩ = some (.int .i64 4) := blk_cell (blk_below HX1.out HB.out) 2
     have HBX := Lib.hid (Below.refl w7.heap.size w7)
     rename_i K hK
     refine merge_ (K := K) ?act8 (fun W' => Below w7.heap.size w7 W') ?region8 ?rest8
     case region8 =>
       intro HK
       go_region_law (first
         | (go_simp
            go_at_call_of 28 (Value.slice (some ⟨w7.heap.size, 0, none⟩) 3 3)
            refine (ofIs _ _).mono ?_
            rintro e w' ⟨rfl, rfl⟩)
         | (go_simp
            go_at_call_of 14 (Value.slice (some ⟨w7.heap.size, 0, none⟩) 3 3)
            refine (Gen.curl_Curl.calls A1 c1 sA 0 4 (some ⟨w7.heap.size, 0, none⟩) 3 [0, 1, 1] 0 16 _ (HP1.out _ (by first | exact (HB.out.alloc HB.out.size _).drew | exact HB.out.drew.alloc HB.out.size _)) hc1 (lit_reads [0, 1, 1] _ _ (by simp) (by exact World.alloc_heap_new w7 _)) (by simp) ex4).mono ?_
            rintro e w' ⟨rfl, hb'⟩
            have HBB := Lib.hid hb'
            clear hb'))
       all_goals
         show K _ _
         simp only [put_lit_, List.getElem_toArray, List.getElem_cons_succ, List.getElem_cons_zero, List.set_cons_zero, List.set_cons_succ]
         first
           | exact HK _ (below_then (by first | exact (HBX.out.alloc HBX.out.size _).drew | exact HBX.out.drew.alloc HBX.out.size _) (Nat.le_trans HBX.out.size (by simp)) HBB.out)
           | exact HK _ ((below_then (by first | exact (HBX.out.alloc HBX.out.size _).drew | exact HBX.out.drew.alloc HBX.out.size _) (Nat.le_trans HBX.out.size (by simp)) HBB.out).drew)
     case rest8 =>
      intro w8 hb
      clear hlt hx0 hx1 hx2
      have HB := Lib.hid (below_then HB.out HB.out.size hb)
      clear hb HBX
      refine hK _ _ ?_
      have hlt : w3.heap.size + 1 < w8.heap.size := by have := HS4.out; have := HB.out.size; omega
      have hx0 : w8.cell? ⟨w3.heap.size + 1, 0, none⟩ = some (.slice A2 sC.length c2) := blk_cell (blk_below HX2.out HB.out) 0
      have hx1 : w8.cell? ⟨w3.heap.size + 1, 1, none⟩ = some (.int .i64 0) := blk_cell (blk_below HX2.out HB.out) 1
      have hx2 : w8.cell? ⟨w3.heap.size + 1, 2, none⟩ = some (.int .i64 0) := blk_cell (blk_below HX2.out HB.out) 2
      go_wp2_with fail
      refine (Gen.curl_Least.calls A2 c2 sC 0 0 2 0 w8 (HP2.out _ HB.out) hc2 ex5).mono ?_
      rintro e w9 ⟨rfl, hb'⟩
      have HB := Lib.hid (below_then HB.out HB.out.size hb')
      clear hlt hx0 hx1 hx2 hb'
      have hlt : w3.heap.size + 1 < w9.heap.size := by have := HS4.out; have := HB.out.size; omega
      have hx0 : w9.cell? ⟨w3.heap.size + 1, 0, none⟩ = some (.slice A2 sC.length c2) := blk_cell (blk_below HX2.out HB.out) 0
      have hx1 : w9.cell? ⟨w3.heap.size + 1, 1, none⟩ = some (.int .i64 0) := blk_cell (blk_below HX2.out HB.out) 1
      have hx2 : w9.cell? ⟨w3.heap.size + 1, 2, none⟩ = some (.int .i64 0) := blk_cell (blk_below HX2.out HB.out) 2
      go_wp2_with fail
      refine (Gen.curl_Order.calls A2 c2 sC 0 0 [0, 2, 1] 0 w9 (HP2.out _ HB.out) hc2 ex6).mono ?_
      rintro e w10 ⟨v7, rfl, hv7, hb'⟩
      have HB := Lib.hid (below_then HB.out HB.out.size hb')
      clear hlt hx0 hx1 hx2 hb'
      obtain ⟨A7, c7, rfl, hc7, hr7⟩ := Kd.R_reads hv7
      have HR7 := Lib.hid hr7
      have HO7 := Lib.hid (show ∀ W, Below w10.heap.size w10 W → Kd.C (Kd.int .i64) W A7 3 [0, 2, 1] from fun W h => Kd.C_below hr7 h)
      clear hv7 hr7
      have hlt : w3.heap.size + 2 < w10.heap.size := by have := HS4.out; have := HB.out.size; omega
      have hx0 : w10.cell? ⟨w3.heap.size + 2, 0, none⟩ = some (.slice A3 sF.length c3) := blk_cell (blk_below HX3.out HB.out) 0
      have hx1 : w10.cell? ⟨w3.heap.size + 2, 1, none⟩ = some (.int .i64 0) := blk_cell (blk_below HX3.out HB.out) 1
      have hx2 : w10.cell? ⟨w3.heap.size + 2, 2, none⟩ = some (.int .i64 9) := blk_cell (blk_below HX3.out HB.out) 2
      go_wp2_with fail
      refine (Gen.curl_Flats.calls A3 c3 sF 0 9 8 0 w10 (HP3.out _ HB.out) hc3 ex7).mono ?_
      rintro e w11 ⟨rfl, hb'⟩
      have HB := Lib.hid (below_then HB.out HB.out.size hb')
      have HO7 := Lib.hid (show ∀ W, Below w11.heap.size w11 W → Kd.C (Kd.int .i64) W A7 3 [0, 2, 1] from fun W h => HO7.out W (below_then hb' hb'.size h))
      clear hlt hx0 hx1 hx2 hb'
      go_wp2_with fail
      have hlt : w3.heap.size + 1 < w11.heap.size := by have := HS4.out; have := HB.out.size; omega
      have hx0 : w11.cell? ⟨w3.heap.size + 1, 0, none⟩ = some (.slice A2 sC.length c2) := blk_cell (blk_below HX2.out HB.out) 0
      have hx1 : w11.cell? ⟨w3.heap.size + 1, 1, none⟩ = some (.int .i64 0) := blk_cell (blk_below HX2.out HB.out) 1
      have hx2 : w11.cell? ⟨w3.heap.size + 1, 2, none⟩ = some (.int .i64 0) := blk_cell (blk_below HX2.out HB.out) 2
      have HBX := Lib.hid (Below.refl w11.heap.size w11)
      rename_i K hK
      refine merge3_ (K := K) (fun a x1 x2 x3 x4 => ((((((((((((a.put (some 83) (.agg #[.slice A2 sC.length c2, .int .i64 0, .int .i64 0])).put (some 84) x1).put (some 85) x2).put (some 86) (.agg #[.int .i64 0, .int .i64 5, .int .i64 0])).put (some 87) x3).put (some 88) x4).put (some 89) (.tuple #[.int .i64 1, .int .i64 0])).put (some 82) (.tuple #[.int .i64 1, .int .i64 0])).put (some 90) (.int .i64 1)).put (some 91) (.int .i64 0)).put (some 20) (.int .i64 1)).put (some 21) (.int .i64 0))) (fun _ W' => Below w11.heap.size w11 W') ?region12 ?rest12
      case region12 =>
        intro HK
        simp only [put_lit_, List.getElem_toArray, List.getElem_cons_succ, List.getElem_cons_zero, List.set_cons_zero, List.set_cons_succ] at HK
        have HKH := Lib.hid HK
        clear HK
        go_region_law (first
          | (go_simp
             go_at_call 28
             refine (ofIs _ _).mono ?_
             rintro e w' ⟨rfl, rfl⟩)
          | (go_simp
             go_at_call 35
             refine (crossbandlaw07_change.calls 0 5 0 0 5 0 _ rfl).mono ?_
             rintro e wc ⟨rfl, hb6⟩
             have HBC := Lib.hid (below_then (by first | exact (HB.out.alloc HB.out.size _).drew | exact HB.out.drew.alloc HB.out.size _) (Nat.le_trans HB.out.size (by simp)) hb6)
             have HBY := Lib.hid (below_then (by first | exact (HBX.out.alloc HBX.out.size _).drew | exact HBX.out.drew.alloc HBX.out.size _) (Nat.le_trans HBX.out.size (by simp)) hb6)
             have HLC := Lib.hid (blk_below (show _ = some (Obj.cells #[.int .i64 0, .int .i64 2, .int .i64 1] 3 (0, 0)) by exact World.alloc_heap_new w11 _) hb6)
             have hltc : w3.heap.size + 1 < wc.heap.size := by have := HS4.out; have := HBC.out.size; omega
             have hy0 : wc.cell? ⟨w3.heap.size + 1, 0, none⟩ = some (.slice A2 sC.length c2) := blk_cell (blk_below HX2.out HBC.out) 0
             have hy1 : wc.cell? ⟨w3.heap.size + 1, 1, none⟩ = some (.int .i64 0) := blk_cell (blk_below HX2.out HBC.out) 1
             have hy2 : wc.cell? ⟨w3.heap.size + 1, 2, none⟩ = some (.int .i64 0) := blk_cell (blk_below HX2.out HBC.out) 2
             clear hb6)
          | (go_simp
             go_at_call 34
             refine (changesIs _ _).mono ?_
             rintro e w' ⟨rfl, rfl⟩)
          | (go_simp
             go_at_call 23
             refine (Gen.curl_CheckCure.calls A2 c2 sC 0 0 _ 3 [0, 2, 1] _ 1 [⟨0, ⟨5, 0⟩⟩] 1 0 _ (HP2.out _ (by first | exact HBC.out.alloc HBC.out.size _ | exact (HBC.out.alloc HBC.out.size _).drew | exact HBC.out.drew.alloc HBC.out.size _)) hc2 (lit_reads [0, 2, 1] _ w11.heap.size (by simp) (by exact blk_alloc HLC.out _)) (by simp) (ch_reads 0 5 0 _ wc.heap.size (by exact World.alloc_heap_new wc _)) (by simp) ex8).mono ?_
             rintro e w' ⟨rfl, hb'⟩
             have HBB := Lib.hid hb'
             clear hb'))
        all_goals
          show K _ _
          simp only [put_lit_, List.getElem_toArray, List.getElem_cons_succ, List.getElem_cons_zero, List.set_cons_zero, List.set_cons_succ]
          first
            | exact HKH.out _ _ _ _ _ (below_then (by first | exact HBY.out.alloc HBY.out.size _ | exact (HBY.out.alloc HBY.out.size _).drew | exact HBY.out.drew.alloc HBY.out.size _) (Nat.le_trans HBY.out.size (by simp)) HBB.out)
            | exact HKH.out _ _ _ _ _ (below_then (by first | exact HBY.out.alloc HBY.out.size _ | exact (HBY.out.alloc HBY.out.size _).drew | exact HBY.out.drew.alloc HBY.out.size _) (Nat.le_trans HBY.out.size (by simp)) HBB.out).drew
      case rest12 =>
       intro x1 x2 x3 x4 w12 hb
       clear hlt hx0 hx1 hx2
       have HB := Lib.hid (below_then HB.out HB.out.size hb)
       have HO7 := Lib.hid (show ∀ W, Below w12.heap.size w12 W → Kd.C (Kd.int .i64) W A7 3 [0, 2, 1] from fun W h => HO7.out W (below_then hb hb.size h))
       clear hb HBX
       refine hK _ _ ?_
       simp only [put_lit_, List.getElem_toArray, List.getElem_cons_succ, List.getElem_cons_zero, List.set_cons_zero, List.set_cons_succ]
       go_wp2_with fail
       have hlt : w3.heap.size + 1 < w12.heap.size := by have := HS4.out; have := HB.out.size; omega
       have hx0 : w12.cell? ⟨w3.heap.size + 1, 0, none⟩ = some (.slice A2 sC.length c2) := blk_cell (blk_below HX2.out HB.out) 0
       have hx1 : w12.cell? ⟨w3.heap.size + 1, 1, none⟩ = some (.int .i64 0) := blk_cell (blk_below HX2.out HB.out) 1
       have hx2 : w12.cell? ⟨w3.heap.size + 1, 2, none⟩ = some (.int .i64 0) := blk_cell (blk_below HX2.out HB.out) 2
       have HBX := Lib.hid (Below.refl w12.heap.size w12)
       rename_i K hK
       refine merge3_ (K := K) (fun a x1 x2 x3 x4 => ((((((((((((a.put (some 93) (.agg #[.slice A2 sC.length c2, .int .i64 0, .int .i64 0])).put (some 94) x1).put (some 95) x2).put (some 96) (.agg #[.int .i64 2, .int .i64 1, .int .i64 0])).put (some 97) x3).put (some 98) x4).put (some 99) (.tuple #[.int .i64 0, .int .i64 23])).put (some 92) (.tuple #[.int .i64 0, .int .i64 23])).put (some 100) (.int .i64 0)).put (some 101) (.int .i64 23)).put (some 22) (.int .i64 0)).put (some 23) (.int .i64 23))) (fun _ W' => Below w12.heap.size w12 W') ?region13 ?rest13
       case region13 =>
         intro HK
         simp only [put_lit_, List.getElem_toArray, List.getElem_cons_succ, List.getElem_cons_zero, List.set_cons_zero, List.set_cons_succ] at HK
         have HKH := Lib.hid HK
         clear HK
         go_region_law (first
           | (go_simp
              go_at_call 28
              refine (ofIs _ _).mono ?_
              rintro e w' ⟨rfl, rfl⟩)
           | (go_simp
              go_at_call 35
              refine (crossbandlaw07_change.calls 2 1 0 2 1 0 _ rfl).mono ?_
              rintro e wc ⟨rfl, hb6⟩
              have HBC := Lib.hid (below_then (by first | exact (HB.out.alloc HB.out.size _).drew | exact HB.out.drew.alloc HB.out.size _) (Nat.le_trans HB.out.size (by simp)) hb6)
              have HBY := Lib.hid (below_then (by first | exact (HBX.out.alloc HBX.out.size _).drew | exact HBX.out.drew.alloc HBX.out.size _) (Nat.le_trans HBX.out.size (by simp)) hb6)
              have HLC := Lib.hid (blk_below (show _ = some (Obj.cells #[.int .i64 0, .int .i64 2, .int .i64 1] 3 (0, 0)) by exact World.alloc_heap_new w12 _) hb6)
              have hltc : w3.heap.size + 1 < wc.heap.size := by have := HS4.out; have := HBC.out.size; omega
              have hy0 : wc.cell? ⟨w3.heap.size + 1, 0, none⟩ = some (.slice A2 sC.length c2) := blk_cell (blk_below HX2.out HBC.out) 0
              have hy1 : wc.cell? ⟨w3.heap.size + 1, 1, none⟩ = some (.int .i64 0) := blk_cell (blk_below HX2.out HBC.out) 1
              have hy2 : wc.cell? ⟨w3.heap.size + 1, 2, none⟩ = some (.int .i64 0) := blk_cell (blk_below HX2.out HBC.out) 2
              clear hb6)
           | (go_simp
              go_at_call 34
              refine (changesIs _ _).mono ?_
              rintro e w' ⟨rfl, rfl⟩)
           | (go_simp
              go_at_call 23
              refine (Gen.curl_CheckCure.calls A2 c2 sC 0 0 _ 3 [0, 2, 1] _ 1 [⟨2, ⟨1, 0⟩⟩] 0 23 _ (HP2.out _ (by first | exact HBC.out.alloc HBC.out.size _ | exact (HBC.out.alloc HBC.out.size _).drew | exact HBC.out.drew.alloc HBC.out.size _)) hc2 (lit_reads [0, 2, 1] _ w12.heap.size (by simp) (by exact blk_alloc HLC.out _)) (by simp) (ch_reads 2 1 0 _ wc.heap.size (by exact World.alloc_heap_new wc _)) (by simp) ex9).mono ?_
              rintro e w' ⟨rfl, hb'⟩
              have HBB := Lib.hid hb'
              clear hb'))
         all_goals
           show K _ _
           simp only [put_lit_, List.getElem_toArray, List.getElem_cons_succ, List.getElem_cons_zero, List.set_cons_zero, List.set_cons_succ]
           first
             | exact HKH.out _ _ _ _ _ (below_then (by first | exact HBY.out.alloc HBY.out.size _ | exact (HBY.out.alloc HBY.out.size _).drew | exact HBY.out.drew.alloc HBY.out.size _) (Nat.le_trans HBY.out.size (by simp)) HBB.out)
             | exact HKH.out _ _ _ _ _ (below_then (by first | exact HBY.out.alloc HBY.out.size _ | exact (HBY.out.alloc HBY.out.size _).drew | exact HBY.out.drew.alloc HBY.out.size _) (Nat.le_trans HBY.out.size (by simp)) HBB.out).drew
       case rest13 =>
        intro x1 x2 x3 x4 w13 hb
        clear hlt hx0 hx1 hx2
        have HB := Lib.hid (below_then HB.out HB.out.size hb)
        have HO7 := Lib.hid (show ∀ W, Below w13.heap.size w13 W → Kd.C (Kd.int .i64) W A7 3 [0, 2, 1] from fun W h => HO7.out W (below_then hb hb.size h))
        clear hb HBX
        refine hK _ _ ?_
        simp only [put_lit_, List.getElem_toArray, List.getElem_cons_succ, List.getElem_cons_zero, List.set_cons_zero, List.set_cons_succ]
        go_wp2_with fail
        have hlt : w3.heap.size + 1 < w13.heap.size := by have := HS4.out; have := HB.out.size; omega
        have hx0 : w13.cell? ⟨w3.heap.size + 1, 0, none⟩ = some (.slice A2 sC.length c2) := blk_cell (blk_below HX2.out HB.out) 0
        have hx1 : w13.cell? ⟨w3.heap.size + 1, 1, none⟩ = some (.int .i64 0) := blk_cell (blk_below HX2.out HB.out) 1
        have hx2 : w13.cell? ⟨w3.heap.size + 1, 2, none⟩ = some (.int .i64 0) := blk_cell (blk_below HX2.out HB.out) 2
        have HBX := Lib.hid (Below.refl w13.heap.size w13)
        rename_i K hK
        refine merge3_ (K := K) (fun a x1 x2 x3 x4 => ((((((((((((a.put (some 103) (.agg #[.slice A2 sC.length c2, .int .i64 0, .int .i64 0])).put (some 104) x1).put (some 105) x2).put (some 106) (.agg #[.int .i64 0, .int .i64 101, .int .i64 0])).put (some 107) x3).put (some 108) x4).put (some 109) (.tuple #[.int .i64 0, .int .i64 3])).put (some 102) (.tuple #[.int .i64 0, .int .i64 3])).put (some 110) (.int .i64 0)).put (some 111) (.int .i64 3)).put (some 24) (.int .i64 0)).put (some 25) (.int .i64 3))) (fun _ W' => Below w13.heap.size w13 W') ?region14 ?rest14
        case region14 =>
          intro HK
          simp only [put_lit_, List.getElem_toArray, List.getElem_cons_succ, List.getElem_cons_zero, List.set_cons_zero, List.set_cons_succ] at HK
          have HKH := Lib.hid HK
          clear HK
          go_region_law (first
            | (go_simp
               go_at_call 28
               refine (ofIs _ _).mono ?_
               rintro e w' ⟨rfl, rfl⟩)
            | (go_simp
               go_at_call 35
               refine (crossbandlaw07_change.calls 0 101 0 0 101 0 _ rfl).mono ?_
               rintro e wc ⟨rfl, hb6⟩
               have HBC := Lib.hid (below_then (by first | exact (HB.out.alloc HB.out.size _).drew | exact HB.out.drew.alloc HB.out.size _) (Nat.le_trans HB.out.size (by simp)) hb6)
               have HBY := Lib.hid (below_then (by first | exact (HBX.out.alloc HBX.out.size _).drew | exact HBX.out.drew.alloc HBX.out.size _) (Nat.le_trans HBX.out.size (by simp)) hb6)
               have HLC := Lib.hid (blk_below (show _ = some (Obj.cells #[.int .i64 0, .int .i64 2, .int .i64 1] 3 (0, 0)) by exact World.alloc_heap_new w13 _) hb6)
               have hltc : w3.heap.size + 1 < wc.heap.size := by have := HS4.out; have := HBC.out.size; omega
               have hy0 : wc.cell? ⟨w3.heap.size + 1, 0, none⟩ = some (.slice A2 sC.length c2) := blk_cell (blk_below HX2.out HBC.out) 0
               have hy1 : wc.cell? ⟨w3.heap.size + 1, 1, none⟩ = some (.int .i64 0) := blk_cell (blk_below HX2.out HBC.out) 1
               have hy2 : wc.cell? ⟨w3.heap.size + 1, 2, none⟩ = some (.int .i64 0) := blk_cell (blk_below HX2.out HBC.out) 2
               clear hb6)
            | (go_simp
               go_at_call 34
               refine (changesIs _ _).mono ?_
               rintro e w' ⟨rfl, rfl⟩)
            | (go_simp
               go_at_call 23
               refine (Gen.curl_CheckCure.calls A2 c2 sC 0 0 _ 3 [0, 2, 1] _ 1 [⟨0, ⟨101, 0⟩⟩] 0 3 _ (HP2.out _ (by first | exact HBC.out.alloc HBC.out.size _ | exact (HBC.out.alloc HBC.out.size _).drew | exact HBC.out.drew.alloc HBC.out.size _)) hc2 (lit_reads [0, 2, 1] _ w13.heap.size (by simp) (by exact blk_alloc HLC.out _)) (by simp) (ch_reads 0 101 0 _ wc.heap.size (by exact World.alloc_heap_new wc _)) (by simp) ex10).mono ?_
               rintro e w' ⟨rfl, hb'⟩
               have HBB := Lib.hid hb'
               clear hb'))
          all_goals
            show K _ _
            simp only [put_lit_, List.getElem_toArray, List.getElem_cons_succ, List.getElem_cons_zero, List.set_cons_zero, List.set_cons_succ]
            first
              | exact HKH.out _ _ _ _ _ (below_then (by first | exact HBY.out.alloc HBY.out.size _ | exact (HBY.out.alloc HBY.out.size _).drew | exact HBY.out.drew.alloc HBY.out.size _) (Nat.le_trans HBY.out.size (by simp)) HBB.out)
              | exact HKH.out _ _ _ _ _ (below_then (by first | exact HBY.out.alloc HBY.out.size _ | exact (HBY.out.alloc HBY.out.size _).drew | exact HBY.out.drew.alloc HBY.out.size _) (Nat.le_trans HBY.out.size (by simp)) HBB.out).drew
        case rest14 =>
         intro x1 x2 x3 x4 w14 hb
         clear hlt hx0 hx1 hx2
         have HB := Lib.hid (below_then HB.out HB.out.size hb)
         have HO7 := Lib.hid (show ∀ W, Below w14.heap.size w14 W → Kd.C (Kd.int .i64) W A7 3 [0, 2, 1] from fun W h => HO7.out W (below_then hb hb.size h))
         clear hb HBX
         refine hK _ _ ?_
         simp only [put_lit_, List.getElem_toArray, List.getElem_cons_succ, List.getElem_cons_zero, List.set_cons_zero, List.set_cons_succ]
         go_wp2_with fail
         have hlt : w3.heap.size + 2 < w14.heap.size := by have := HS4.out; have := HB.out.size; omega
         have hx0 : w14.cell? ⟨w3.heap.size + 2, 0, none⟩ = some (.slice A3 sF.length c3) := blk_cell (blk_below HX3.out HB.out) 0
         have hx1 : w14.cell? ⟨w3.heap.size + 2, 1, none⟩ = some (.int .i64 0) := blk_cell (blk_below HX3.out HB.out) 1
         have hx2 : w14.cell? ⟨w3.heap.size + 2, 2, none⟩ = some (.int .i64 9) := blk_cell (blk_below HX3.out HB.out) 2
         have HBX := Lib.hid (Below.refl w14.heap.size w14)
         rename_i K hK
         refine merge_ (K := K) ?act15 (fun W' => Below w14.heap.size w14 W') ?region15 ?rest15
         case region15 =>
           intro HK
           go_region_law (first
             | (go_simp
                go_at_call_of 28 (Value.slice (some ⟨w14.heap.size, 0, none⟩) 5 5)
                refine (ofIs _ _).mono ?_
                rintro e w' ⟨rfl, rfl⟩)
             | (go_simp
                go_at_call_of 21 (Value.slice (some ⟨w14.heap.size, 0, none⟩) 5 5)
                refine (Gen.curl_Fewest.calls A3 c3 sF 0 9 (some ⟨w14.heap.size, 0, none⟩) 5 [1, 0, 2, 3, 4] 2 0 _ (HP3.out _ (by first | exact (HB.out.alloc HB.out.size _).drew | exact HB.out.drew.alloc HB.out.size _)) hc3 (lit_reads [1, 0, 2, 3, 4] _ _ (by simp) (by exact World.alloc_heap_new w14 _)) (by simp) ex11).mono ?_
                rintro e w' ⟨rfl, hb'⟩
                have HBB := Lib.hid hb'
                clear hb'))
           all_goals
             show K _ _
             simp only [put_lit_, List.getElem_toArray, List.getElem_cons_succ, List.getElem_cons_zero, List.set_cons_zero, List.set_cons_succ]
             first
               | exact HK _ (below_then (by first | exact (HBX.out.alloc HBX.out.size _).drew | exact HBX.out.drew.alloc HBX.out.size _) (Nat.le_trans HBX.out.size (by simp)) HBB.out)
               | exact HK _ ((below_then (by first | exact (HBX.out.alloc HBX.out.size _).drew | exact HBX.out.drew.alloc HBX.out.size _) (Nat.le_trans HBX.out.size (by simp)) HBB.out).drew)
         case rest15 =>
          intro w15 hb
          clear hlt hx0 hx1 hx2
          have HB := Lib.hid (below_then HB.out HB.out.size hb)
          have HO7 := Lib.hid (show ∀ W, Below w15.heap.size w15 W → Kd.C (Kd.int .i64) W A7 3 [0, 2, 1] from fun W h => HO7.out W (below_then hb hb.size h))
          clear hb HBX
          refine hK _ _ ?_
          go_wp2_with fail
          have hlt : w3.heap.size + 1 < w15.heap.size := by have := HS4.out; have := HB.out.size; omega
          have hx0 : w15.cell? ⟨w3.heap.size + 1, 0, none⟩ = some (.slice A2 sC.length c2) := blk_cell (blk_below HX2.out HB.out) 0
          have hx1 : w15.cell? ⟨w3.heap.size + 1, 1, none⟩ = some (.int .i64 0) := blk_cell (blk_below HX2.out HB.out) 1
          have hx2 : w15.cell? ⟨w3.heap.size + 1, 2, none⟩ = some (.int .i64 0) := blk_cell (blk_below HX2.out HB.out) 2
          have HBX := Lib.hid (Below.refl w15.heap.size w15)
          rename_i K hK
          refine merge3_ (K := K) (fun a x1 _ _ _ => (((((((((a.put (some 120) (.agg #[.slice A2 sC.length c2, .int .i64 0, .int .i64 0])).put (some 121) (.slice (some ⟨w15.heap.size, 0, none⟩) 3 3)).put (some 122) (.slice (some ⟨w15.heap.size, 0, none⟩) 3 3)).put (some 123) (.tuple #[x1, .int .i64 0])).put (some 119) (.tuple #[x1, .int .i64 0])).put (some 124) x1).put (some 125) (.int .i64 0)).put (some 28) x1).put (some 29) (.int .i64 0))) (fun x1 W' => ∃ A c, x1 = .slice A qC.length c ∧ qC.length ≤ c ∧ Kd.C k54 W' A qC.length qC ∧ Below w15.heap.size w15 W') ?region16 ?rest16
          case region16 =>
            intro HK
            simp only [put_lit_, List.getElem_toArray, List.getElem_cons_succ, List.getElem_cons_zero, List.set_cons_zero, List.set_cons_succ] at HK
            have HKH := Lib.hid HK
            clear HK
            go_region_law (first
              | (go_simp
                 go_at_call_of 28 (Value.slice (some ⟨w15.heap.size, 0, none⟩) 3 3)
                 refine (ofIs _ _).mono ?_
                 rintro e w' ⟨rfl, rfl⟩)
              | (go_simp
                 go_at_call_of 22 (Value.slice (some ⟨w15.heap.size, 0, none⟩) 3 3)
                 refine (Gen.curl_Cure.calls A2 c2 sC 0 0 (some ⟨w15.heap.size, 0, none⟩) 3 [0, 2, 1] qC 0 _ (HP2.out _ (by first | exact (HB.out.alloc HB.out.size _).drew | exact HB.out.drew.alloc HB.out.size _)) hc2 (lit_reads [0, 2, 1] _ _ (by simp) (by exact World.alloc_heap_new w15 _)) (by simp) ex12').mono ?_
                 rintro e w' ⟨v, rfl, hv, hb'⟩
                 obtain ⟨A8, c8, rfl, hc8, hr8⟩ := Kd.R_reads hv
                 have HR8 := Lib.hid hr8
                 have HBB := Lib.hid hb'
                 clear hb' hv hr8))
            all_goals
              show K _ _
              simp only [put_lit_, List.getElem_toArray, List.getElem_cons_succ, List.getElem_cons_zero, List.set_cons_zero, List.set_cons_succ]
              first
                | exact HKH.out (.slice A8 qC.length c8) undef undef undef _ ⟨A8, c8, rfl, hc8, HR8.out, below_then (by first | exact (HBX.out.alloc HBX.out.size _).drew | exact HBX.out.drew.alloc HBX.out.size _) (Nat.le_trans HBX.out.size (by simp)) HBB.out⟩
                | exact HKH.out (.slice A8 qC.length c8) undef undef undef _ ⟨A8, c8, rfl, hc8, HR8.out, (below_then (by first | exact (HBX.out.alloc HBX.out.size _).drew | exact HBX.out.drew.alloc HBX.out.size _) (Nat.le_trans HBX.out.size (by simp)) HBB.out).drew⟩
          case rest16 =>
           rintro v8 x2 x3 x4 w16 ⟨A8, c8, rfl, hc8, hr8, hb⟩
           clear hlt hx0 hx1 hx2
           have HB := Lib.hid (below_then HB.out HB.out.size hb)
           have HO7 := Lib.hid (show ∀ W, Below w16.heap.size w16 W → Kd.C (Kd.int .i64) W A7 3 [0, 2, 1] from fun W h => HO7.out W (below_then hb hb.size h))
           have HR8 := Lib.hid hr8
           clear hb hr8 HBX
           refine hK _ _ ?_
           simp only [put_lit_, List.getElem_toArray, List.getElem_cons_succ, List.getElem_cons_zero, List.set_cons_zero, List.set_cons_succ]
           have HO8 := Lib.hid (show ∀ W, Below w16.heap.size w16 W → Kd.C k54 W A8 qC.length qC from fun W h => Kd.C_below HR8.out h)
           have hlt : w3.heap.size + 1 < w16.heap.size := by have := HS4.out; have := HB.out.size; omega
           have hx0 : w16.cell? ⟨w3.heap.size + 1, 0, none⟩ = some (.slice A2 sC.length c2) := blk_cell (blk_below HX2.out HB.out) 0
           have hx1 : w16.cell? ⟨w3.heap.size + 1, 1, none⟩ = some (.int .i64 0) := blk_cell (blk_below HX2.out HB.out) 1
           have hx2 : w16.cell? ⟨w3.heap.size + 1, 2, none⟩ = some (.int .i64 0) := blk_cell (blk_below HX2.out HB.out) 2
           go_wp2_with fail
           refine (Gen.curl_Blame.calls A2 c2 sC 0 0 [0, 1, 2] 0 w16 (HP2.out _ HB.out) hc2 ex13).mono ?_
           rintro e w17 ⟨v9, rfl, hv9, hb'⟩
           have HB := Lib.hid (below_then HB.out HB.out.size hb')
           have HO7 := Lib.hid (show ∀ W, Below w17.heap.size w17 W → Kd.C (Kd.int .i64) W A7 3 [0, 2, 1] from fun W h => HO7.out W (below_then hb' hb'.size h))
           have HO8 := Lib.hid (show ∀ W, Below w17.heap.size w17 W → Kd.C k54 W A8 qC.length qC from fun W h => HO8.out W (below_then hb' hb'.size h))
           clear hlt hx0 hx1 hx2 hb'
           obtain ⟨A9, c9, rfl, hc9, hr9⟩ := Kd.R_reads hv9
           have HO9 := Lib.hid (show ∀ W, Below w17.heap.size w17 W → Kd.C (Kd.int .i64) W A9 3 [0, 1, 2] from fun W h => Kd.C_below hr9 h)
           clear hv9 hr9
           go_wp2_with fail
           have hlt : w3.heap.size + 1 < w17.heap.size := by have := HS4.out; have := HB.out.size; omega
           have hx0 : w17.cell? ⟨w3.heap.size + 1, 0, none⟩ = some (.slice A2 sC.length c2) := blk_cell (blk_below HX2.out HB.out) 0
           have hx1 : w17.cell? ⟨w3.heap.size + 1, 1, none⟩ = some (.int .i64 0) := blk_cell (blk_below HX2.out HB.out) 1
           have hx2 : w17.cell? ⟨w3.heap.size + 1, 2, none⟩ = some (.int .i64 0) := blk_cell (blk_below HX2.out HB.out) 2
           have HBX := Lib.hid (Below.refl w17.heap.size w17)
           rename_i K hK
           refine merge_ (K := K) ?act18 (fun W' => Below w17.heap.size w17 W') ?region18 ?rest18
           case region18 =>
             intro HK
             go_region_law (first
               | (go_simp
                  go_at_call_of 28 (Value.slice (some ⟨w17.heap.size, 0, none⟩) 3 3)
                  refine (ofIs _ _).mono ?_
                  rintro e w' ⟨rfl, rfl⟩)
               | (go_simp
                  go_at_call_of 24 (Value.slice (some ⟨w17.heap.size, 0, none⟩) 3 3)
                  refine (crossbandref07_CheckCure.calls 100 A2 c2 sC 0 0 (some ⟨w17.heap.size, 0, none⟩) 3 [0, 2, 1] A8 c8 qC 1 0 _ (HP2.out _ (by first | exact (HB.out.alloc HB.out.size _).drew | exact HB.out.drew.alloc HB.out.size _)) hc2 (lit_reads [0, 2, 1] _ _ (by simp) (by exact World.alloc_heap_new w17 _)) (by simp) (HO8.out _ (by first | exact (HBX.out.alloc HBX.out.size _).drew | exact HBX.out.drew.alloc HBX.out.size _)) hc8 ex14).mono ?_
                  rintro e w' ⟨rfl, hb'⟩
                  have HBB := Lib.hid hb'
                  clear hb'))
             all_goals
               show K _ _
               simp only [put_lit_, List.getElem_toArray, List.getElem_cons_succ, List.getElem_cons_zero, List.set_cons_zero, List.set_cons_succ]
               first
                 | exact HK _ (below_then (by first | exact (HBX.out.alloc HBX.out.size _).drew | exact HBX.out.drew.alloc HBX.out.size _) (Nat.le_trans HBX.out.size (by simp)) HBB.out)
                 | exact HK _ ((below_then (by first | exact (HBX.out.alloc HBX.out.size _).drew | exact HBX.out.drew.alloc HBX.out.size _) (Nat.le_trans HBX.out.size (by simp)) HBB.out).drew)
           case rest18 =>
            intro w18 hb
            clear hlt hx0 hx1 hx2
            have HB := Lib.hid (below_then HB.out HB.out.size hb)
            have HO7 := Lib.hid (show ∀ W, Below w18.heap.size w18 W → Kd.C (Kd.int .i64) W A7 3 [0, 2, 1] from fun W h => HO7.out W (below_then hb hb.size h))
            have HO8 := Lib.hid (show ∀ W, Below w18.heap.size w18 W → Kd.C k54 W A8 qC.length qC from fun W h => HO8.out W (below_then hb hb.size h))
            have HO9 := Lib.hid (show ∀ W, Below w18.heap.size w18 W → Kd.C (Kd.int .i64) W A9 3 [0, 1, 2] from fun W h => HO9.out W (below_then hb hb.size h))
            clear hb HBX
            refine hK _ _ ?_
            go_wp2_with fail
            refine (ofIs _ _).mono ?_
            rintro e w' ⟨rfl, rfl⟩
            go_wp2_with fail
            refine (crossbandlaw07_Ints.calls 20 A7 c7 [0, 2, 1] (some ⟨w18.heap.size, 0, none⟩) 3 [0, 2, 1] true _ (HO7.out _ ((Below.refl w18.heap.size w18).alloc (Nat.le_refl _) _)) hc7 (lit_reads [0, 2, 1] _ _ (by simp) (by exact World.alloc_heap_new w18 _)) (by simp) ex15).mono ?_
            rintro e wb ⟨rfl, hd⟩
            have HBb := Lib.hid (below_then ((Below.refl w18.heap.size w18).alloc (Nat.le_refl _) _) (by simp) hd.below)
            clear hd
            go_wp2_with fail
            refine (ofIs _ _).mono ?_
            rintro e w' ⟨rfl, rfl⟩
            go_wp2_with fail
            refine (crossbandlaw07_Ints.calls 20 A9 c9 [0, 1, 2] (some ⟨wb.heap.size, 0, none⟩) 3 [0, 1, 2] true _ (HO9.out _ (HBb.out.alloc HBb.out.size _)) hc9 (lit_reads [0, 1, 2] _ _ (by simp) (by exact World.alloc_heap_new wb _)) (by simp) ex16).mono ?_
            rintro e wc ⟨rfl, hd⟩
            have HBc := Lib.hid (below_then (HBb.out.alloc HBb.out.size _) (Nat.le_trans HBb.out.size (by simp)) hd.below)
            clear hd
            go_wp2_with fail
            go_ret
            exact ⟨rfl, below_then HBW.out (HBW.out.size) (below_then HB.out HB.out.size HBc.out)⟩
end Go.Proofs.Ytehfhbdhdbpfpaa.Own
