/- Parts of a proof: C13 C14. No condition. -/
import Derived.Test.YtehfhbdhdbpfpaaYPan17
namespace Go.Proofs.Ytehfhbdhdbpfpaa.Own
end Go.Proofs.Ytehfhbdhdbpfpaa.Own
namespace Go.Proofs.Ytehfhbdhdbpfpaa.Print
end Go.Proofs.Ytehfhbdhdbpfpaa.Print
namespace Go.Proofs.Ytehfhbdhdbpfpaa.Spec
end Go.Proofs.Ytehfhbdhdbpfpaa.Spec
namespace Go.Proofs.YtehfhbdhdbpfpaaW.PrintLast
end Go.Proofs.YtehfhbdhdbpfpaaW.PrintLast
namespace Go.Proofs.YtehfhbdhdbpfpaaW.PrintMore
end Go.Proofs.YtehfhbdhdbpfpaaW.PrintMore
namespace Go.Proofs.YtehfhbdhdbpfpaaW.PrintWords
end Go.Proofs.YtehfhbdhdbpfpaaW.PrintWords
set_option linter.unusedVariables false
set_option linter.unusedSimpArgs false
section
namespace Go.Proofs.Ytehfhbdhdbpfpaa.Own
open Go.RowKit Go.Shelf Go.Proofs.YtehfhbdhdbpfpaaW.PrintWords Go.Proofs.YtehfhbdhdbpfpaaW.PrintLast Go.Proofs.YtehfhbdhdbpfpaaW.PrintMore Go.Proofs.Ytehfhbdhdbpfpaa.Print Go.Proofs.Ytehfhbdhdbpfpaa.Spec
set_option linter.unusedVariables false
set_option linter.unusedSimpArgs false
def TwoInts (w : World) (r : List Int) (x : Int) (e : Ending) (w' : World) : Prop :=
  ∃ v0_ : Value, e = .returned (.tuple #[v0_, .int .i64 x]) ∧ Kd.R (Kd.int .i64) 3 w' w.heap.size (fun _ => True) v0_ r ∧ Below w.heap.size w w'
set_option maxRecDepth 100000 in
set_option maxHeartbeats 1600000 in
theorem Order_err (A : Option Addr) (c : Nat) (l : List Sh) (lo hi x : Int) (w : World) (hr : Kd.C k52 w A l.length l) (hx : panel l lo hi = x) (h0 : x ≠ 0) :
    Calls Try.prog 33 #[.agg #[.slice A l.length c, .int .i64 lo, .int .i64 hi]] w (TwoInts w [] x) := by
  have HR := Lib.hid hr
  have HX := Lib.hid hx
  have hxb : (x != 0) = true := by simpa using h0
  clear hr hx
  go_enter Try.func33, Try.ntmps33
  go_wp2_with fail
  refine (open0_err A c l lo hi x _ _ (Kd.C_below HR.out (ba (b0 w) _)) HX.out h0).mono ?_
  rintro e w1 ⟨rfl, hb1⟩
  go_wp2
  go_ret2
  exact ⟨_, rfl, Kd.R_of_own (World.ownsRow_nil _ _ _ _) (fun _ _ => trivial), bt (ba (b0 w) _) hb1⟩
set_option maxRecDepth 100000 in
set_option maxHeartbeats 1600000 in
theorem Order_ok (A : Option Addr) (c : Nat) (l : List Sh) (lo hi : Int) (w : World) (hr : Kd.C k52 w A l.length l) (hx : panel l lo hi = 0) :
    Calls Try.prog 33 #[.agg #[.slice A l.length c, .int .i64 lo, .int .i64 hi]] w (TwoInts w (order l lo hi) 0) := by
  have HR := Lib.hid hr
  have HX := Lib.hid hx
  obtain ⟨hgd, hlo0, hlh, hhi, _⟩ := Plain.good_of_panel hx
  have hl7 := hgd.1
  have hl3 := hgd.2.1
  have HG := Lib.hid hgd
  clear hr hx hgd
  go_enter Try.func33, Try.ntmps33
  go_wp2_with fail
  refine (open0_ok A c l lo hi _ (Kd.C_below HR.out (ba (b0 w) _)) HX.out).mono ?_
  rintro e w1 ⟨pb, mb, rfl, hp, hm, hpl, hml, hne, hb1⟩
  have HB1 := Lib.hid (bt (ba (b0 w) _) hb1)
  have HP := Lib.hid hp
  have hpw := blk_lt hp
  clear hp hm hb1
  go_wp2_with fail
  obtain ⟨w2, hw2⟩ : ∃ w2, w1.alloc (.cells #[.func (.func 41) #[.pointer (some ⟨pb, 0, none⟩)] #[]] 70) = w2 := ⟨_, rfl⟩
  have hs2 : w2.heap.size = w1.heap.size + 1 := by rw [← hw2]; simp
  have hb12 : Below w1.heap.size w1 w2 := by rw [← hw2]; exact ba (b0 w1) _
  have HB2 := Lib.hid (bt HB1.out hb12)
  have HL2 := Lib.hid (show LtIn w2 w1.heap.size pb A c l lo hi from ⟨by rw [← hw2]; exact blk_cell (World.alloc_heap_new w1 _) 0, pressIn_of (blk_below HP.out hb12) HR.out HB2.out⟩)
  rw [hw2]
  clear hb12 hw2
  refine (orders_calls pb w2).mono ?_
  rintro e w3 ⟨rfl, hw3⟩
  have hb23 : Below w2.heap.size w2 w3 := by rw [← hw3]; exact ba (b0 w2) _
  have hs3 : w3.heap.size = w2.heap.size + 1 := by rw [← hw3]; simp
  have hx3 : w3.heap[w2.heap.size]? = some (.cells #[.pointer (some ⟨pb, 0, none⟩)] 62 (0, 0)) := by rw [← hw3]; exact World.alloc_heap_new w2 _
  have HB3 := Lib.hid (bt HB2.out hb23)
  have HL3 := Lib.hid (HL2.out.below hb23)
  rw [hs2] at hx3
  have HX3 := Lib.hid hx3
  clear hb23 hw3 hx3
  go_wp2_with fail
  refine (collect_ords (w1.heap.size + 1) pb A l.length c w3 (by omega) hl7 HX3.out HL3.out.2.1).mono ?_
  rintro e w4 ⟨v, hs, rfl, hrow, hin, hb34⟩
  have hN2 := Plain.perms_two (n := l.length) (by omega)
  have hNm := perms_len hl7
  obtain ⟨n1, hn1⟩ : ∃ n1, (perms l.length).length = n1 + 1 := ⟨(perms l.length).length - 1, by omega⟩
  have hrow' := hrow
  rw [hn1] at hrow'
  obtain ⟨g, cap, rfl⟩ := ownsRow_succ hrow'
  rw [← hn1] at hrow ⊢
  have HB4 := Lib.hid (bt HB3.out hb34)
  have HL4 := Lib.hid (HL3.out.below hb34)
  have HROW := Lib.hid (⟨hrow, hin⟩ : _ ∧ _)
  clear hrow hrow' hin hb34 hn1
  go_wp2_with fail
  refine (best_calls A c l lo hi w1.heap.size pb w3.heap.size g cap (perms l.length) hs w4 HL4.out HROW.out.1 HROW.out.2 hN2 hNm HG.out (fun x hx => Plain.perms_ord hx) ⟨hlo0, by omega⟩ ⟨by omega, hhi⟩).mono ?_
  rintro e w5 ⟨v, rfl, hv, hb45⟩
  change ordEnc _ _ (order l lo hi) v w5 at hv
  obtain ⟨bo, hbo⟩ : ∃ b, order l lo hi = b := ⟨_, rfl⟩
  have HBO := Lib.hid hbo
  rw [hbo] at hv
  clear hbo
  have HV := Lib.hid hv
  obtain ⟨⟨A5, c5, rfl⟩, hq⟩ := hv
  clear hq
  have HB5 := Lib.hid (bt HB4.out hb45)
  clear hb45
  go_wp2
  go_ret2
  exact ⟨_, rfl, by rw [HBO.out]; exact Kd.R_lower (Kd.R_of_own HV.out.2.1 (fun _ _ => trivial)) (by have := HB3.out.size; omega), HB5.out⟩
set_option maxRecDepth 100000 in
set_option maxHeartbeats 1600000 in
theorem Least_err (A : Option Addr) (c : Nat) (l : List Sh) (lo hi x : Int) (w : World) (hr : Kd.C k52 w A l.length l) (hx : panel l lo hi = x) (h0 : x ≠ 0) :
    Calls Try.prog 32 #[.agg #[.slice A l.length c, .int .i64 lo, .int .i64 hi]] w fun e w' => e = .returned (.tuple #[.int .i64 0, .int .i64 x]) ∧ Below w.heap.size w w' := by
  have HR := Lib.hid hr
  have HX := Lib.hid hx
  have hxb : (x != 0) = true := by simpa using h0
  clear hr hx
  go_enter Try.func32, Try.ntmps32
  go_wp2_with fail
  refine (Order_err A c l lo hi x _ (Kd.C_below HR.out (ba (b0 w) _)) HX.out h0).mono ?_
  rintro e w1 ⟨v, rfl, _, hb1⟩
  go_wp2
  go_ret2
  exact ⟨rfl, bt (ba (b0 w) _) hb1⟩
set_option maxRecDepth 100000 in
set_option maxHeartbeats 1600000 in
theorem Least_ok (A : Option Addr) (c : Nat) (l : List Sh) (lo hi : Int) (w : World) (hr : Kd.C k52 w A l.length l) (hx : panel l lo hi = 0) :
    Calls Try.prog 32 #[.agg #[.slice A l.length c, .int .i64 lo, .int .i64 hi]] w fun e w' => e = .returned (.tuple #[.int .i64 (curlV l lo hi (order l lo hi)), .int .i64 0]) ∧ Below w.heap.size w w' := by
  have HR := Lib.hid hr
  have HX := Lib.hid hx
  have hord : isOrd l.length (order l lo hi) = true := by
    refine Plain.perms_ord ?_
    have h2 := Plain.perms_two (n := l.length) (by have := (Plain.good_of_panel hx).1.2.1; omega)
    have h3 := bestUpto_mem (curlLt l lo hi) (perms l.length) (by intro e; rw [e] at h2; simp at h2) ((perms l.length).length - 1) (by omega)
    unfold bestUpto at h3
    rw [List.take_of_length_le (by simp)] at h3
    exact h3
  have HO := Lib.hid hord
  have hlen : (order l lo hi).length ≤ 12 := by rw [Plain.ord_length hord]; have := (Plain.good_of_panel hx).1.1; omega
  have HOX := Lib.hid (show opened l lo hi (order l lo hi) = 0 by unfold opened; rw [if_pos hx, if_pos hord])
  clear hr hx hord
  go_enter Try.func32, Try.ntmps32
  go_wp2_with fail
  refine (Order_ok A c l lo hi _ (Kd.C_below HR.out (ba (b0 w) _)) HX.out).mono ?_
  rintro e w1 ⟨v, rfl, hv, hb1⟩
  obtain ⟨A1, c1, rfl, _, hC⟩ := Kd.R_reads hv
  have HC := Lib.hid hC
  have HB1 := Lib.hid (bt (ba (b0 w) _) hb1)
  have hc0 : w1.cell? ⟨w.heap.size, 0, none⟩ = some (.slice A l.length c) := (hb1.cell (by simp)).trans (by simp)
  have hc1 : w1.cell? ⟨w.heap.size, 1, none⟩ = some (.int .i64 lo) := (hb1.cell (by simp)).trans (by simp)
  have hc2 : w1.cell? ⟨w.heap.size, 2, none⟩ = some (.int .i64 hi) := (hb1.cell (by simp)).trans (by simp)
  clear hv hC hb1
  go_wp2_with fail
  refine (Curl_ok A c l lo hi A1 c1 (order l lo hi) w1 (Kd.C_below HR.out HB1.out) HC.out hlen HOX.out).mono ?_
  rintro e w2 ⟨rfl, hb2⟩
  go_wp2
  go_ret2
  exact ⟨rfl, bt HB1.out hb2⟩
end Go.Proofs.Ytehfhbdhdbpfpaa.Own
namespace Go.Proofs.Ytehfhbdhdbpfpaa.Gen
open Go.RowKit Go.Proofs.YtehfhbdhdbpfpaaW.PrintWords Go.Proofs.YtehfhbdhdbpfpaaW.PrintLast Go.Proofs.YtehfhbdhdbpfpaaW.PrintMore Go.Proofs.Ytehfhbdhdbpfpaa.Print Go.Proofs.Ytehfhbdhdbpfpaa.Spec Go.Proofs.Ytehfhbdhdbpfpaa.Own
set_option linter.unusedVariables false
theorem curl_Order.calls (A0_0 : Option Addr) (c0_0 : Nat) (l0_0 : List (S52)) (a0_1 : Int) (a0_2 : Int) (r1 : List Int) (r2 : Int) (w : World) (hr0_0 : Kd.C k52 w A0_0 l0_0.length l0_0) (hc0_0 : l0_0.length ≤ c0_0) (h : curl_Order.f l0_0 a0_1 a0_2 = some (r1, r2)) :
    Calls Try.prog 33 #[.agg #[.slice A0_0 l0_0.length c0_0, .int .i64 a0_1, .int .i64 a0_2]] w fun e w' => ∃ v0_ : Value, e = .returned (.tuple #[v0_, .int .i64 r2]) ∧ Kd.R (Kd.int .i64) 3 w' w.heap.size (fun _ => True) v0_ r1 ∧ Below w.heap.size w w' := by
  unfold curl_Order.f at h
  rw [Option.some.injEq] at h
  by_cases hx : panel l0_0 a0_1 a0_2 = 0
  · rw [if_pos hx] at h
    simp only [Prod.mk.injEq] at h
    obtain ⟨rfl, rfl⟩ := h
    exact Order_ok A0_0 c0_0 l0_0 a0_1 a0_2 w hr0_0 hx
  · rw [if_neg hx] at h
    simp only [Prod.mk.injEq] at h
    obtain ⟨rfl, rfl⟩ := h
    exact Order_err A0_0 c0_0 l0_0 a0_1 a0_2 _ w hr0_0 rfl hx
theorem curl_Least.calls (A0_0 : Option Addr) (c0_0 : Nat) (l0_0 : List (S52)) (a0_1 : Int) (a0_2 : Int) (r1 : Int) (r2 : Int) (w : World) (hr0_0 : Kd.C k52 w A0_0 l0_0.length l0_0) (hc0_0 : l0_0.length ≤ c0_0) (h : curl_Least.f l0_0 a0_1 a0_2 = some (r1, r2)) :
    Calls Try.prog 32 #[.agg #[.slice A0_0 l0_0.length c0_0, .int .i64 a0_1, .int .i64 a0_2]] w fun e w' => e = .returned (.tuple #[.int .i64 r1, .int .i64 r2]) ∧ Below w.heap.size w w' := by
  unfold curl_Least.f at h
  rw [Option.some.injEq] at h
  by_cases hx : panel l0_0 a0_1 a0_2 = 0
  · rw [if_pos hx] at h
    simp only [Prod.mk.injEq] at h
    obtain ⟨rfl, rfl⟩ := h
    exact Least_ok A0_0 c0_0 l0_0 a0_1 a0_2 w hr0_0 hx
  · rw [if_neg hx] at h
    simp only [Prod.mk.injEq] at h
    obtain ⟨rfl, rfl⟩ := h
    exact Least_err A0_0 c0_0 l0_0 a0_1 a0_2 _ w hr0_0 rfl hx
end Go.Proofs.Ytehfhbdhdbpfpaa.Gen
end
section
namespace Go.Proofs.Ytehfhbdhdbpfpaa.Own
open Go.RowKit Go.Shelf Go.Proofs.YtehfhbdhdbpfpaaW.PrintWords Go.Proofs.YtehfhbdhdbpfpaaW.PrintLast Go.Proofs.YtehfhbdhdbpfpaaW.PrintMore Go.Proofs.Ytehfhbdhdbpfpaa.Print Go.Proofs.Ytehfhbdhdbpfpaa.Spec
set_option linter.unusedVariables false
set_option linter.unusedSimpArgs false
attribute [local go_sem] Oper.semAt_some
set_option maxRecDepth 100000 in
set_option maxHeartbeats 1600000 in
theorem Flats_err (A : Option Addr) (c : Nat) (l : List Sh) (lo hi x : Int) (w : World) (hr : Kd.C k52 w A l.length l) (hx : panel l lo hi = x) (h0 : x ≠ 0) :
    Calls Try.prog 20 #[.agg #[.slice A l.length c, .int .i64 lo, .int .i64 hi]] w fun e w' => e = .returned (.tuple #[.int .i64 0, .int .i64 x]) ∧ Below w.heap.size w w' := by
  have HR := Lib.hid hr
  have HX := Lib.hid hx
  have hxb : (x != 0) = true := by simpa using h0
  clear hr hx
  go_enter Try.func20, Try.ntmps20
  go_wp2_with fail
  refine (open0_err A c l lo hi x _ _ (Kd.C_below HR.out (ba (b0 w) _)) HX.out h0).mono ?_
  rintro e w1 ⟨rfl, hb1⟩
  go_wp2
  go_ret2
  exact ⟨rfl, ba (bt (ba (b0 w) _) hb1) _⟩
def flatsOf (l : List Sh) (lo hi : Int) (pre : List (List Int)) : Int := ((pre.filter (fun o => curlV l lo hi o == 0)).length : Nat)
theorem flatsOf_push (l : List Sh) (lo hi : Int) (pre : List (List Int)) (x : List Int) : flatsOf l lo hi (pre ++ [x]) = if (curlV l lo hi x == 0) = true then flatsOf l lo hi pre + 1 else flatsOf l lo hi pre := by
  unfold flatsOf
  rw [List.filter_append, List.length_append]
  split
  · rename_i h; simp [h]
  · rename_i h; simp [h]
theorem flatsOf_bd (l : List Sh) (lo hi : Int) (pre : List (List Int)) : 0 ≤ flatsOf l lo hi pre ∧ flatsOf l lo hi pre ≤ pre.length := by
  unfold flatsOf
  have := List.length_filter_le (fun o => curlV l lo hi o == 0) pre
  omega
def Counting (l : List Sh) (lo hi : Int) (nb : Nat) (w2 : World) (pre : List (List Int)) (W : World) : Prop :=
  W.heap[nb]? = some (.cells #[.int .i64 (flatsOf l lo hi pre)] 3 (0, 0)) ∧ Below nb w2 W
set_option maxRecDepth 100000 in
set_option maxHeartbeats 1600000 in
theorem Flats_ok (A : Option Addr) (c : Nat) (l : List Sh) (lo hi : Int) (w : World) (hr : Kd.C k52 w A l.length l) (hx : panel l lo hi = 0) :
    Calls Try.prog 20 #[.agg #[.slice A l.length c, .int .i64 lo, .int .i64 hi]] w fun e w' => e = .returned (.tuple #[.int .i64 (flats l lo hi), .int .i64 0]) ∧ Below w.heap.size w w' := by
  have HR := Lib.hid hr
  have HX := Lib.hid hx
  obtain ⟨hgd, hlo0, hlh, hhi, _⟩ := Plain.good_of_panel hx
  have hl7 := hgd.1
  have hl3 := hgd.2.1
  have HG := Lib.hid hgd
  have hNm := perms_len hl7
  clear hr hx hgd
  refine (callsIn_wide (n := 3)).1 ?_
  refine callsIn_of_wp_marks Try.func20 rfl trivial ?_ rfl
  simp only [Try.ntmps20, List.size_toArray, List.length_cons, List.length_nil, Nat.reduceAdd, Nat.reduceSub, Array.replicate_succ, Array.replicate_zero, List.push_toArray, List.append_toArray, List.nil_append, List.cons_append]
  gi_wp2_with fail
  refine ⟨trivial, callsIn_wide.2 ((open0_ok A c l lo hi _ (Kd.C_below HR.out (ba (b0 w) _)) HX.out).mono ?_)⟩
  rintro e w1 ⟨pb, mb, rfl, hp, hm, hpl, hml, hne, hb1⟩
  have HB1 := Lib.hid (bt (ba (b0 w) _) hb1)
  have HP := Lib.hid hp
  have hpw := blk_lt hp
  clear hp hm hb1
  gi_wp2_with fail
  obtain ⟨w2, hw2⟩ : ∃ w2, w1.alloc (.cells #[.pointer (some ⟨pb, 0, none⟩)] 62) = w2 := ⟨_, rfl⟩
  obtain ⟨w3, hw3⟩ : ∃ w3, w2.alloc (.cells #[.int .i64 0] 3) = w3 := ⟨_, rfl⟩
  have HS2 := Lib.hid (show w2.heap.size = w1.heap.size + 1 by rw [← hw2]; simp)
  have HS3 := Lib.hid (show w3.heap.size = w1.heap.size + 2 by rw [← hw3]; simp [HS2.out])
  have hb12 : Below w1.heap.size w1 w2 := by rw [← hw2]; exact ba (b0 w1) _
  have hb23 : Below w2.heap.size w2 w3 := by rw [← hw3]; exact ba (b0 w2) _
  have HB2 := Lib.hid (bt HB1.out hb12)
  have HBx2 := Lib.hid (show w2.heap[w1.heap.size]? = some (.cells #[.pointer (some ⟨pb, 0, none⟩)] 62 (0, 0)) by rw [← hw2]; exact World.alloc_heap_new w1 _)
  have HP2 := Lib.hid (pressIn_of (blk_below HP.out hb12) HR.out HB2.out)
  have HN3 := Lib.hid (show w3.heap[w1.heap.size + 1]? = some (.cells #[.int .i64 (flatsOf l lo hi [])] 3 (0, 0)) by rw [← hw3, ← HS2.out]; exact World.alloc_heap_new w2 _)
  have HB23 := Lib.hid (show Below (w1.heap.size + 1) w2 w3 by rw [← HS2.out]; exact hb23)
  rw [hw2, hw3]
  clear hb12 hb23 hw2 hw3
  refine ⟨trivial, callsIn_wide.2 ((orders_calls pb w3).mono ?_)⟩
  rintro e w4 ⟨rfl, hw4⟩
  have HB34 := Lib.hid (show Below w3.heap.size w3 w4 by rw [← hw4]; exact ba (b0 w3) _)
  have HX4 := Lib.hid (show w4.heap[w1.heap.size + 2]? = some (.cells #[.pointer (some ⟨pb, 0, none⟩)] 62 (0, 0)) by rw [← hw4, ← HS3.out]; exact World.alloc_heap_new w3 _)
  have HS4 := Lib.hid (show w4.heap.size = w1.heap.size + 3 by rw [← hw4]; simp [HS3.out])
  have HB24 := Lib.hid (show Below (w1.heap.size + 1) w2 w4 from HB23.out.trans ⟨HB34.out.os, HB34.out.tape, HB34.out.output, HB34.out.size, fun i hi => HB34.out.block i (by rw [HS3.out]; omega)⟩)
  have HN4 := Lib.hid (blk_below HN3.out HB34.out)
  rw [HS3.out]
  clear hw4
  gi_wp2
  refine range_law (gf := 65) (lb := #[.pointer (some ⟨w1.heap.size + 2, 0, none⟩)]) (xs := perms l.length) (U := fun k => k = w1.heap.size + 6) (Qk := fun k => k ≠ w1.heap.size + 1) (bad := 27) (enc := ordEnc l.length (w1.heap.size + 8))
    rfl (enters_of Try.func65 (by kernel_rfl) rfl) (fun k h => by have := HS4.out; omega)
    (fun W0 hb0 hs0 => ?seq)
    (fun x v W W' h hk => h.keep (fun k cs hb hc => hk.block k (blk_lt hc) (by have := HS4.out; omega))) (Counting l lo hi (w1.heap.size + 1) w2)
    (fun pre W W' h hk => ⟨hk.blk h.1 (by have := HS4.out; omega), h.2.trans (hk.below (by have := h.2.size; have := blk_lt h.1; omega) (fun i hi => by have := HS4.out; omega))⟩) ⟨HN4.out, HB24.out⟩
    (fun v => { tmps := #[.agg #[.slice A l.length c, .int .i64 lo, .int .i64 hi], .pointer (some ⟨w.heap.size, 0, none⟩), .int .i64 0, .int .i64 0, .pointer (some ⟨w1.heap.size, 0, none⟩), .int .i64 0, .pointer (some ⟨w1.heap.size + 1, 0, none⟩), v,
      .tuple #[.pointer (some ⟨pb, 0, none⟩), .int .i64 0], .agg #[.slice A l.length c, .int .i64 lo, .int .i64 hi], .tuple #[.pointer (some ⟨pb, 0, none⟩), .int .i64 0], .pointer (some ⟨pb, 0, none⟩), .int .i64 0, .int .i64 0, .bool false, undef, .pointer (some ⟨pb, 0, none⟩),
      .func (.func 65) #[] #[.pointer (some ⟨w1.heap.size + 2, 0, none⟩)], v, undef, undef, undef, undef, undef, undef, undef], defers := [] }) ?assign ?body ?done
  case seq =>
    have hsz : W0.heap.size = w1.heap.size + 5 := by rw [hs0, HS4.out]
    have hp0 : W0.cell? ⟨pb, 0, none⟩ = some (.slice A l.length c) := (hb0.cell (p := ⟨pb, 0, none⟩) (by rw [HS4.out]; show pb < _; omega)).trans ((HB24.out.cell (p := ⟨pb, 0, none⟩) (by show pb < _; omega)).trans HP2.out.1)
    have h := orders_seq (w1.heap.size + 2) pb A l.length c w4.heap.size (w4.heap.size + 1) (fun k => k ≠ w1.heap.size + 1) 27 W0 hl7 (blk_below HX4.out hb0) hp0 (by omega) (by rw [HS4.out]; omega) (by rw [HS4.out]; omega) (by simp) (by omega) (by omega) (by omega) (by decide) (by decide) (by decide)
    rw [hsz] at h
    exact h
  case assign =>
    intro l' v W K hK
    gi_wp2
    exact hK
  case body =>
    rintro l' pre x v W ⟨hcn, hB⟩ hpre ⟨⟨A', c', rfl⟩, hxr, hxl⟩ hsz
    have hpl : pre.length < 1000000 := by have := hpre.length_le; simp at this; omega
    have hmem : x ∈ perms l.length := hpre.subset (by simp)
    have hc4 : W.cell? ⟨w1.heap.size, 0, none⟩ = some (.pointer (some ⟨pb, 0, none⟩)) := (hB.cell (p := ⟨w1.heap.size, 0, none⟩) (by show w1.heap.size < _; omega)).trans (blk_cell HBx2.out 0)
    have HPW := Lib.hid (HP2.out.below (show Below w2.heap.size w2 W by rw [HS2.out]; exact hB))
    have HXR := Lib.hid (show ordEnc l.length (w1.heap.size + 8) x (.slice A' x.length c') W from ⟨⟨A', c', rfl⟩, hxr, hxl⟩)
    have HCN := Lib.hid hcn
    have HB := Lib.hid hB
    have HO := Lib.hid (Plain.perms_ord hmem)
    have hfb := flatsOf_bd l lo hi pre
    have HFP := Lib.hid (flatsOf_push l lo hi pre x)
    have hWs := blk_lt hcn
    clear hcn hB hxr hxl hmem hpre
    gi_wp2_with fail
    refine ⟨trivial, CallsIn.inRound l' (callsIn_wide.2 ((curl_calls A c l lo hi pb A' c' x W HPW.out HXR.out.reads HG.out HO.out ⟨hlo0, by omega⟩ ⟨by omega, hhi⟩).mono ?_))⟩
    rintro e W2 ⟨rfl, hb2⟩
    obtain ⟨f, hf⟩ : ∃ f, flatsOf l lo hi pre = f := ⟨_, rfl⟩
    obtain ⟨cv, hcv⟩ : ∃ cv, curlV l lo hi x = cv := ⟨_, rfl⟩
    rw [hf] at hfb HFP HCN
    rw [hcv] at HFP
    rw [hcv]
    have HCN2 := Lib.hid (blk_below HCN.out hb2)
    have hcc : W2.cell? ⟨w1.heap.size + 1, 0, none⟩ = some (.int .i64 f) := blk_cell HCN2.out 0
    have hcf := blk_frozen HCN2.out 0
    have HB2 := Lib.hid hb2
    have HBT := Lib.hid (show Below (w1.heap.size + 1) w2 W2 from HB.out.trans ⟨hb2.os, hb2.tape, hb2.output, hb2.size, fun i hi => hb2.block i (by omega)⟩)
    clear hb2 hf hcv
    cases hz : (cv == 0)
    · have HZ := Lib.hid hz
      gi_wp2
      exact ⟨⟨by rw [HFP.out, HZ.out]; exact HCN2.out, HBT.out⟩, KS.of_below HB2.out _⟩
    · have HZ := Lib.hid hz
      gi_wp2
      exact ⟨⟨by rw [HFP.out, HZ.out]; exact blk_put HCN2.out 0 _ rfl, HBT.out.setCell (p := ⟨w1.heap.size + 1, 0, none⟩) (Nat.le_refl _) _⟩,
        (KS.of_below HB2.out _).setCell (p := ⟨w1.heap.size + 1, 0, none⟩) (fun _ => .inl ⟨by rw [HS4.out]; show w1.heap.size + 1 < _; omega, by simp⟩) _⟩
  case done =>
    rintro W ⟨hcn, hB⟩ hD
    have hcc : W.cell? ⟨w1.heap.size + 1, 0, none⟩ = some (.int .i64 (flatsOf l lo hi (perms l.length))) := blk_cell hcn 0
    have HFE := Lib.hid (show flats l lo hi = flatsOf l lo hi (perms l.length) from rfl)
    obtain ⟨f, hf⟩ : ∃ f, flatsOf l lo hi (perms l.length) = f := ⟨_, rfl⟩
    rw [hf] at hcc HFE
    have HB := Lib.hid hB
    have HD := Lib.hid hD
    clear hcn hB hf
    gi_wp2
    refine ⟨by simp, .inl ⟨_, _, rfl, run_takeDeferred hD, ?_⟩⟩
    have hks : ∀ o, KS (fun k => k = w4.heap.size) W (W.putObj w4.heap.size o) := fun o => (KS.refl (fun k => k = w4.heap.size) W).putObj (fun _ => rfl) _
    have hks2 := hks (.deferred none)
    exact ⟨_, results_tmp2 rfl _ _ _, by rw [HFE.out]; rfl, HB2.out.trans ⟨HB.out.os.trans rfl, HB.out.tape.trans rfl, HB.out.output.trans rfl, Nat.le_trans HB.out.size (by simp), fun i hi => (hks2.block i (by have := HS2.out; have := HS4.out; have := HB.out.size; have := HB2.out.size; omega) (by have := HS4.out; have := HB2.out.size; have := HS2.out; have := HB1.out.size; omega)).trans (HB.out.block i (by have := HS2.out; have := HB1.out.size; omega))⟩⟩
end Go.Proofs.Ytehfhbdhdbpfpaa.Own
namespace Go.Proofs.Ytehfhbdhdbpfpaa.Gen
open Go.RowKit Go.Proofs.YtehfhbdhdbpfpaaW.PrintWords Go.Proofs.YtehfhbdhdbpfpaaW.PrintLast Go.Proofs.YtehfhbdhdbpfpaaW.PrintMore Go.Proofs.Ytehfhbdhdbpfpaa.Print Go.Proofs.Ytehfhbdhdbpfpaa.Spec Go.Proofs.Ytehfhbdhdbpfpaa.Own
set_option linter.unusedVariables false
theorem curl_Flats.calls (A0_0 : Option Addr) (c0_0 : Nat) (l0_0 : List (S52)) (a0_1 : Int) (a0_2 : Int) (r1 : Int) (r2 : Int) (w : World) (hr0_0 : Kd.C k52 w A0_0 l0_0.length l0_0) (hc0_0 : l0_0.length ≤ c0_0) (h : curl_Flats.f l0_0 a0_1 a0_2 = some (r1, r2)) :
    Calls Try.prog 20 #[.agg #[.slice A0_0 l0_0.length c0_0, .int .i64 a0_1, .int .i64 a0_2]] w fun e w' => e = .returned (.tuple #[.int .i64 r1, .int .i64 r2]) ∧ Below w.heap.size w w' := by
  unfold curl_Flats.f at h
  rw [Option.some.injEq] at h
  by_cases hx : panel l0_0 a0_1 a0_2 = 0
  · rw [if_pos hx] at h
    simp only [Prod.mk.injEq] at h
    obtain ⟨rfl, rfl⟩ := h
    exact Flats_ok A0_0 c0_0 l0_0 a0_1 a0_2 w hr0_0 hx
  · rw [if_neg hx] at h
    simp only [Prod.mk.injEq] at h
    obtain ⟨rfl, rfl⟩ := h
    exact Flats_err A0_0 c0_0 l0_0 a0_1 a0_2 _ w hr0_0 rfl hx
end Go.Proofs.Ytehfhbdhdbpfpaa.Gen
end
