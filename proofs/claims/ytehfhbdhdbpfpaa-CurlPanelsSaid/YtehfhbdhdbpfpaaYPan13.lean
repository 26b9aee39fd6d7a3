/- Parts of a proof: C7. No condition. -/
import Derived.Test.YtehfhbdhdbpfpaaYPan12
import Derived.Lib.SliceRun
import Derived.BigRegion
namespace Go.Proofs.Ytehfhbdhdbpfpaa.Print
end Go.Proofs.Ytehfhbdhdbpfpaa.Print
namespace Go.Proofs.Ytehfhbdhdbpfpaa.Spec
end Go.Proofs.Ytehfhbdhdbpfpaa.Spec
namespace Go.Proofs.YtehfhbdhdbpfpaaW.PrintLast
end Go.Proofs.YtehfhbdhdbpfpaaW.PrintLast
namespace Go.Proofs.YtehfhbdhdbpfpaaW.PrintMore
end Go.Proofs.YtehfhbdhdbpfpaaW.PrintMore
namespace Go.Proofs.YtehfhbdhdbpfpaaW.PrintWords
end Go.Proofs.YtehfhbdhdbpfpaaW.PrintWords
set_option linter.unusedVariables false
set_option linter.unusedSimpArgs false
namespace Go.Proofs.Ytehfhbdhdbpfpaa.Own
open Go.RowKit Go.Shelf Go.Proofs.YtehfhbdhdbpfpaaW.PrintWords Go.Proofs.YtehfhbdhdbpfpaaW.PrintLast Go.Proofs.YtehfhbdhdbpfpaaW.PrintMore Go.Proofs.Ytehfhbdhdbpfpaa.Print Go.Proofs.Ytehfhbdhdbpfpaa.Spec
set_option linter.unusedVariables false
set_option linter.unusedSimpArgs false
def momCells (l : List Sh) (o : List Int) (d : Int) (k : Nat) : Array Value := #[.int .i64 (if 0 < k then moment l o 0 d else 0), .int .i64 (if 1 < k then moment l o 1 d else 0)]
theorem clear2 (W : World) (b : Nat) (ty : TypeId) (x y : Value) (hb : W.heap[b]? = some (.cells #[x, y] 66 (0, 0))) :
    (Builtin.clear_ #[98] ty #[.slice (some ⟨b, 0, none⟩) 2 2]).run Try.prog W = .ok (.tuple #[]) (W.setCells b 0 [.int .i64 0, .int .i64 0]) := by
  refine _root_.Go.Lib.run_clear_slice W 98 2 ty (.int .i64 0) (by kernel_rfl) (fun w => by kernel_rfl) rfl rfl b 0 2 2 (by omega) ?_ ?_
  · intro j hj
    have h := blk_cell hb j
    rw [Nat.zero_add, h]
    match j, hj with
    | 0, _ => rfl
    | 1, _ => rfl
  · intro j hj
    rw [Nat.zero_add]
    exact blk_frozen hb j
set_option maxRecDepth 100000 in
set_option maxHeartbeats 1600000 in
theorem moments_calls (A : Option Addr) (c : Nat) (l : List Sh) (lo hi : Int) (pb : Nat) (A1 : Option Addr) (c1 : Nat) (o : List Int) (d : Int) (w : World)
    (hp : PressIn w pb A c l lo hi) (hr1 : Kd.C (Kd.int .i64) w A1 o.length o) (hg : Plain.Good l) (hord : isOrd l.length o = true) (hd0 : 0 ≤ d) (hd1 : d ≤ 50) :
    Calls Try.prog 38 #[.pointer (some ⟨pb, 0, none⟩), .slice A1 o.length c1, .int .i64 d] w
      fun e w' => e = .returned (.agg #[.int .i64 (moment l o 0 d), .int .i64 (moment l o 1 d)]) ∧ Below w.heap.size w w' := by
  have HP := Lib.hid hp
  have HR1 := Lib.hid hr1
  have HG := Lib.hid hg
  have HO := Lib.hid hord
  have hpl := World.block_lt_of_cell? w _ hp.1
  clear hp hr1 hg hord
  go_enter Try.func38, Try.ntmps38
  obtain ⟨W1, hW1⟩ : ∃ W1, (w.alloc (.cells #[.int .i64 0, .int .i64 0] 66)).alloc (.cells #[.int .i64 0, .int .i64 0] 66) = W1 := ⟨_, rfl⟩
  have hb0 : W1.heap[w.heap.size + 1]? = some (.cells #[.int .i64 0, .int .i64 0] 66 (0, 0)) := by rw [← hW1]; simpa using World.alloc_heap_new (w.alloc (.cells #[.int .i64 0, .int .i64 0] 66)) _
  have hb1 : W1.heap[w.heap.size]? = some (.cells #[.int .i64 0, .int .i64 0] 66 (0, 0)) := by rw [← hW1]; exact (Below.heap_alloc _ _ _ (by simp)).trans (World.alloc_heap_new w _)
  have hB1 : Below w.heap.size w W1 := by rw [← hW1]; exact ba (ba (b0 w) _) _
  have hw1s := blk_lt hb0
  have hcl := clear2 W1 (w.heap.size + 1) 0 _ _ hb0
  obtain ⟨W2, hW2⟩ : ∃ W2, W1.setCells (w.heap.size + 1) 0 [.int .i64 0, .int .i64 0] = W2 := ⟨_, rfl⟩
  have hW2' : (W1.setCell ⟨w.heap.size + 1, 0, none⟩ (.int .i64 0)).setCell ⟨w.heap.size + 1, 1, none⟩ (.int .i64 0) = W2 := by rw [← hW2]; rfl
  rw [hW2] at hcl
  have HB0 := Lib.hid (show W2.heap[w.heap.size + 1]? = some (.cells #[.int .i64 0, .int .i64 0] 66 (0, 0)) by rw [← hW2']; exact blk_put (blk_put hb0 0 _ rfl) 1 _ rfl)
  have HB1 := Lib.hid (show W2.heap[w.heap.size]? = some (.cells #[.int .i64 0, .int .i64 0] 66 (0, 0)) by rw [← hW2']; exact (Below.heap_setCell _ _ _ _ (by simp)).trans ((Below.heap_setCell _ _ _ _ (by simp)).trans hb1))
  have HB := Lib.hid (show Below w.heap.size w W2 by rw [← hW2']; exact (hB1.setCell (p := ⟨w.heap.size + 1, 0, none⟩) (by simp) _).setCell (p := ⟨w.heap.size + 1, 1, none⟩) (by simp) _)
  clear hW2 hW2' hb0 hb1 hB1
  go_wp2_with fail
  clear hcl hW1
  go_loopw [11] (fun i wr => ∃ k : Nat, k ≤ 2 ∧ i = .int .i64 k ∧
      Hid (wr.heap[w.heap.size + 1]? = some (.cells (momCells l o d k) 66 (0, 0))) ∧
      Hid (wr.heap[w.heap.size]? = some (.cells #[.int .i64 0, .int .i64 0] 66 (0, 0))) ∧ Hid (Below w.heap.size w wr)) (fun i _ => 2 - (intOf i).toNat)
  case atStart => exact ⟨0, Nat.zero_le _, rfl, HB0, HB1, HB⟩
  case round =>
    obtain ⟨k, hk, rfl, HK, HZ, HW⟩ := hrel
    clear HB HB0 HB1
    have hos := blk_lt HK.out
    by_cases hlt : k < 2
    · have HPw := Lib.hid (HP.out.below HW.out)
      have HR1w := Lib.hid (Kd.C_below HR1.out HW.out)
      have e0 : ((k + 1 : Nat) : Int) = (k : Int) + 1 := by omega
      have HE0 := Lib.hid e0
      clear e0
      go_wp2_with fail
      refine (sums_calls A c l lo hi pb A1 c1 o (k : Int) none none 0 wr HPw.out HR1w.out (Kd.C_nil _ _) (Nat.zero_le _) HG.out HO.out).mono ?_
      rintro e w2 ⟨rfl, hb2⟩
      have hs0 := Plain.psum_f0 HG.out HO.out (k : Int) none o.length (Nat.le_refl _)
      have hs1 := Plain.psum_f1 HG.out HO.out (k : Int) none o.length (Nat.le_refl _)
      change -2100 ≤ sumP l o k none ∧ sumP l o k none ≤ 2100 at hs0
      change -2100 ≤ sumM l o k none ∧ sumM l o k none ≤ 2100 at hs1
      have HMM := Lib.hid (show moment l o k d = sumP l o k none + sumM l o k none * d from rfl)
      obtain ⟨p0, hp0⟩ : ∃ p0, sumP l o k none = p0 := ⟨_, rfl⟩
      obtain ⟨p1, hp1⟩ : ∃ p1, sumM l o k none = p1 := ⟨_, rfl⟩
      rw [hp0] at hs0 HMM
      rw [hp1] at hs1 HMM
      rw [hp0, hp1]
      clear hp0 hp1
      have hm : -105000 ≤ p1 * d ∧ p1 * d ≤ 105000 := Plain.mul_bd2 hs1.1 hs1.2 hd0 hd1
      have HW2 := Lib.hid (bt HW.out hb2)
      have HK2 := Lib.hid (blk_below HK.out hb2)
      have HZ2 := Lib.hid (blk_below HZ.out hb2)
      have hos2 : w.heap.size + 1 < w2.heap.size := blk_lt HK2.out
      clear hb2
      obtain ⟨w3, hw3⟩ : ∃ w3, w2.alloc (.cells #[.int .i64 p0, .int .i64 p1] 102) = w3 := ⟨_, rfl⟩
      have hB23 : Below w2.heap.size w2 w3 := by rw [← hw3]; exact ba (b0 w2) _
      have HS3 := Lib.hid (show w3.heap[w2.heap.size]? = some (.cells #[.int .i64 p0, .int .i64 p1] 102 (0, 0)) by rw [← hw3]; exact World.alloc_heap_new w2 _)
      have HW3 := Lib.hid (bt HW2.out hB23)
      have HK3 := Lib.hid (blk_below HK2.out hB23)
      have HZ3 := Lib.hid (blk_below HZ2.out hB23)
      have hs30 : w3.cell? ⟨w2.heap.size, 0, none⟩ = some (.int .i64 p0) := blk_cell HS3.out 0
      have hs31 : w3.cell? ⟨w2.heap.size, 1, none⟩ = some (.int .i64 p1) := blk_cell HS3.out 1
      obtain ⟨x, hx⟩ : ∃ x, w3.cell? ⟨w.heap.size + 1, k, none⟩ = some (.int .i64 x) := by
        rw [blk_cell HK3.out k]
        match k, hlt with
        | 0, _ => exact ⟨_, rfl⟩
        | 1, _ => exact ⟨_, rfl⟩
      have hxf := blk_frozen HK3.out k
      have HN := Lib.hid (show (momCells l o d k).setIfInBounds k (.int .i64 (p0 + p1 * d)) = momCells l o d (k + 1) by
        rw [← HMM.out]
        match k, hlt with
        | 0, _ => simp [momCells]
        | 1, _ => simp [momCells])
      clear hB23
      go_wp2_with fail
      go_roundw
      case rel => exact ⟨k + 1, by omega, HE0.out ▸ rfl, Lib.hid (blk_put HK3.out k _ HN.out), Lib.hid (blk_far HZ3.out (by simp) _), Lib.hid (HW3.out.setCell (p := ⟨w.heap.size + 1, k, none⟩) (by simp) _)⟩
      case measure => simp [intOf]; omega
    · obtain rfl : k = 2 := by omega
      obtain ⟨m0, hm0⟩ : ∃ m, moment l o 0 d = m := ⟨_, rfl⟩
      obtain ⟨m1, hm1⟩ : ∃ m, moment l o 1 d = m := ⟨_, rfl⟩
      have hmc : momCells l o d 2 = #[.int .i64 m0, .int .i64 m1] := by rw [← hm0, ← hm1]; rfl
      rw [hmc] at HK
      have hk0 : wr.cell? ⟨w.heap.size + 1, 0, none⟩ = some (.int .i64 m0) := blk_cell HK.out 0
      have hk1 : wr.cell? ⟨w.heap.size + 1, 1, none⟩ = some (.int .i64 m1) := blk_cell HK.out 1
      have hz0 : wr.cell? ⟨w.heap.size, 0, none⟩ = some (.int .i64 0) := blk_cell HZ.out 0
      have hz1 : wr.cell? ⟨w.heap.size, 1, none⟩ = some (.int .i64 0) := blk_cell HZ.out 1
      have hzf0 := blk_frozen HZ.out 0
      have hzf1 := blk_frozen HZ.out 1
      have H0 := Lib.hid hm0
      have H1 := Lib.hid hm1
      clear hm0 hm1 hmc
      go_wp2
      obtain ⟨w9, hw9⟩ : ∃ w9, (wr.setCell ⟨w.heap.size, 0, none⟩ (.int .i64 m0)).setCell ⟨w.heap.size, 1, none⟩ (.int .i64 m1) = w9 := ⟨_, rfl⟩
      have hZ9 : w9.heap[w.heap.size]? = some (.cells #[.int .i64 m0, .int .i64 m1] 66 (0, 0)) := by rw [← hw9]; exact blk_put (blk_put HZ.out 0 _ rfl) 1 _ rfl
      have hW9 : Below w.heap.size w w9 := by rw [← hw9]; exact (HW.out.setCell (p := ⟨w.heap.size, 0, none⟩) (by simp) _).setCell (p := ⟨w.heap.size, 1, none⟩) (by simp) _
      rw [hw9]
      have hz90 : w9.cell? ⟨w.heap.size, 0, none⟩ = some (.int .i64 m0) := blk_cell hZ9 0
      have hz91 : w9.cell? ⟨w.heap.size, 1, none⟩ = some (.int .i64 m1) := blk_cell hZ9 1
      exact bodyPost_ret (v := .agg #[.int .i64 m0, .int .i64 m1]) (by simp [results, Try.results38, go_sem, hz90, hz91]) rfl ⟨by rw [H0.out, H1.out], hW9⟩
theorem max_run (ats : Array TypeId) (ty : TypeId) (a b c : Int) (W : World) : (Builtin.max_ ats ty #[.int .i64 a, .int .i64 b, .int .i64 c]).run Try.prog W = .ok (.int .i64 (mmax (mmax a b) c)) W := by
  have h2 : ∀ (x y : Int) (W : World), (Builtin.max2 (.int .i64 x) (.int .i64 y)).run Try.prog W = .ok (.int .i64 (mmax x y)) W := by
    intro x y W
    unfold mmax
    by_cases h : x < y <;> simp [Builtin.max2, h, go_sem]
  simp only [Builtin.max_, List.foldlM_cons, List.foldlM_nil]
  simp [h2, go_sem]
theorem mmax_mabs (u m : Int) : mmax (mmax u m) (-m) = mmax u (mabs m) := by
  unfold mmax mabs
  repeat' split
  all_goals first | rfl | omega
def curlUpto (l : List Sh) (o : List Int) (lo hi : Int) (k : Nat) : Int := if k = 0 then 0 else if k = 1 then curlAt l o lo else mmax (curlAt l o lo) (curlAt l o hi)
set_option maxRecDepth 100000 in
set_option maxHeartbeats 1600000 in
theorem curl_calls (A : Option Addr) (c : Nat) (l : List Sh) (lo hi : Int) (pb : Nat) (A1 : Option Addr) (c1 : Nat) (o : List Int) (w : World)
    (hp : PressIn w pb A c l lo hi) (hr1 : Kd.C (Kd.int .i64) w A1 o.length o) (hg : Plain.Good l) (hord : isOrd l.length o = true) (hlo : 0 ≤ lo ∧ lo ≤ 50) (hhi : 0 ≤ hi ∧ hi ≤ 50) :
    Calls Try.prog 41 #[.pointer (some ⟨pb, 0, none⟩), .slice A1 o.length c1] w
      fun e w' => e = .returned (.int .i64 (curlV l lo hi o)) ∧ Below w.heap.size w w' := by
  have HP := Lib.hid hp
  have HR1 := Lib.hid hr1
  have HG := Lib.hid hg
  have HO := Lib.hid hord
  have hpl := World.block_lt_of_cell? w _ hp.1
  have hc1 := hp.2.1
  have hc2 := hp.2.2.1
  clear hp hr1 hg hord
  go_enter Try.func41, Try.ntmps41
  go_wp2_with fail
  go_region
  obtain ⟨w1, hw1⟩ : ∃ w1, (w.alloc (.cells #[.int .i64 lo, .int .i64 hi] 2)).drew = w1 := ⟨_, rfl⟩
  have HB1 := Lib.hid (show Below w.heap.size w w1 by rw [← hw1]; exact (ba (b0 w) _).drew)
  have HD1 := Lib.hid (show w1.heap[w.heap.size]? = some (.cells #[.int .i64 lo, .int .i64 hi] 2 (0, 0)) by rw [← hw1]; exact World.alloc_heap_new w _)
  rw [hw1]
  clear hw1 hc1 hc2
  go_wp2_with fail
  go_loopw [5, 24] (fun v i wr => ∃ k : Nat, k ≤ 2 ∧ i = .int .i64 k ∧ v = .int .i64 (curlUpto l o lo hi k) ∧
      Hid (wr.heap[w.heap.size]? = some (.cells #[.int .i64 lo, .int .i64 hi] 2 (0, 0))) ∧ Hid (Below w.heap.size w wr)) (fun _ i _ => 2 - (intOf i).toNat)
  case atStart => exact ⟨0, Nat.zero_le _, rfl, rfl, HD1, HB1⟩
  case round =>
    obtain ⟨k, hk, rfl, rfl, HD, HB⟩ := hrel
    clear HD1 HB1
    have hos := blk_lt HD.out
    by_cases hlt : k < 2
    · have HPw := Lib.hid (HP.out.below HB.out)
      have HR1w := Lib.hid (Kd.C_below HR1.out HB.out)
      have e0 : ((k + 1 : Nat) : Int) = (k : Int) + 1 := by omega
      have HE0 := Lib.hid e0
      obtain ⟨d, hd, hd0, hd1, HDK⟩ : ∃ d, wr.cell? ⟨w.heap.size, k, none⟩ = some (.int .i64 d) ∧ 0 ≤ d ∧ d ≤ 50 ∧ Hid (curlUpto l o lo hi (k + 1) = mmax (curlUpto l o lo hi k) (curlAt l o d)) := by
        rw [blk_cell HD.out k]
        match k, hlt with
        | 0, _ => exact ⟨lo, rfl, hlo.1, hlo.2, Lib.hid (Plain.mmax_zero _ _).symm⟩
        | 1, _ => exact ⟨hi, rfl, hhi.1, hhi.2, Lib.hid rfl⟩
      obtain ⟨u, hu⟩ : ∃ u, curlUpto l o lo hi k = u := ⟨_, rfl⟩
      rw [hu] at HDK
      rw [hu]
      clear e0 hu
      go_wp2_with fail
      refine (moments_calls A c l lo hi pb A1 c1 o d wr HPw.out HR1w.out HG.out HO.out hd0 hd1).mono ?_
      rintro e w2 ⟨rfl, hb2⟩
      obtain ⟨m0, hm0⟩ : ∃ m0, moment l o 0 d = m0 := ⟨_, rfl⟩
      obtain ⟨m1, hm1⟩ : ∃ m1, moment l o 1 d = m1 := ⟨_, rfl⟩
      have HM := Lib.hid (show curlAt l o d = mmax (mabs m0) (mabs m1) by rw [← hm0, ← hm1]; rfl)
      have hmb0 : -107100 ≤ m0 ∧ m0 ≤ 107100 := by rw [← hm0]; exact Plain.moment_bd HG.out HO.out 0 d hd0 hd1
      have hmb1 : -107100 ≤ m1 ∧ m1 ≤ 107100 := by rw [← hm1]; exact Plain.moment_bd HG.out HO.out 1 d hd0 hd1
      rw [hm0, hm1]
      clear hm0 hm1
      have HB2 := Lib.hid (bt HB.out hb2)
      have HD2 := Lib.hid (blk_below HD.out hb2)
      clear hb2 hd
      go_wp2_with fail
      have x0 : ∀ w : World, (Instr.index 66 (.agg #[.int .i64 m0, .int .i64 m1]) (.int .i64 0)).run Try.prog w = .ok (.int .i64 m0) w := fun _ => by kernel_rfl
      have x1 : ∀ w : World, (Instr.index 66 (.agg #[.int .i64 m0, .int .i64 m1]) (.int .i64 1)).run Try.prog w = .ok (.int .i64 m1) w := fun _ => by kernel_rfl
      go_loop [5, 32] (fun v i => (v = .int .i64 u ∧ i = .int .i64 0) ∨ (v = .int .i64 (mmax u (mabs m0)) ∧ i = .int .i64 1) ∨ (v = .int .i64 (mmax (mmax u (mabs m0)) (mabs m1)) ∧ i = .int .i64 2)) (fun _ i => 2 - (intOf i).toNat)
      case atStart => exact .inl ⟨rfl, rfl⟩
      case round =>
        rcases hrel with ⟨rfl, rfl⟩ | ⟨rfl, rfl⟩ | ⟨rfl, rfl⟩
        · have hx := fun ats ty W => max_run ats ty u m0 (-m0) W
          rw [mmax_mabs] at hx
          go_wp2
          go_round
          case rel => exact .inr (.inl ⟨rfl, rfl⟩)
          case measure => simp [intOf]
        · have hx := fun ats ty W => max_run ats ty (mmax u (mabs m0)) m1 (-m1) W
          rw [mmax_mabs] at hx
          go_wp2
          go_round
          case rel => exact .inr (.inr ⟨rfl, rfl⟩)
          case measure => simp [intOf]
        · go_wp2
          go_roundw
          case rel => exact ⟨k + 1, by omega, HE0.out ▸ rfl, by rw [HDK.out, HM.out, Plain.mmax_assoc], HD2, HB2⟩
          case measure => simp [intOf]; omega
    · obtain rfl : k = 2 := by omega
      have HC := Lib.hid (show curlV l lo hi o = curlUpto l o lo hi 2 from rfl)
      obtain ⟨u, hu⟩ : ∃ u, curlUpto l o lo hi 2 = u := ⟨_, rfl⟩
      rw [hu] at HC
      rw [hu]
      clear hu
      go_wp2
      go_ret
      exact ⟨by rw [HC.out]; rfl, HB.out⟩
end Go.Proofs.Ytehfhbdhdbpfpaa.Own
