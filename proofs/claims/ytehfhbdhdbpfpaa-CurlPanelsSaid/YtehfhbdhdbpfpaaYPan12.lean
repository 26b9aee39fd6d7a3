/- Parts of a proof: C6. No condition. -/
import Derived.Test.YtehfhbdhdbpfpaaYPan11
import Derived.Deep.QuietTactic
import Derived.BigQuiet
import Derived.StillTailTactics
namespace Go.Proofs.Ytehfhbdhdbpfpaa.Print
end Go.Proofs.Ytehfhbdhdbpfpaa.Print
namespace Go.Proofs.Ytehfhbdhdbpfpaa.Spec
end Go.Proofs.Ytehfhbdhdbpfpaa.Spec
namespace Go.Proofs.YtehfhbdhdbpfpaaW.PrintLast
end Go.Proofs.YtehfhbdhdbpfpaaW.PrintLast
namespace Go.Proofs.YtehfhbdhdbpfpaaW.PrintMore
end Go.Proofs.YtehfhbdhdbpfpaaW.PrintMore
namespace Go.Proofs.YtehfhbdhdbpfpaaW.PrintWords
end Go.Proofs.YtehfhbdhdbpfpaaW.PrintWords
set_option linter.unusedVariables false
set_option linter.unusedSimpArgs false
namespace Go.Proofs.Ytehfhbdhdbpfpaa.Own
open Go.RowKit Go.Shelf Go.Proofs.YtehfhbdhdbpfpaaW.PrintWords Go.Proofs.YtehfhbdhdbpfpaaW.PrintLast Go.Proofs.YtehfhbdhdbpfpaaW.PrintMore Go.Proofs.Ytehfhbdhdbpfpaa.Print Go.Proofs.Ytehfhbdhdbpfpaa.Spec
set_option linter.unusedVariables false
set_option linter.unusedSimpArgs false
theorem place_calls (A : Option Addr) (n c : Nat) (pb : Nat) (i : Int) (w : World) (hn : n ≤ 7) (h0 : 0 ≤ i) (h1 : i ≤ 7) (hc : w.cell? ⟨pb, 0, none⟩ = some (.slice A n c)) :
    Calls Try.prog 68 #[.pointer (some ⟨pb, 0, none⟩), .int .i64 i] w fun e w' => e = .returned (.int .i64 (place n i)) ∧ w = w' := by
  have H := Lib.hid (show place n i = i - (n : Int) / 2 from rfl)
  go_enter Try.func68, Try.ntmps68
  go_wp2
  go_ret
  exact ⟨by rw [H.out]; rfl, rfl⟩
def PressIn (w : World) (pb : Nat) (A : Option Addr) (c : Nat) (l : List Sh) (lo hi : Int) : Prop :=
  w.cell? ⟨pb, 0, none⟩ = some (.slice A l.length c) ∧ w.cell? ⟨pb, 1, none⟩ = some (.int .i64 lo) ∧ w.cell? ⟨pb, 2, none⟩ = some (.int .i64 hi) ∧ Kd.C k52 w A l.length l
theorem PressIn.below {w w' : World} {pb : Nat} {A : Option Addr} {c : Nat} {l : List Sh} {lo hi : Int} (h : PressIn w pb A c l lo hi) (hb : Below w.heap.size w w') : PressIn w' pb A c l lo hi :=
  ⟨(hb.cell (World.block_lt_of_cell? w _ h.1)).trans h.1, (hb.cell (World.block_lt_of_cell? w _ h.2.1)).trans h.2.1, (hb.cell (World.block_lt_of_cell? w _ h.2.2.1)).trans h.2.2.1, Kd.C_below h.2.2.2 hb⟩
def skipL (sk : Option Int) : List Int := match sk with | none => [] | some i => [i]
theorem mem_skipL (sk : Option Int) (x : Int) : x ∈ skipL sk ↔ sk = some x := by
  cases sk with
  | none => simp [skipL]
  | some i => simp [skipL]; exact eq_comm
theorem skipL_len (sk : Option Int) : (skipL sk).length ≤ 1 := by cases sk <;> simp [skipL]
set_option maxRecDepth 100000 in
set_option maxHeartbeats 1600000 in
theorem sums_calls (A : Option Addr) (c : Nat) (l : List Sh) (lo hi : Int) (pb : Nat) (A1 : Option Addr) (c1 : Nat) (o : List Int) (ac : Int) (sk : Option Int) (A2 : Option Addr) (c2 : Nat) (w : World)
    (hp : PressIn w pb A c l lo hi) (hr1 : Kd.C (Kd.int .i64) w A1 o.length o) (hr2 : Kd.C (Kd.int .i64) w A2 (skipL sk).length (skipL sk)) (hc2 : (skipL sk).length ≤ c2)
    (hg : Plain.Good l) (hord : isOrd l.length o = true) :
    Calls Try.prog 62 #[.pointer (some ⟨pb, 0, none⟩), .slice A1 o.length c1, .int .i64 ac, .slice A2 (skipL sk).length c2] w
      fun e w' => e = .returned (.agg #[.int .i64 (sumP l o ac sk), .int .i64 (sumM l o ac sk)]) ∧ Below w.heap.size w w' := by
  have hlen : o.length ≤ 7 := by have := Plain.ord_length hord; have := hg.1; omega
  have HLL := Lib.hid (Plain.ord_length hord)
  have HP := Lib.hid hp
  have HR1 := Lib.hid hr1
  have HR2 := Lib.hid hr2
  have HG := Lib.hid hg
  have HO := Lib.hid hord
  have hpl := World.block_lt_of_cell? w _ hp.1
  have hsl := skipL_len sk
  clear hp hr1 hr2 hg hord
  go_enter Try.func62, Try.ntmps62
  go_wp2
  go_loopw [15] (fun i wr => ∃ k : Nat, k ≤ o.length ∧ i = .int .i64 k ∧
      Hid (wr.heap[w.heap.size + 1]? = some (.cells #[.int .i64 (psum (fun s => s.f0) l o ac sk k), .int .i64 (psum (fun s => s.f1) l o ac sk k)] 102 (0, 0))) ∧
      Hid (wr.heap[w.heap.size]? = some (.cells #[.int .i64 0, .int .i64 0] 102 (0, 0))) ∧ Hid (Below w.heap.size w wr)) (fun i _ => o.length - (intOf i).toNat)
  case atStart => exact ⟨0, Nat.zero_le _, rfl, Lib.hid (by simpa [psum] using World.alloc_heap_new (w.alloc (.cells #[.int .i64 0, .int .i64 0] 102)) _), Lib.hid ((Below.heap_alloc _ _ _ (by simp)).trans (World.alloc_heap_new w _)), Lib.hid (ba (ba (b0 w) _) _)⟩
  case round =>
    obtain ⟨k, hk, rfl, HK, HZ, HW⟩ := hrel
    have hos := blk_lt HK.out
    by_cases hlt : k < o.length
    · have HPw := Lib.hid (HP.out.below HW.out)
      obtain ⟨ad1, rfl, hcx⟩ := C_cell (Kd.C_below HR1.out HW.out) k hlt
      have hxb := Plain.ord_get HO.out k hlt
      obtain ⟨x, hx⟩ : ∃ x : Nat, o[k] = (x : Int) := ⟨o[k].toNat, by omega⟩
      rw [hx] at hcx
      have hxl : x < l.length := by omega
      have HX := Lib.hid hx
      clear hx hxb
      have e0 : ((k + 1 : Nat) : Int) = (k : Int) + 1 := by omega
      have HE0 := Lib.hid e0
      clear e0
      cases hac : ((k : Int) % 2 != ac)
      · have HAC := Lib.hid (bne_eq_false_iff_eq.1 hac)
        obtain ⟨kk, hkk⟩ := Plain.contains_f (skipL sk) (k : Int) (by omega)
        cases hsk : decide ((k : Int) ∈ skipL sk)
        · rw [hsk] at hkk
          have HKK := Lib.hid hkk
          have HSK := Lib.hid (of_decide_eq_false hsk)
          clear hkk hsk
          go_wp2_with fail
          refine (Lib.slices_Contains_int_int.calls kk A2 c2 (skipL sk) (k : Int) false _ (Kd.C_below HR2.out HW.out) hc2 HKK.out).mono ?_
          rintro e w2 ⟨rfl, hd⟩
          have hcond : (k : Int) % 2 = ac ∧ sk ≠ some (k : Int) := ⟨HAC.out, fun h => HSK.out ((mem_skipL _ _).2 h)⟩
          have hrdo : rd o (k : Int) = (x : Int) := by rw [Plain.rd_get hlt, HX.out]
          have hrdx : rdSh l (x : Int) = l[x] := by rw [Plain.rdSh_get (by omega) (by omega)]; simp
          have HF0 := Lib.hid (show psum (fun s => s.f0) l o ac sk (k + 1) = psum (fun s => s.f0) l o ac sk k + place l.length k * l[x].f0 by rw [Plain.psum_take _ _ _ _ _ _ hcond, hrdo, hrdx])
          have HF1 := Lib.hid (show psum (fun s => s.f1) l o ac sk (k + 1) = psum (fun s => s.f1) l o ac sk k + place l.length k * l[x].f1 by rw [Plain.psum_take _ _ _ _ _ _ hcond, hrdo, hrdx])
          clear hcond hrdo hrdx
          have hb2 := Lib.hid hd.below
          have HW2 := Lib.hid (bt HW.out hb2.out)
          have HP2 := Lib.hid (HPw.out.below hb2.out)
          have HK2 := Lib.hid (blk_below HK.out hb2.out)
          have HZ2 := Lib.hid (blk_below HZ.out hb2.out)
          have hos2 : w.heap.size + 1 < w2.heap.size := blk_lt HK2.out
          obtain ⟨p0, hp0⟩ : ∃ p0, psum (fun s => s.f0) l o ac sk k = p0 := ⟨_, rfl⟩
          obtain ⟨p1, hp1⟩ : ∃ p1, psum (fun s => s.f1) l o ac sk k = p1 := ⟨_, rfl⟩
          have hb0 : -2100 ≤ p0 ∧ p0 ≤ 2100 := by rw [← hp0]; exact Plain.psum_f0 HG.out HO.out ac sk k (by omega)
          have hb1 : -2100 ≤ p1 ∧ p1 ≤ 2100 := by rw [← hp1]; exact Plain.psum_f1 HG.out HO.out ac sk k (by omega)
          have hs0 := (HG.out.2.2 x hxl)
          have hpl3 := Plain.place_bd HG.out.1 (k := k) (by have := HLL.out; omega)
          have hm0 := Plain.mul_bd hpl3.1 hpl3.2 (show -100 ≤ l[x].f0 by omega) (by omega)
          have hm1 := Plain.mul_bd hpl3.1 hpl3.2 (show -100 ≤ l[x].f1 by omega) (by omega)
          obtain ⟨A0, c0⟩ : True ∧ True := ⟨trivial, trivial⟩
          obtain ⟨ad, hA, hsh0, hsh1⟩ := C_cellSh HP2.out.2.2.2 x hxl
          have hpc := HP2.out.1
          rw [hA] at hpc
          obtain ⟨f0, hf0⟩ : ∃ f0, l[x].f0 = f0 := ⟨_, rfl⟩
          obtain ⟨f1, hf1⟩ : ∃ f1, l[x].f1 = f1 := ⟨_, rfl⟩
          rw [hf0] at hsh0 hm0 HF0
          rw [hf1] at hsh1 hm1 HF1
          rw [hp0] at HF0 HK2
          rw [hp1] at HF1 HK2
          have hk0 : w2.cell? ⟨w.heap.size + 1, 0, none⟩ = some (.int .i64 p0) := blk_cell HK2.out 0
          have hk1 : w2.cell? ⟨w.heap.size + 1, 1, none⟩ = some (.int .i64 p1) := blk_cell HK2.out 1
          have hkf0 := blk_frozen HK2.out 0
          have hkf1 := blk_frozen HK2.out 1
          clear hp0 hp1 hf0 hf1 hs0 hd hA
          go_wp2_with fail
          obtain ⟨w3, hw3⟩ : ∃ w3, w2.alloc (.cells #[.int .i64 f0, .int .i64 f1] 52) = w3 := ⟨_, rfl⟩
          have hB23 : Below w2.heap.size w2 w3 := by rw [← hw3]; exact ba (b0 w2) _
          have HS3 := Lib.hid (show w3.heap[w2.heap.size]? = some (.cells #[.int .i64 f0, .int .i64 f1] 52 (0, 0)) by rw [← hw3]; exact World.alloc_heap_new w2 _)
          rw [hw3]
          clear hw3
          have HW3 := Lib.hid (bt HW2.out hB23)
          have HK3 := Lib.hid (blk_below HK2.out hB23)
          have HZ3 := Lib.hid (blk_below HZ2.out hB23)
          have HP3 := Lib.hid (HP2.out.below hB23)
          have hs30 : w3.cell? ⟨w2.heap.size, 0, none⟩ = some (.int .i64 f0) := blk_cell HS3.out 0
          have hs31 : w3.cell? ⟨w2.heap.size, 1, none⟩ = some (.int .i64 f1) := blk_cell HS3.out 1
          clear hk0 hk1 hkf0 hkf1 hsh0 hsh1 hpc hB23
          have hk0 : w3.cell? ⟨w.heap.size + 1, 0, none⟩ = some (.int .i64 p0) := blk_cell HK3.out 0
          have hk1 : w3.cell? ⟨w.heap.size + 1, 1, none⟩ = some (.int .i64 p1) := blk_cell HK3.out 1
          have hkf0 := blk_frozen HK3.out 0
          have hkf1 := blk_frozen HK3.out 1
          go_still_tail 10, (by kernel_rfl)
          still_call ((place_calls A l.length c pb (k : Int) w3.drew HG.out.1 (by omega) (by omega) HP3.out.1).mono (fun e w' h => ⟨h.1, h.2.symm⟩))
          repeat still_step
          try refine wpStill_nil ?_
          rw [IntWalk.i64_in (place l.length k * f0) (by omega), IntWalk.i64_in (p0 + place l.length k * f0) (by omega)]
          change wpList _ _ _ _ _ w3.drew
          obtain ⟨w4, hw4⟩ : ∃ w4, w3.drew = w4 := ⟨_, rfl⟩
          have hB34 : Below w3.heap.size w3 w4 := by rw [← hw4]; exact (b0 w3).drew
          rw [hw4]
          clear hw4 hk0 hk1 hkf0 hkf1 hs30 hs31
          have HW4 := Lib.hid (bt HW3.out hB34)
          have HK4 := Lib.hid (blk_below HK3.out hB34)
          have HZ4 := Lib.hid (blk_below HZ3.out hB34)
          have HP4 := Lib.hid (HP3.out.below hB34)
          have HS4 := Lib.hid (blk_below HS3.out hB34)
          clear hB34
          have hk0 : w4.cell? ⟨w.heap.size + 1, 0, none⟩ = some (.int .i64 p0) := blk_cell HK4.out 0
          have hkf0 := blk_frozen HK4.out 0
          go_wp2_with fail
          obtain ⟨w5, hw5⟩ : ∃ w5, w4.setCell ⟨w.heap.size + 1, 0, none⟩ (.int .i64 (p0 + place l.length k * f0)) = w5 := ⟨_, rfl⟩
          have hK45 : KS (fun i => i = w.heap.size + 1) w4 w5 := by rw [← hw5]; exact KS.setCell (S := fun i => i = w.heap.size + 1) (KS.refl _ w4) (p := ⟨w.heap.size + 1, 0, none⟩) (fun _ => rfl) _
          have HK5 := Lib.hid (show w5.heap[w.heap.size + 1]? = some (.cells #[.int .i64 (p0 + place l.length k * f0), .int .i64 p1] 102 (0, 0)) by rw [← hw5]; exact blk_put HK4.out 0 _ rfl)
          rw [hw5]
          clear hw5 hk0 hkf0
          have HW5 := Lib.hid (HW4.out.trans (hK45.below (B := w.heap.size) HW4.out.size (fun i hi => by omega)))
          have HZ5 := Lib.hid (hK45.blk HZ4.out (by omega))
          have HS5 := Lib.hid (hK45.blk HS4.out (by omega))
          have HP5 := Lib.hid (HP.out.below HW5.out)
          clear hK45
          have hs51 : w5.cell? ⟨w2.heap.size, 1, none⟩ = some (.int .i64 f1) := blk_cell HS5.out 1
          have hk1 : w5.cell? ⟨w.heap.size + 1, 1, none⟩ = some (.int .i64 p1) := blk_cell HK5.out 1
          have hkf1 := blk_frozen HK5.out 1
          go_still_tail 10, (by kernel_rfl)
          still_call ((place_calls A l.length c pb (k : Int) w5.drew HG.out.1 (by omega) (by omega) HP5.out.1).mono (fun e w' h => ⟨h.1, h.2.symm⟩))
          repeat still_step
          try refine wpStill_nil ?_
          rw [IntWalk.i64_in (place l.length k * f1) (by omega), IntWalk.i64_in (p1 + place l.length k * f1) (by omega)]
          change wpList _ _ _ _ _ w5.drew
          obtain ⟨w6, hw6⟩ : ∃ w6, w5.drew = w6 := ⟨_, rfl⟩
          have hB56 : Below w5.heap.size w5 w6 := by rw [← hw6]; exact (b0 w5).drew
          rw [hw6]
          clear hw6 hk1 hkf1 hs51
          have HW6 := Lib.hid (bt HW5.out hB56)
          have HK6 := Lib.hid (blk_below HK5.out hB56)
          have HZ6 := Lib.hid (blk_below HZ5.out hB56)
          clear hB56
          have hk1 : w6.cell? ⟨w.heap.size + 1, 1, none⟩ = some (.int .i64 p1) := blk_cell HK6.out 1
          have hkf1 := blk_frozen HK6.out 1
          go_wp2
          go_roundw
          case rel => exact ⟨k + 1, by omega, HE0.out ▸ rfl, Lib.hid (by rw [HF0.out, HF1.out]; exact blk_put HK6.out 1 _ rfl), Lib.hid ((KS.setCell (S := fun i => i = w.heap.size + 1) (KS.refl _ w6) (p := ⟨w.heap.size + 1, 1, none⟩) (fun _ => rfl) _).blk HZ6.out (by omega)),
            Lib.hid (HW6.out.setCell (p := ⟨w.heap.size + 1, 1, none⟩) (by simp) _)⟩
          case measure => simp [intOf]; omega
        · rw [hsk] at hkk
          have HKK := Lib.hid hkk
          have HSK := Lib.hid (of_decide_eq_true hsk)
          clear hkk hsk
          have hcond : ¬ ((k : Int) % 2 = ac ∧ sk ≠ some (k : Int)) := fun h => h.2 ((mem_skipL _ _).1 HSK.out)
          have HF0 := Lib.hid (Plain.psum_skip (fun s => s.f0) l o ac sk k hcond)
          have HF1 := Lib.hid (Plain.psum_skip (fun s => s.f1) l o ac sk k hcond)
          clear hcond
          go_wp2_with fail
          refine (Lib.slices_Contains_int_int.calls kk A2 c2 (skipL sk) (k : Int) true _ (Kd.C_below HR2.out HW.out) hc2 HKK.out).mono ?_
          rintro e w2 ⟨rfl, hd⟩
          have hb2 := Lib.hid hd.below
          have HW2 := Lib.hid (bt HW.out hb2.out)
          have HK2 := Lib.hid (blk_below HK.out hb2.out)
          have HZ2 := Lib.hid (blk_below HZ.out hb2.out)
          clear hd
          go_wp2
          go_roundw
          case rel => exact ⟨k + 1, by omega, HE0.out ▸ rfl, Lib.hid (by rw [HF0.out, HF1.out]; exact HK2.out), HZ2, HW2⟩
          case measure => simp [intOf]; omega
      · have HAC := Lib.hid (bne_iff_ne.1 hac)
        have hcond : ¬ ((k : Int) % 2 = ac ∧ sk ≠ some (k : Int)) := fun h => HAC.out h.1
        have HF0 := Lib.hid (Plain.psum_skip (fun s => s.f0) l o ac sk k hcond)
        have HF1 := Lib.hid (Plain.psum_skip (fun s => s.f1) l o ac sk k hcond)
        clear hcond
        go_wp2
        go_roundw
        case rel => exact ⟨k + 1, by omega, HE0.out ▸ rfl, Lib.hid (by rw [HF0.out, HF1.out]; exact HK.out), HZ, HW⟩
        case measure => simp [intOf]; omega
    · obtain rfl : k = o.length := by omega
      obtain ⟨p0, hp0⟩ : ∃ p0, psum (fun s => s.f0) l o ac sk o.length = p0 := ⟨_, rfl⟩
      obtain ⟨p1, hp1⟩ : ∃ p1, psum (fun s => s.f1) l o ac sk o.length = p1 := ⟨_, rfl⟩
      rw [hp0, hp1] at HK
      have H0 := Lib.hid (show sumP l o ac sk = p0 from hp0)
      have H1 := Lib.hid (show sumM l o ac sk = p1 from hp1)
      clear hp0 hp1
      have hk0 : wr.cell? ⟨w.heap.size + 1, 0, none⟩ = some (.int .i64 p0) := blk_cell HK.out 0
      have hk1 : wr.cell? ⟨w.heap.size + 1, 1, none⟩ = some (.int .i64 p1) := blk_cell HK.out 1
      have hz0 : wr.cell? ⟨w.heap.size, 0, none⟩ = some (.int .i64 0) := blk_cell HZ.out 0
      have hz1 : wr.cell? ⟨w.heap.size, 1, none⟩ = some (.int .i64 0) := blk_cell HZ.out 1
      have hzf0 := blk_frozen HZ.out 0
      have hzf1 := blk_frozen HZ.out 1
      go_wp2
      obtain ⟨w9, hw9⟩ : ∃ w9, (wr.setCell ⟨w.heap.size, 0, none⟩ (.int .i64 p0)).setCell ⟨w.heap.size, 1, none⟩ (.int .i64 p1) = w9 := ⟨_, rfl⟩
      have hZ9 : w9.heap[w.heap.size]? = some (.cells #[.int .i64 p0, .int .i64 p1] 102 (0, 0)) := by rw [← hw9]; exact blk_put (blk_put HZ.out 0 _ rfl) 1 _ rfl
      have hW9 : Below w.heap.size w w9 := by rw [← hw9]; exact (HW.out.setCell (p := ⟨w.heap.size, 0, none⟩) (by simp) _).setCell (p := ⟨w.heap.size, 1, none⟩) (by simp) _
      rw [hw9]
      have hz90 : w9.cell? ⟨w.heap.size, 0, none⟩ = some (.int .i64 p0) := blk_cell hZ9 0
      have hz91 : w9.cell? ⟨w.heap.size, 1, none⟩ = some (.int .i64 p1) := blk_cell hZ9 1
      exact bodyPost_ret (v := .agg #[.int .i64 p0, .int .i64 p1]) (by simp [results, Try.results62, go_sem, hz90, hz91]) rfl ⟨by rw [H0.out, H1.out], hW9⟩
end Go.Proofs.Ytehfhbdhdbpfpaa.Own
