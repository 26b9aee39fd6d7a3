/- Parts of a proof: M4. No condition. -/
import Derived.Test.YtehfhbdhdbpfpaaYPan21
namespace Go.Proofs.Ytehfhbdhdbpfpaa.Print
end Go.Proofs.Ytehfhbdhdbpfpaa.Print
namespace Go.Proofs.Ytehfhbdhdbpfpaa.Spec
end Go.Proofs.Ytehfhbdhdbpfpaa.Spec
namespace Go.Proofs.YtehfhbdhdbpfpaaW.PrintLast
end Go.Proofs.YtehfhbdhdbpfpaaW.PrintLast
namespace Go.Proofs.YtehfhbdhdbpfpaaW.PrintMore
end Go.Proofs.YtehfhbdhdbpfpaaW.PrintMore
namespace Go.Proofs.YtehfhbdhdbpfpaaW.PrintWords
end Go.Proofs.YtehfhbdhdbpfpaaW.PrintWords
set_option linter.unusedVariables false
set_option linter.unusedSimpArgs false
namespace Go.Proofs.Ytehfhbdhdbpfpaa.Own
open Go.RowKit Go.Shelf Go.Proofs.YtehfhbdhdbpfpaaW.PrintWords Go.Proofs.YtehfhbdhdbpfpaaW.PrintLast Go.Proofs.YtehfhbdhdbpfpaaW.PrintMore Go.Proofs.Ytehfhbdhdbpfpaa.Print Go.Proofs.Ytehfhbdhdbpfpaa.Spec
set_option linter.unusedVariables false
set_option linter.unusedSimpArgs false
theorem told_zero (lo hi : Int) : told lo hi 0 (cands 0) = fun k => if k = (0, 0) then some ⟨0, -10⟩ else none := by
  funext k
  unfold told cands
  rw [if_pos rfl]
  have hk : Spec.keyOf lo hi 0 ⟨0, -10⟩ = (0, 0) := by unfold Spec.keyOf; split <;> simp
  simp only [List.reverse_singleton, List.find?_cons, List.find?_nil, hk]
  by_cases h : k = (0, 0)
  · subst h; rfl
  · have : (((0, 0) : Int × Int) == k) = false := by simpa using Ne.symm h
    rw [this, if_neg h]
set_option maxRecDepth 100000 in
set_option maxHeartbeats 4000000 in
theorem sheets_zero (A : Option Addr) (c : Nat) (l : List Sh) (lo hi : Int) (pb : Nat) (w : World) (hp : PressIn w pb A c l lo hi) (hg : Plain.Good l) (hlo : 0 ≤ lo ∧ lo ≤ 50) :
    Calls Try.prog 71 #[.pointer (some ⟨pb, 0, none⟩), .int .i64 0] w fun e w' => ∃ r, e = .returned (.map (some r)) ∧ w.heap.size ≤ r ∧ MapIs w' r (sheetAt l lo hi 0) ∧ Below w.heap.size w w' := by
  have HP := Lib.hid hp
  have HG := Lib.hid hg
  have hpl : pb < w.heap.size := World.block_lt_of_cell? w _ hp.1
  have hmm := @run_makeMap Try.prog
  clear hp hg
  have hsz : pb < w.heap.size + 1 := by omega
  obtain ⟨w1, hw1⟩ : ∃ w1, w.alloc (.map #[] 0) = w1 := ⟨_, rfl⟩
  have HS1 := Lib.hid (show w1.heap.size = w.heap.size + 1 by rw [← hw1]; simp)
  have HB1 := Lib.hid (show Below w.heap.size w w1 by rw [← hw1]; exact ba (b0 w) _)
  have HM1 := Lib.hid (show MapIs w1 w.heap.size (fun _ => none) by rw [← hw1]; exact MapIs.empty w)
  go_enter Try.func71, Try.ntmps71
  go_wp2_with fail
  go_step3
  go_wp2_with fail
  go_step3
  go_wp2_with fail
  refine wp_loop_once ?_
  go_wp2_with fail
  refine wp_loop_once ?_
  go_wp2_with fail
  obtain ⟨w3, hw3⟩ : ∃ w3, w1.alloc (.cells #[.int .i64 0, .int .i64 0] 102) = w3 := ⟨_, rfl⟩
  have hb3 : Below w1.heap.size w1 w3 := by rw [← hw3]; exact ba (b0 w1) _
  have HS3 := Lib.hid (show w3.heap[w1.heap.size]? = some (.cells #[.int .i64 0, .int .i64 0] 102 (0, 0)) by rw [← hw3]; exact World.alloc_heap_new w1 _)
  have HB3 := Lib.hid (bt HB1.out hb3)
  have HM3 := Lib.hid (HM1.out.keep (hb3.block _ HM1.out.lt))
  have hc1 := (HP.out.below HB3.out).2.1
  have hc2 := (HP.out.below HB3.out).2.2.1
  clear hb3
  rw [hw3]
  go_quiet (fail)
  obtain ⟨w4, hw4⟩ : ∃ w4, w3.drewN nq = w4 := ⟨_, rfl⟩
  have HB4 := Lib.hid (show Below w.heap.size w w4 by rw [← hw4]; exact below_drewN nq HB3.out)
  have HS4 := Lib.hid (show w4.heap[w1.heap.size]? = some (.cells #[.int .i64 0, .int .i64 0] 102 (0, 0)) by rw [← hw4]; exact HS3.out)
  have HM4 := Lib.hid (show MapIs w4 w.heap.size (fun _ => none) by rw [← hw4]; exact HM3.out)
  have hd1 : w4.cell? ⟨pb, 1, none⟩ = some (.int .i64 lo) := (HP.out.below HB4.out).2.1
  rw [hw4]
  have hks0 : w4.cell? ⟨w1.heap.size, 0, none⟩ = some (.int .i64 0) := blk_cell HS4.out 0
  have hks1 : w4.cell? ⟨w1.heap.size, 1, none⟩ = some (.int .i64 0) := blk_cell HS4.out 1
  have hkf0 := blk_frozen HS4.out 0
  have hkf1 := blk_frozen HS4.out 1
  have hwl4 := blk_lt HS4.out
  clear hw4 hc1 hc2 hw3 hw1
  cases hlh : (lo == hi)
  · obtain ⟨wr, hup, hm5, hk5⟩ := HM4.out.update (0, 0) ⟨0, -10⟩
    simp only [keyV, shV] at hup
    have HMc := Lib.hid (show MapIs wr w.heap.size (told lo hi 0 (cands 0)) by rw [told_zero]; exact hm5)
    have HB := Lib.hid (show Below w.heap.size w wr from HB4.out.trans (hk5.below HB4.out.size (fun i hi => by omega)))
    clear hm5 hk5
    have HPr := Lib.hid (HP.out.below HB.out)
    have hc0 := HPr.out.1
    have hn7 := HG.out.1
    have hn3 := HG.out.2.1
    go_wp2_with fail
    refine (place_calls A l.length c pb ((l.length : Int) - 1) _ hn7 (by omega) (by omega) hc0).mono ?_
    rintro e w2 ⟨rfl, rfl⟩
    obtain ⟨pl, hpl2⟩ : ∃ q, place l.length ((l.length : Int) - 1) = q := ⟨_, rfl⟩
    have HPL := Lib.hid hpl2
    have hplb : -3 ≤ pl ∧ pl ≤ 3 := by rw [← hpl2]; unfold place; omega
    rw [hpl2]
    clear hpl2
    have HBw := Lib.hid HB.out
    go_wp2_with fail
    go_loopw [10, 79] (fun v i W => ∃ k : Nat, k ≤ l.length ∧ i = .int .i64 k ∧ v = .int .i64 (mostUpto l lo k) ∧ Hid (MapIs W w.heap.size (told lo hi 0 (cands 0))) ∧ Hid (Below w.heap.size w W)) (fun _ i _ => l.length - (intOf i).toNat)
    case atStart => exact ⟨0, Nat.zero_le _, rfl, rfl, HMc, HB⟩
    case round =>
      obtain ⟨k, hk, rfl, rfl, HMk, HBk⟩ := hrel
      clear hc0
      by_cases hlk : k < l.length
      · have HPk := Lib.hid (HP.out.below HBk.out)
        obtain ⟨ad, hA, hsh0, hsh1⟩ := C_cellSh HPk.out.2.2.2 k hlk
        have HA := Lib.hid hA
        have HMS := Lib.hid (mostUpto_succ l lo k hlk)
        have HMO := Lib.hid (show mostOf l.length lo l[k] = pl * mmax (mmax l[k].f0 (l[k].f0 + l[k].f1 * lo)) (-(l[k].f0 + l[k].f1 * lo)) by unfold mostOf; rw [HPL.out])
        have hmb := mostUpto_bd HG.out hlo k hk
        have hob := mostOf_bd HG.out hlo k hlk
        rw [HMO.out] at hob
        have hs0 := HG.out.2.2 k hlk
        have hb1 := mul_bd4 (a := l[k].f1) (b := lo) hs0.2.2.1 hs0.2.2.2 hlo.1 hlo.2
        obtain ⟨f0, hf0⟩ : ∃ f, l[k].f0 = f := ⟨_, rfl⟩
        obtain ⟨f1, hf1⟩ : ∃ f, l[k].f1 = f := ⟨_, rfl⟩
        obtain ⟨mu, hmu⟩ : ∃ f, mostUpto l lo k = f := ⟨_, rfl⟩
        rw [hf0] at hsh0 HMO hob hs0
        rw [hf1] at hsh1 HMO hob hs0 hb1
        rw [hmu] at HMS hmb
        rw [hmu]
        subst hA
        have hmx := fun ats ty W => max_run ats ty f0 (f0 + f1 * lo) (-(f0 + f1 * lo)) W
        obtain ⟨w3, hw3⟩ : ∃ w3, wr.alloc (.cells #[.int .i64 f0, .int .i64 f1] 52) = w3 := ⟨_, rfl⟩
        have hb3 : Below wr.heap.size wr w3 := by rw [← hw3]; exact ba (b0 wr) _
        have HS3 := Lib.hid (show w3.heap[wr.heap.size]? = some (.cells #[.int .i64 f0, .int .i64 f1] 52 (0, 0)) by rw [← hw3]; exact World.alloc_heap_new wr _)
        have HB3 := Lib.hid (bt HBk.out hb3)
        have HM3 := Lib.hid (HMk.out.keep (hb3.block _ HMk.out.lt))
        have hg1 := (HP.out.below HB3.out).2.1
        have hg0 : w3.cell? ⟨wr.heap.size, 0, none⟩ = some (.int .i64 f0) := blk_cell HS3.out 0
        have hg2 : w3.cell? ⟨wr.heap.size, 1, none⟩ = some (.int .i64 f1) := blk_cell HS3.out 1
        have e0 : ((k + 1 : Nat) : Int) = (k : Int) + 1 := by omega
        have HE0 := Lib.hid e0
        clear hb3 hf0 hf1 hmu e0
        go_wp2_with fail
        go_quiet (fail)
        obtain ⟨w4, hw4⟩ : ∃ w4, w3.drewN nq = w4 := ⟨_, rfl⟩
        have HB4 := Lib.hid (show Below w.heap.size w w4 by rw [← hw4]; exact below_drewN nq HB3.out)
        have HS4 := Lib.hid (show w4.heap[wr.heap.size]? = some (.cells #[.int .i64 f0, .int .i64 f1] 52 (0, 0)) by rw [← hw4]; exact HS3.out)
        have HM4 := Lib.hid (show MapIs w4 w.heap.size (told lo hi 0 (cands 0)) by rw [← hw4]; exact HM3.out)
        rw [hw4]
        have hh0 : w4.cell? ⟨wr.heap.size, 0, none⟩ = some (.int .i64 f0) := blk_cell HS4.out 0
        clear hg0 hg1 hg2 hw4 hw3
        try rw [IntWalk.i64_in (f1 * lo) (by omega)]
        try rw [IntWalk.i64_in (f0 + f1 * lo) (by omega)]
        go_wp2_with fail
        go_roundw
        case rel => exact ⟨k + 1, by omega, HE0.out ▸ rfl, by rw [HMS.out, HMO.out], HM4, HB4⟩
        case measure => simp [intOf]; omega
      · obtain rfl : k = l.length := by omega
        obtain ⟨mo, hmo⟩ : ∃ q, mostUpto l lo l.length = q := ⟨_, rfl⟩
        have HMO := Lib.hid (show most l lo = mo by rw [most_eq]; exact hmo)
        have hmb := mostUpto_bd HG.out hlo l.length (Nat.le_refl _)
        rw [hmo] at hmb
        rw [hmo]
        clear hmo
        obtain ⟨it0, n, hrg, hrng⟩ := HMk.out.range (fun k => decide (-mo ≤ k.1) && decide (k.1 ≤ mo))
        obtain ⟨w5, hw5⟩ : ∃ w5, wr.alloc it0 = w5 := ⟨_, rfl⟩
        have HB5 := Lib.hid (show Below w.heap.size w w5 by rw [← hw5]; exact ba HBk.out _)
        have HRG := Lib.hid (show Ranging w5 w.heap.size wr.heap.size (told lo hi 0 (cands 0)) (fun k => decide (-mo ≤ k.1) && decide (k.1 ≤ mo)) n by rw [← hw5]; exact hrng)
        have hit : w.heap.size < wr.heap.size := HMk.out.lt
        rw [hw5] at hrg
        clear hrng hw5
        go_wp2_with fail
        obtain ⟨it, hitE⟩ : ∃ it, wr.heap.size = it := ⟨_, rfl⟩
        rw [hitE] at hit HRG
        rw [hitE]
        clear hrg hitE
        go_loopw [108] (fun _ W => Hid (∃ n, Ranging W w.heap.size it (told lo hi 0 (cands 0)) (fun k => decide (-mo ≤ k.1) && decide (k.1 ≤ mo)) n) ∧ Hid (Below w.heap.size w W)) (fun _ W => leftN W w.heap.size it)
        case atStart => exact ⟨Lib.hid ⟨n, HRG.out⟩, HB5⟩
        case round =>
          obtain ⟨HR, HBW⟩ := hrel
          obtain ⟨n, hn⟩ := HR.out
          have HLN := Lib.hid hn.left
          have hne : w.heap.size ≠ it := by omega
          rcases hn.next hne 0 with ⟨hnx, hmap⟩ | ⟨⟨ka, kb⟩, s, W', hnx, hst, hk⟩
          · have HMP := Lib.hid hmap
            have HSA := Lib.hid (show sheetAt l lo hi 0 = fun k => if (decide (-mo ≤ k.1) && decide (k.1 ≤ mo)) = true then told lo hi 0 (cands 0) k else none by
              funext k
              unfold sheetAt
              rw [HMO.out]
              simp only [Bool.and_eq_true, decide_eq_true_eq]
              rfl)
            clear hmap hn
            go_wp2_with fail
            try rw [Exit.noGoto_ret]
            go_ret
            exact ⟨w.heap.size, rfl, Nat.le_refl _, by rw [HSA.out]; exact HMP.out, HBW.out⟩
          · have HST := Lib.hid hst
            have hent := hst.entry
            simp only [keyV, shV] at hnx hent
            have HBW' := Lib.hid (show Below w.heap.size w W' from HBW.out.trans (hk.below HBW.out.size (fun i hi => by omega)))
            have hitl : it < W'.heap.size := by
              obtain ⟨es, clock, since, seen, e, _, hi, _⟩ := hst
              exact blk_lt hi
            obtain ⟨w6, hw6⟩ : ∃ w6, W'.alloc (.cells #[.int .i64 ka, .int .i64 kb] 102) = w6 := ⟨_, rfl⟩
            have hb6 : Below W'.heap.size W' w6 := by rw [← hw6]; exact ba (b0 W') _
            have HS6 := Lib.hid (show w6.heap[W'.heap.size]? = some (.cells #[.int .i64 ka, .int .i64 kb] 102 (0, 0)) by rw [← hw6]; exact World.alloc_heap_new W' _)
            have hg0 : w6.cell? ⟨W'.heap.size, 0, none⟩ = some (.int .i64 ka) := blk_cell HS6.out 0
            have HB6 := Lib.hid hb6
            clear hst hn hk hb6
            go_wp2_with fail
            refine (within_calls (some ⟨w6.heap.size, 0, none⟩) 1 [ka] (-mo) mo _ (C_one (by simp))).mono ?_
            rintro e w7 ⟨rfl, hb7⟩
            have hB67 : Below W'.heap.size W' w7 := bt (ba HB6.out _) hb7
            have HB7 := Lib.hid (bt HBW'.out hB67)
            have HST7 := Lib.hid (HST.out.keep (hB67.block _ (by omega)) (hB67.block _ hitl))
            have hD7 := blk_below (blk_below HS6.out (ba (b0 w6) (.cells #[.int .i64 ka] 2))) hb7
            have hh0 : w7.cell? ⟨W'.heap.size, 0, none⟩ = some (.int .i64 ka) := blk_cell hD7 0
            have hh1 : w7.cell? ⟨W'.heap.size, 1, none⟩ = some (.int .i64 kb) := blk_cell hD7 1
            have HIN := Lib.hid (inB_one (-mo) mo ka)
            clear hb7 hB67 hg0 hw6
            cases hq : inB (-mo) mo [ka]
            · have HQ := Lib.hid (show (decide (-mo ≤ ka) && decide (ka ≤ mo)) = false by rw [← HIN.out]; exact hq)
              obtain ⟨W8, n8, hdl, hn8, hr8, hk8⟩ := HST7.out.gone hne HQ.out #[113, 102] rfl 0
              simp only [keyV] at hdl
              have HR8 := Lib.hid hr8
              have HB8 := Lib.hid (show Below w.heap.size w W8 from HB7.out.trans (hk8.below HB7.out.size (fun i hi => by omega)))
              clear hr8 hk8
              go_wp2_with fail
              go_roundw
              case rel => exact ⟨Lib.hid ⟨n8, HR8.out⟩, HB8⟩
              case measure => rw [HR8.out.left, HLN.out]; exact hn8
            · have HQ := Lib.hid (show (decide (-mo ≤ ka) && decide (ka ≤ mo)) = true by rw [← HIN.out]; exact hq)
              obtain ⟨n8, hn8, hr8⟩ := HST7.out.stay HQ.out
              have HR8 := Lib.hid hr8
              clear hr8
              go_wp2_with fail
              go_roundw
              case rel => exact ⟨Lib.hid ⟨n8, HR8.out⟩, HB7⟩
              case measure => rw [HR8.out.left, HLN.out]; exact hn8
  · obtain ⟨w5, hw5⟩ : ∃ w5, (w4.setCell ⟨w1.heap.size, 0, none⟩ (.int .i64 0)).setCell ⟨w1.heap.size, 1, none⟩ (.int .i64 0) = w5 := ⟨_, rfl⟩
    have hk45 : KS (fun i => i = w1.heap.size) w4 w5 := by
      rw [← hw5]
      exact KS.setCell (p := ⟨w1.heap.size, 1, none⟩) (KS.setCell (S := fun i => i = w1.heap.size) (KS.refl _ w4) (p := ⟨w1.heap.size, 0, none⟩) (fun _ => rfl) _) (fun _ => rfl) _
    have HS5 := Lib.hid (show w5.heap[w1.heap.size]? = some (.cells #[.int .i64 0, .int .i64 0] 102 (0, 0)) by rw [← hw5]; exact blk_put (blk_put HS4.out 0 _ rfl) 1 _ rfl)
    have HB5 := Lib.hid (show Below w.heap.size w w5 from HB4.out.trans (hk45.below HB4.out.size (fun i hi => by have := HS1.out; omega)))
    have HM5 := Lib.hid (HM4.out.keep (hk45.block _ HM4.out.lt (by have := HS1.out; omega)))
    have hl0 : w5.cell? ⟨w1.heap.size, 0, none⟩ = some (.int .i64 0) := blk_cell HS5.out 0
    have hl1 : w5.cell? ⟨w1.heap.size, 1, none⟩ = some (.int .i64 0) := blk_cell HS5.out 1
    obtain ⟨wr, hup, hm6, hk6⟩ := HM5.out.update (0, 0) ⟨0, -10⟩
    simp only [keyV, shV] at hup
    have HMc := Lib.hid (show MapIs wr w.heap.size (told lo hi 0 (cands 0)) by rw [told_zero]; exact hm6)
    have HB := Lib.hid (show Below w.heap.size w wr from HB5.out.trans (hk6.below HB5.out.size (fun i hi => by omega)))
    clear hm6 hk6 hk45
    have HPr := Lib.hid (HP.out.below HB.out)
    have hc0 := HPr.out.1
    have hn7 := HG.out.1
    have hn3 := HG.out.2.1
    go_wp2_with fail
    refine (place_calls A l.length c pb ((l.length : Int) - 1) _ hn7 (by omega) (by omega) hc0).mono ?_
    rintro e w2 ⟨rfl, rfl⟩
    obtain ⟨pl, hpl2⟩ : ∃ q, place l.length ((l.length : Int) - 1) = q := ⟨_, rfl⟩
    have HPL := Lib.hid hpl2
    have hplb : -3 ≤ pl ∧ pl ≤ 3 := by rw [← hpl2]; unfold place; omega
    rw [hpl2]
    clear hpl2
    have HBw := Lib.hid HB.out
    go_wp2_with fail
    go_loopw [10, 79] (fun v i W => ∃ k : Nat, k ≤ l.length ∧ i = .int .i64 k ∧ v = .int .i64 (mostUpto l lo k) ∧ Hid (MapIs W w.heap.size (told lo hi 0 (cands 0))) ∧ Hid (Below w.heap.size w W)) (fun _ i _ => l.length - (intOf i).toNat)
    case atStart => exact ⟨0, Nat.zero_le _, rfl, rfl, HMc, HB⟩
    case round =>
      obtain ⟨k, hk, rfl, rfl, HMk, HBk⟩ := hrel
      clear hc0
      by_cases hlk : k < l.length
      · have HPk := Lib.hid (HP.out.below HBk.out)
        obtain ⟨ad, hA, hsh0, hsh1⟩ := C_cellSh HPk.out.2.2.2 k hlk
        have HA := Lib.hid hA
        have HMS := Lib.hid (mostUpto_succ l lo k hlk)
        have HMO := Lib.hid (show mostOf l.length lo l[k] = pl * mmax (mmax l[k].f0 (l[k].f0 + l[k].f1 * lo)) (-(l[k].f0 + l[k].f1 * lo)) by unfold mostOf; rw [HPL.out])
        have hmb := mostUpto_bd HG.out hlo k hk
        have hob := mostOf_bd HG.out hlo k hlk
        rw [HMO.out] at hob
        have hs0 := HG.out.2.2 k hlk
        have hb1 := mul_bd4 (a := l[k].f1) (b := lo) hs0.2.2.1 hs0.2.2.2 hlo.1 hlo.2
        obtain ⟨f0, hf0⟩ : ∃ f, l[k].f0 = f := ⟨_, rfl⟩
        obtain ⟨f1, hf1⟩ : ∃ f, l[k].f1 = f := ⟨_, rfl⟩
        obtain ⟨mu, hmu⟩ : ∃ f, mostUpto l lo k = f := ⟨_, rfl⟩
        rw [hf0] at hsh0 HMO hob hs0
        rw [hf1] at hsh1 HMO hob hs0 hb1
        rw [hmu] at HMS hmb
        rw [hmu]
        subst hA
        have hmx := fun ats ty W => max_run ats ty f0 (f0 + f1 * lo) (-(f0 + f1 * lo)) W
        obtain ⟨w3, hw3⟩ : ∃ w3, wr.alloc (.cells #[.int .i64 f0, .int .i64 f1] 52) = w3 := ⟨_, rfl⟩
        have hb3 : Below wr.heap.size wr w3 := by rw [← hw3]; exact ba (b0 wr) _
        have HS3 := Lib.hid (show w3.heap[wr.heap.size]? = some (.cells #[.int .i64 f0, .int .i64 f1] 52 (0, 0)) by rw [← hw3]; exact World.alloc_heap_new wr _)
        have HB3 := Lib.hid (bt HBk.out hb3)
        have HM3 := Lib.hid (HMk.out.keep (hb3.block _ HMk.out.lt))
        have hg1 := (HP.out.below HB3.out).2.1
        have hg0 : w3.cell? ⟨wr.heap.size, 0, none⟩ = some (.int .i64 f0) := blk_cell HS3.out 0
        have hg2 : w3.cell? ⟨wr.heap.size, 1, none⟩ = some (.int .i64 f1) := blk_cell HS3.out 1
        have e0 : ((k + 1 : Nat) : Int) = (k : Int) + 1 := by omega
        have HE0 := Lib.hid e0
        clear hb3 hf0 hf1 hmu e0
        go_wp2_with fail
        go_quiet (fail)
        obtain ⟨w4, hw4⟩ : ∃ w4, w3.drewN nq = w4 := ⟨_, rfl⟩
        have HB4 := Lib.hid (show Below w.heap.size w w4 by rw [← hw4]; exact below_drewN nq HB3.out)
        have HS4 := Lib.hid (show w4.heap[wr.heap.size]? = some (.cells #[.int .i64 f0, .int .i64 f1] 52 (0, 0)) by rw [← hw4]; exact HS3.out)
        have HM4 := Lib.hid (show MapIs w4 w.heap.size (told lo hi 0 (cands 0)) by rw [← hw4]; exact HM3.out)
        rw [hw4]
        have hh0 : w4.cell? ⟨wr.heap.size, 0, none⟩ = some (.int .i64 f0) := blk_cell HS4.out 0
        clear hg0 hg1 hg2 hw4 hw3
        try rw [IntWalk.i64_in (f1 * lo) (by omega)]
        try rw [IntWalk.i64_in (f0 + f1 * lo) (by omega)]
        go_wp2_with fail
        go_roundw
        case rel => exact ⟨k + 1, by omega, HE0.out ▸ rfl, by rw [HMS.out, HMO.out], HM4, HB4⟩
        case measure => simp [intOf]; omega
      · obtain rfl : k = l.length := by omega
        obtain ⟨mo, hmo⟩ : ∃ q, mostUpto l lo l.length = q := ⟨_, rfl⟩
        have HMO := Lib.hid (show most l lo = mo by rw [most_eq]; exact hmo)
        have hmb := mostUpto_bd HG.out hlo l.length (Nat.le_refl _)
        rw [hmo] at hmb
        rw [hmo]
        clear hmo
        obtain ⟨it0, n, hrg, hrng⟩ := HMk.out.range (fun k => decide (-mo ≤ k.1) && decide (k.1 ≤ mo))
        obtain ⟨w5, hw5⟩ : ∃ w5, wr.alloc it0 = w5 := ⟨_, rfl⟩
        have HB5 := Lib.hid (show Below w.heap.size w w5 by rw [← hw5]; exact ba HBk.out _)
        have HRG := Lib.hid (show Ranging w5 w.heap.size wr.heap.size (told lo hi 0 (cands 0)) (fun k => decide (-mo ≤ k.1) && decide (k.1 ≤ mo)) n by rw [← hw5]; exact hrng)
        have hit : w.heap.size < wr.heap.size := HMk.out.lt
        rw [hw5] at hrg
        clear hrng hw5
        go_wp2_with fail
        obtain ⟨it, hitE⟩ : ∃ it, wr.heap.size = it := ⟨_, rfl⟩
        rw [hitE] at hit HRG
        rw [hitE]
        clear hrg hitE
        go_loopw [108] (fun _ W => Hid (∃ n, Ranging W w.heap.size it (told lo hi 0 (cands 0)) (fun k => decide (-mo ≤ k.1) && decide (k.1 ≤ mo)) n) ∧ Hid (Below w.heap.size w W)) (fun _ W => leftN W w.heap.size it)
        case atStart => exact ⟨Lib.hid ⟨n, HRG.out⟩, HB5⟩
        case round =>
          obtain ⟨HR, HBW⟩ := hrel
          obtain ⟨n, hn⟩ := HR.out
          have HLN := Lib.hid hn.left
          have hne : w.heap.size ≠ it := by omega
          rcases hn.next hne 0 with ⟨hnx, hmap⟩ | ⟨⟨ka, kb⟩, s, W', hnx, hst, hk⟩
          · have HMP := Lib.hid hmap
            have HSA := Lib.hid (show sheetAt l lo hi 0 = fun k => if (decide (-mo ≤ k.1) && decide (k.1 ≤ mo)) = true then told lo hi 0 (cands 0) k else none by
              funext k
              unfold sheetAt
              rw [HMO.out]
              simp only [Bool.and_eq_true, decide_eq_true_eq]
              rfl)
            clear hmap hn
            go_wp2_with fail
            try rw [Exit.noGoto_ret]
            go_ret
            exact ⟨w.heap.size, rfl, Nat.le_refl _, by rw [HSA.out]; exact HMP.out, HBW.out⟩
          · have HST := Lib.hid hst
            have hent := hst.entry
            simp only [keyV, shV] at hnx hent
            have HBW' := Lib.hid (show Below w.heap.size w W' from HBW.out.trans (hk.below HBW.out.size (fun i hi => by omega)))
            have hitl : it < W'.heap.size := by
              obtain ⟨es, clock, since, seen, e, _, hi, _⟩ := hst
              exact blk_lt hi
            obtain ⟨w6, hw6⟩ : ∃ w6, W'.alloc (.cells #[.int .i64 ka, .int .i64 kb] 102) = w6 := ⟨_, rfl⟩
            have hb6 : Below W'.heap.size W' w6 := by rw [← hw6]; exact ba (b0 W') _
            have HS6 := Lib.hid (show w6.heap[W'.heap.size]? = some (.cells #[.int .i64 ka, .int .i64 kb] 102 (0, 0)) by rw [← hw6]; exact World.alloc_heap_new W' _)
            have hg0 : w6.cell? ⟨W'.heap.size, 0, none⟩ = some (.int .i64 ka) := blk_cell HS6.out 0
            have HB6 := Lib.hid hb6
            clear hst hn hk hb6
            go_wp2_with fail
            refine (within_calls (some ⟨w6.heap.size, 0, none⟩) 1 [ka] (-mo) mo _ (C_one (by simp))).mono ?_
            rintro e w7 ⟨rfl, hb7⟩
            have hB67 : Below W'.heap.size W' w7 := bt (ba HB6.out _) hb7
            have HB7 := Lib.hid (bt HBW'.out hB67)
            have HST7 := Lib.hid (HST.out.keep (hB67.block _ (by omega)) (hB67.block _ hitl))
            have hD7 := blk_below (blk_below HS6.out (ba (b0 w6) (.cells #[.int .i64 ka] 2))) hb7
            have hh0 : w7.cell? ⟨W'.heap.size, 0, none⟩ = some (.int .i64 ka) := blk_cell hD7 0
            have hh1 : w7.cell? ⟨W'.heap.size, 1, none⟩ = some (.int .i64 kb) := blk_cell hD7 1
            have HIN := Lib.hid (inB_one (-mo) mo ka)
            clear hb7 hB67 hg0 hw6
            cases hq : inB (-mo) mo [ka]
            · have HQ := Lib.hid (show (decide (-mo ≤ ka) && decide (ka ≤ mo)) = false by rw [← HIN.out]; exact hq)
              obtain ⟨W8, n8, hdl, hn8, hr8, hk8⟩ := HST7.out.gone hne HQ.out #[113, 102] rfl 0
              simp only [keyV] at hdl
              have HR8 := Lib.hid hr8
              have HB8 := Lib.hid (show Below w.heap.size w W8 from HB7.out.trans (hk8.below HB7.out.size (fun i hi => by omega)))
              clear hr8 hk8
              go_wp2_with fail
              go_roundw
              case rel => exact ⟨Lib.hid ⟨n8, HR8.out⟩, HB8⟩
              case measure => rw [HR8.out.left, HLN.out]; exact hn8
            · have HQ := Lib.hid (show (decide (-mo ≤ ka) && decide (ka ≤ mo)) = true by rw [← HIN.out]; exact hq)
              obtain ⟨n8, hn8, hr8⟩ := HST7.out.stay HQ.out
              have HR8 := Lib.hid hr8
              clear hr8
              go_wp2_with fail
              go_roundw
              case rel => exact ⟨Lib.hid ⟨n8, HR8.out⟩, HB7⟩
              case measure => rw [HR8.out.left, HLN.out]; exact hn8
theorem sheets_calls (A : Option Addr) (c : Nat) (l : List Sh) (lo hi : Int) (pb : Nat) (x : Int) (w : World) (hp : PressIn w pb A c l lo hi) (hg : Plain.Good l) (hlo : 0 ≤ lo ∧ lo ≤ 50) (hx3 : -3 ≤ x ∧ x ≤ 3) :
    Calls Try.prog 71 #[.pointer (some ⟨pb, 0, none⟩), .int .i64 x] w fun e w' => ∃ r, e = .returned (.map (some r)) ∧ w.heap.size ≤ r ∧ MapIs w' r (sheetAt l lo hi x) ∧ Below w.heap.size w w' := by
  by_cases hx : x = 0
  · subst hx; exact sheets_zero A c l lo hi pb w hp hg hlo
  · exact sheets_pos A c l lo hi pb x w hp hg hlo hx hx3
end Go.Proofs.Ytehfhbdhdbpfpaa.Own
