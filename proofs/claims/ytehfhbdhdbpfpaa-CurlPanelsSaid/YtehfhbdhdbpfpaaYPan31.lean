/- Parts of a proof: B2. No condition. -/
import Derived.Test.YtehfhbdhdbpfpaaYPan30
namespace Go.Proofs.Ytehfhbdhdbpfpaa.Own
end Go.Proofs.Ytehfhbdhdbpfpaa.Own
namespace Go.Proofs.Ytehfhbdhdbpfpaa.Print
end Go.Proofs.Ytehfhbdhdbpfpaa.Print
namespace Go.Proofs.Ytehfhbdhdbpfpaa.Spec
end Go.Proofs.Ytehfhbdhdbpfpaa.Spec
namespace Go.Proofs.YtehfhbdhdbpfpaaW.PrintLast
end Go.Proofs.YtehfhbdhdbpfpaaW.PrintLast
namespace Go.Proofs.YtehfhbdhdbpfpaaW.PrintMore
end Go.Proofs.YtehfhbdhdbpfpaaW.PrintMore
namespace Go.Proofs.YtehfhbdhdbpfpaaW.PrintWords
end Go.Proofs.YtehfhbdhdbpfpaaW.PrintWords
set_option linter.unusedVariables false
set_option linter.unusedSimpArgs false
namespace Go.Proofs.Ytehfhbdhdbpfpaa.Own
open Go.RowKit Go.Shelf Go.Proofs.YtehfhbdhdbpfpaaW.PrintWords Go.Proofs.YtehfhbdhdbpfpaaW.PrintLast Go.Proofs.YtehfhbdhdbpfpaaW.PrintMore Go.Proofs.Ytehfhbdhdbpfpaa.Print Go.Proofs.Ytehfhbdhdbpfpaa.Spec
set_option linter.unusedVariables false
set_option linter.unusedSimpArgs false
attribute [local go_sem] Oper.semAt_some
set_option maxRecDepth 100000 in
set_option maxHeartbeats 1600000 in
theorem Blame_err (A : Option Addr) (c : Nat) (l : List Sh) (lo hi x : Int) (w : World) (hr : Kd.C k52 w A l.length l) (hx : panel l lo hi = x) (h0 : x ≠ 0) :
    Calls Try.prog 25 #[.agg #[.slice A l.length c, .int .i64 lo, .int .i64 hi]] w fun e w' => e = .returned (.tuple #[.slice none 0 0, .int .i64 x]) ∧ Below w.heap.size w w' := by
  have HR := Lib.hid hr
  have HX := Lib.hid hx
  have hxb : (x != 0) = true := by simpa using h0
  clear hr hx
  go_enter Try.func25, Try.ntmps25
  go_wp2_with fail
  refine (open0_err A c l lo hi x _ _ (Kd.C_below HR.out (ba (b0 w) _)) HX.out h0).mono ?_
  rintro e w1 ⟨rfl, hb1⟩
  go_wp2
  go_ret2
  exact ⟨rfl, ba (bt (ba (b0 w) _) hb1) _⟩
def Blaming (l : List Sh) (lo hi : Int) (fb mb : Nat) (Bd : Nat → Prop) (w4 : World) (pre : List (List Int)) (W : World) : Prop :=
  W.heap[fb]? = some (.cells (marksB (blIn l lo hi pre)) 87 (0, 0)) ∧ CacheOk W mb (sheetAt l lo hi) Bd ∧ KS (fun k => k = mb ∨ k = fb) w4 W
theorem CacheOk.off {W W' : World} {mb : Nat} {H : Int → Int × Int → Option Sh} {Bd S : Nat → Prop} (h : CacheOk W mb H Bd) (hk : KS S W W') (hS : ∀ k, S k → Bd k) (hmb : ¬ S mb) : CacheOk W' mb H Bd := by
  obtain ⟨G, h1, h2⟩ := h
  exact ⟨G, h1.keep (hk.block _ h1.lt hmb), fun x r hx => ⟨(h2 x r hx).1, (h2 x r hx).2.keep (hk.block _ (h2 x r hx).2.lt (fun hs => (h2 x r hx).1.2 (hS _ hs)))⟩⟩
theorem CacheOk.far {W W' : World} {mb : Nat} {H : Int → Int × Int → Option Sh} {Bd : Nat → Prop} {fb : Nat} {cs : Array Value} {t : TypeId} {fr : Nat × Nat} (h : CacheOk W mb H Bd) (hf : W.heap[fb]? = some (.cells cs t fr)) (hk : KS (fun k => k = fb) W W') : CacheOk W' mb H Bd := by
  obtain ⟨G, h1, h2⟩ := h
  have hne : ∀ r, (∃ es ck, W.heap[r]? = some (.map es ck)) → r ≠ fb := by
    rintro r ⟨es, ck, h3⟩ rfl
    rw [hf] at h3
    cases h3
  refine ⟨G, h1.keep (hk.block _ h1.lt (hne _ ?_)), fun x r hx => ⟨(h2 x r hx).1, (h2 x r hx).2.keep (hk.block _ (h2 x r hx).2.lt (hne _ ?_))⟩⟩
  · obtain ⟨es, ck, h3, _⟩ := h1
    exact ⟨es, ck, h3⟩
  · obtain ⟨es, ck, h3, _⟩ := (h2 x r hx).2
    exact ⟨es, ck, h3⟩
theorem CacheOk.bad {W : World} {mb : Nat} {H : Int → Int × Int → Option Sh} {Bd : Nat → Prop} (h : CacheOk W mb H (fun _ => False)) (hb : ∀ k, Bd k → W.heap.size ≤ k) : CacheOk W mb H Bd := by
  obtain ⟨G, h1, h2⟩ := h
  exact ⟨G, h1, fun x r hx => ⟨⟨(h2 x r hx).1.1, fun hs => by have := hb _ hs; have := (h2 x r hx).2.lt; omega⟩, (h2 x r hx).2⟩⟩
set_option maxRecDepth 100000 in
set_option maxHeartbeats 4000000 in
theorem Blame_ok (A : Option Addr) (c : Nat) (l : List Sh) (lo hi : Int) (w : World) (hr : Kd.C k52 w A l.length l) (hx : panel l lo hi = 0) :
    Calls Try.prog 25 #[.agg #[.slice A l.length c, .int .i64 lo, .int .i64 hi]] w fun e w' => ∃ v, e = .returned (.tuple #[v, .int .i64 0]) ∧ Kd.R (Kd.int .i64) 3 w' w.heap.size (fun _ => True) v (blame l lo hi) ∧ Below w.heap.size w w' := by
  have HR := Lib.hid hr
  have HX := Lib.hid hx
  obtain ⟨hgd, hlo0, hlh, hhi, _⟩ := Plain.good_of_panel hx
  have hl7 := hgd.1
  have hl3 := hgd.2.1
  have HG := Lib.hid hgd
  have hNm := perms_len hl7
  clear hr hx hgd
  refine (callsIn_wide (n := 3)).1 ?_
  refine callsIn_of_wp_marks Try.func25 rfl trivial ?_ rfl
  simp only [Try.ntmps25, List.size_toArray, List.length_cons, List.length_nil, Nat.reduceAdd, Nat.reduceSub, Array.replicate_succ, Array.replicate_zero, List.push_toArray, List.append_toArray, List.nil_append, List.cons_append]
  gi_wp2_with fail
  refine ⟨trivial, callsIn_wide.2 ((open0_ok A c l lo hi _ (Kd.C_below HR.out (ba (b0 w) _)) HX.out).mono ?_)⟩
  rintro e w1 ⟨pb, mb, rfl, hp, hm, hpl, hml, hne, hb1⟩
  have HB1 := Lib.hid (bt (ba (b0 w) _) hb1)
  have HP := Lib.hid hp
  have HM := Lib.hid hm
  have hpw := blk_lt hp
  have hmw := blk_lt hm
  have hws1 : w.heap.size ≤ w1.heap.size := HB1.out.size
  simp at hpl hml
  clear hp hm hb1
  gi_wp2_with fail
  obtain ⟨w2, hw2⟩ : ∃ w2, w1.alloc (.cells #[.pointer (some ⟨pb, 0, none⟩)] 62) = w2 := ⟨_, rfl⟩
  obtain ⟨w3, hw3⟩ : ∃ w3, w2.alloc (.cells #[.int .i64 0, .int .i64 0, .int .i64 0, .int .i64 0, .int .i64 0, .int .i64 0, .int .i64 0] 87) = w3 := ⟨_, rfl⟩
  have HS2 := Lib.hid (show w2.heap.size = w1.heap.size + 1 by rw [← hw2]; simp)
  have HS3 := Lib.hid (show w3.heap.size = w1.heap.size + 2 by rw [← hw3]; simp [HS2.out])
  have hb12 : Below w1.heap.size w1 w2 := by rw [← hw2]; exact ba (b0 w1) _
  have hb23 : Below w2.heap.size w2 w3 := by rw [← hw3]; exact ba (b0 w2) _
  have HBx3 := Lib.hid (blk_below (show w2.heap[w1.heap.size]? = some (.cells #[.pointer (some ⟨pb, 0, none⟩)] 62 (0, 0)) by rw [← hw2]; exact World.alloc_heap_new w1 _) hb23)
  have HF3 := Lib.hid (show w3.heap[w1.heap.size + 1]? = some (.cells (marksB (blIn l lo hi [])) 87 (0, 0)) by rw [← hw3, ← HS2.out]; exact World.alloc_heap_new w2 _)
  have HB3 := Lib.hid (bt (bt HB1.out hb12) hb23)
  have HP3 := Lib.hid (blk_below (blk_below HP.out hb12) hb23)
  have HM3 := Lib.hid (blk_below (blk_below HM.out hb12) hb23)
  rw [hw2, hw3]
  clear hb12 hb23 hw2 hw3
  refine ⟨trivial, callsIn_wide.2 ((orders_calls pb w3).mono ?_)⟩
  rintro e w4 ⟨rfl, hw4⟩
  have hb34 : Below w3.heap.size w3 w4 := by rw [← hw4]; exact ba (b0 w3) _
  have HX4 := Lib.hid (show w4.heap[w1.heap.size + 2]? = some (.cells #[.pointer (some ⟨pb, 0, none⟩)] 62 (0, 0)) by rw [← hw4, ← HS3.out]; exact World.alloc_heap_new w3 _)
  have HS4 := Lib.hid (show w4.heap.size = w1.heap.size + 3 by rw [← hw4]; simp [HS3.out])
  have HBx4 := Lib.hid (blk_below HBx3.out hb34)
  have HF4 := Lib.hid (blk_below HF3.out hb34)
  have HP4 := Lib.hid (blk_below HP3.out hb34)
  have HM4 := Lib.hid (blk_below HM3.out hb34)
  have HB4 := Lib.hid (bt HB3.out hb34)
  rw [HS3.out]
  clear hw4 hb34
  gi_wp2
  refine range_law (gf := 65) (lb := #[.pointer (some ⟨w1.heap.size + 2, 0, none⟩)]) (xs := perms l.length) (U := fun k => k = w1.heap.size + 6) (Qk := fun k => k ≠ w1.heap.size + 1 ∧ k ≠ mb) (bad := 27) (enc := ordEnc l.length (w1.heap.size + 8))
    rfl (enters_of Try.func65 (by kernel_rfl) rfl) (fun k h => by have := HS4.out; omega)
    (fun W0 hb0 hs0 => ?seq)
    (fun x v W W' h hk => h.keep (fun k cs hb hc => hk.block k (blk_lt hc) (by have := HS4.out; omega))) (Blaming l lo hi (w1.heap.size + 1) mb (fun k => k = w1.heap.size + 6 ∨ k = w1.heap.size + 3 ∨ k = w1.heap.size + 4) w4)
    (fun pre W W' h hk => ?step) ?start ?a1 ?assign ?body ?done
  case seq =>
    have hsz : W0.heap.size = w1.heap.size + 5 := by rw [hs0, HS4.out]
    have hp0 : W0.cell? ⟨pb, 0, none⟩ = some (.slice A l.length c) := (hb0.cell (p := ⟨pb, 0, none⟩) (by rw [HS4.out]; show pb < _; omega)).trans (blk_cell HP4.out 0)
    have h := orders_seq (w1.heap.size + 2) pb A l.length c w4.heap.size (w4.heap.size + 1) (fun k => k ≠ w1.heap.size + 1 ∧ k ≠ mb) 27 W0 hl7 (blk_below HX4.out hb0) hp0 (by omega) (by rw [HS4.out]; omega) (by rw [HS4.out]; omega) (by constructor <;> omega) (by constructor <;> omega) (by omega) (by omega) (by decide) (by decide) (by decide)
    rw [hsz] at h
    exact h
  case step =>
    have h4 := HS4.out
    refine ⟨hk.blk h.1 (by omega), h.2.1.off hk (fun k hk => by omega) (by omega), h.2.2.then_ hk (fun i hi hs => by omega)⟩
  case start => exact ⟨HF4.out, CacheOk.bad ⟨_, CacheIs.empty HM4.out, fun _ _ h => by cases h⟩ (fun k h => by have := HS4.out; omega), KS.refl _ _⟩
  case assign =>
    intro l' v W K hK
    gi_wp2
    exact hK
  case body =>
    rintro l' pre x v W ⟨hfn, hck, hks⟩ hpre ⟨⟨A', c', rfl⟩, hxr, hxl⟩ hsz
    have h4 := HS4.out
    have hmem : x ∈ perms l.length := hpre.subset (by simp)
    have HO := Lib.hid (Plain.perms_ord hmem)
    have hx7 : x.length ≤ 7 := by omega
    have HXR := Lib.hid (show ordEnc l.length (w1.heap.size + 8) x (.slice A' x.length c') W from ⟨⟨A', c', rfl⟩, hxr, hxl⟩)
    have hWs : w1.heap.size + 8 < W.heap.size := by
      rcases hxr.2 with ⟨_, h0⟩ | ⟨g, cap, cur, hv, hg, hh, _⟩
      · omega
      · have := blk_lt hh; omega
    have hx3 : 3 ≤ x.length := by omega
    have HXL := Lib.hid hxl
    clear hxl
    have HFN := Lib.hid hfn
    have HCK := Lib.hid hck
    have HKS := Lib.hid hks
    have HPx := Lib.hid (show ∀ W', CacheOk W' mb (sheetAt l lo hi) (fun k => k = w1.heap.size + 6 ∨ k = w1.heap.size + 3 ∨ k = w1.heap.size + 4) → KS (fun k => k = mb ∨ k = w1.heap.size + 1) w4 W' →
        PressM W' pb mb A c l lo hi (fun k => k = w1.heap.size + 6 ∨ k = w1.heap.size + 3 ∨ k = w1.heap.size + 4) from fun W' hc hk => by
      have hpb := hk.blk HP4.out (by omega)
      exact ⟨pressIn_of hpb HR.out (HB4.out.trans (hk.below (by omega) (fun i hi => by omega))), blk_cell hpb 3, hc⟩)
    have HBW := Lib.hid (show ∀ W', KS (fun k => k = mb ∨ k = w1.heap.size + 1) w4 W' → W'.cell? ⟨w1.heap.size, 0, none⟩ = some (.pointer (some ⟨pb, 0, none⟩)) from fun W' hk => blk_cell (hk.blk HBx4.out (by omega)) 0)
    clear hfn hck hks hxr hmem hpre
    gi_wp2_with fail
    gi_loopw [30] (fun i wr => ∃ k : Nat, k ≤ x.length ∧ i = .int .i64 k ∧ Hid (wr.heap[w1.heap.size + 1]? = some (.cells (marksB (fun s => blIn l lo hi pre s || blBy l lo hi x k s)) 87 (0, 0))) ∧
        Hid (CacheOk wr mb (sheetAt l lo hi) (fun k => k = w1.heap.size + 6 ∨ k = w1.heap.size + 3 ∨ k = w1.heap.size + 4)) ∧ Hid (KS (fun k => k = mb ∨ k = w1.heap.size + 1) W wr)) (fun i _ => x.length - (intOf i).toNat)
    case atStart => exact ⟨0, Nat.zero_le _, rfl, Lib.hid (by rw [marksB_congr (g := blIn l lo hi pre) (fun k _ => by simp [blBy_zero])]; exact HFN.out), HCK, Lib.hid (KS.refl _ _)⟩
    case round =>
      obtain ⟨k, hk, rfl, HF, HC, HK⟩ := hrel
      have hwrs : W.heap.size ≤ wr.heap.size := HK.out.size
      have HK4 := Lib.hid (HKS.out.trans HK.out)
      by_cases hlt : k < x.length
      · have HXw := Lib.hid (show ordEnc l.length (w1.heap.size + 8) x (.slice A' x.length c') wr from HXR.out.keep (fun k cs hb hc => HK.out.block k (blk_lt hc) (by omega)))
        obtain ⟨ad, hA, hcx⟩ := C_cell HXw.out.reads k hlt
        subst hA
        have hsb := Plain.ord_get HO.out k hlt
        obtain ⟨s, hs⟩ : ∃ s : Nat, x[k] = (s : Int) := ⟨x[k].toNat, by omega⟩
        rw [hs] at hcx hsb
        have hs7 : s < 7 := by omega
        have HRD := Lib.hid (show rd x (k : Int) = (s : Int) by rw [Plain.rd_get hlt, hs])
        have hcf : wr.cell? ⟨w1.heap.size + 1, s, none⟩ = some (.int .i64 (if (blIn l lo hi pre s || blBy l lo hi x k s) = true then 1 else 0)) := by rw [blk_cell HF.out]; exact marksB_at _ s hs7
        have hcb := HBW.out wr HK4.out
        have e0 : ((k + 1 : Nat) : Int) = (k : Int) + 1 := by omega
        have HE0 := Lib.hid e0
        clear hs hsb e0
        cases hf : (blIn l lo hi pre s || blBy l lo hi x k s)
        · rw [hf] at hcf
          have HFF := Lib.hid hf
          have hcf : wr.cell? ⟨w1.heap.size + 1, s, none⟩ = some (.int .i64 0) := hcf
          have hw : IntKind.i64.wrap (1 - (k : Int) % 2) = 1 - (k : Int) % 2 := by
            simp only [i64_w]
            unfold wrap64
            omega
          clear hf
          obtain ⟨b1, hb1⟩ : ∃ b, solve0 l lo hi x (1 - (k : Int) % 2) = b := ⟨_, rfl⟩
          obtain ⟨b2, hb2⟩ : ∃ b, (solve1 l lo hi x ((k : Int) % 2) (k : Int)).isSome = b := ⟨_, rfl⟩
          have HB1 := Lib.hid hb1
          have HB2 := Lib.hid hb2
          have HBL := Lib.hid (show blames l lo hi x (k : Int) = (b1 && b2) by unfold blames; rw [hb1, hb2])
          have hxs := Plain.ord_get HO.out k hlt
          clear hb1 hb2 hxs
          gi_wp2_with fail
          refine ⟨trivial, CallsIn.inRound l' (callsIn_wide.2 ((solve_none A c l lo hi pb (some ad) c' x (1 - (k : Int) % 2) wr (HPx.out wr HC.out HK4.out).1 HXw.out.reads HG.out HO.out ⟨hlo0, by omega⟩).mono ?_))⟩
          rintro e w5 ⟨rfl, hb5⟩
          rw [HB1.out]
          have HF5 := Lib.hid (blk_below HF.out hb5)
          have HC5 := Lib.hid (HC.out.below hb5)
          have HK5 := Lib.hid (HK.out.after hb5)
          have HX5 := Lib.hid (HXw.out.below hb5)
          have hw5 : W.heap.size ≤ w5.heap.size := HK5.out.size
          have hcb5 := HBW.out w5 (HKS.out.trans HK5.out)
          clear hcb hb5 hcf
          gi_wp2_with fail
          refine ⟨trivial, CallsIn.inRound l' (callsIn_wide.2 ((solve_some A c l lo hi pb mb (some ad) c' x ((k : Int) % 2) k w5.heap.size 1 (w5.alloc (.cells #[.int .i64 (k : Int)] 3)) (HPx.out _ (HC5.out.below (ba (b0 w5) _)) ((HKS.out.trans HK5.out).alloc _)) (HX5.out.below (ba (b0 w5) _)).reads HG.out HO.out ⟨hlo0, by omega⟩ hlt (by simp) (Nat.le_refl _) (fun i hi => by simp; omega)).mono ?_))⟩
          rintro e w6 ⟨v, rfl, hk6, hc6, _⟩
          rw [HB2.out]
          have hfm : mb ≠ w1.heap.size + 1 := by omega
          have hk56 := ((KS.refl (fun k => k = mb) w5).alloc (.cells #[.int .i64 (k : Int)] 3)).trans hk6
          have HF6 := Lib.hid (hk56.blk HF5.out (by omega))
          have HC6 := Lib.hid hc6
          have HK6 := Lib.hid (HK5.out.trans (hk56.mono (fun i hi hs => .inl hs)))
          clear hk6 hc6 hk56 hcb5
          cases b1 <;> cases b2
          case true.true =>
            have hcf6 : w6.cell? ⟨w1.heap.size + 1, s, none⟩ = some (.int .i64 (if (blIn l lo hi pre s || blBy l lo hi x k s) = true then 1 else 0)) := by rw [blk_cell HF6.out]; exact marksB_at _ s hs7
            have hcz6 := blk_frozen HF6.out s
            gi_wp2
            go_roundw
            case rel =>
              have hks := ((KS.refl (fun k => k = w1.heap.size + 1) w6).setCell (p := ⟨w1.heap.size + 1, s, none⟩) (fun _ => rfl) (.int .i64 1))
              refine ⟨k + 1, by omega, HE0.out ▸ rfl, Lib.hid ?_, Lib.hid (HC6.out.far HF6.out hks), Lib.hid (HK6.out.trans (hks.mono (fun i hi hs => .inr hs)))⟩
              have h1 := blk_put HF6.out s (.int .i64 1) rfl
              rw [marksB_set _ s hs7] at h1
              rw [marksB_congr (g := fun s' => (blIn l lo hi pre s' || blBy l lo hi x k s') || s' == (s : Int)) (fun j hj => ?_)]
              · exact h1
              · rw [blBy_succ, HRD.out, HBL.out]
                simp only [Bool.and_true, Bool.or_assoc]
                congr 2
                exact BEq.comm
            case measure => simp [intOf]; omega
          all_goals
            gi_wp2
            go_roundw
            case rel => exact ⟨k + 1, by omega, HE0.out ▸ rfl, Lib.hid (by
              rw [marksB_congr (g := fun s => blIn l lo hi pre s || blBy l lo hi x k s) (fun j hj => ?_)]
              · exact HF6.out
              · rw [blBy_succ, HRD.out, HBL.out]; simp), HC6, HK6⟩
            case measure => simp [intOf]; omega
        · rw [hf] at hcf
          have HFF := Lib.hid hf
          have hcf : wr.cell? ⟨w1.heap.size + 1, s, none⟩ = some (.int .i64 1) := hcf
          clear hf
          gi_wp2
          go_roundw
          case rel => exact ⟨k + 1, by omega, HE0.out ▸ rfl, Lib.hid (by
            rw [marksB_congr (g := fun s => blIn l lo hi pre s || blBy l lo hi x k s) (fun j hj => ?_)]; exact HF.out
            rw [blBy_succ, HRD.out]
            by_cases e : j = s
            · subst e
              have := HFF.out
              simp only [Bool.or_eq_true] at this ⊢
              rcases this with h | h <;> simp [h]
            · rw [show ((s : Int) == (j : Int)) = false from beq_eq_false_iff_ne.2 (by omega), Bool.false_and, Bool.or_false]), HC, HK⟩
          case measure => simp [intOf]; omega
      · obtain rfl : k = x.length := by omega
        gi_wp2
        refine ⟨⟨?_, HC.out, HK4.out⟩, HK.out.mono (fun i hi hs => .inl ⟨by omega, by omega⟩)⟩
        rw [marksB_congr (g := fun s => blIn l lo hi pre s || blBy l lo hi x x.length s) (fun j hj => blIn_push _ _ _ _ _ _)]
        exact HF.out
  case done =>
    rintro W ⟨hfn, hck, hks⟩ hD
    have h4 := HS4.out
    have HFN := Lib.hid hfn
    have HD := Lib.hid hD
    have HB := Lib.hid (show Below w.heap.size w W from HB4.out.trans (hks.below HB4.out.size (fun i hi => by omega)))
    have HBLM := Lib.hid (show blame l lo hi = (iota l.length).filter (blIn l lo hi (perms l.length)) from rfl)
    obtain ⟨f, hf⟩ : ∃ f, blIn l lo hi (perms l.length) = f := ⟨_, rfl⟩
    rw [hf] at HFN HBLM
    have hc0 := blk_cell HFN.out 0
    have hc1 := blk_cell HFN.out 1
    have hc2 := blk_cell HFN.out 2
    have hc3 := blk_cell HFN.out 3
    have hc4 := blk_cell HFN.out 4
    have hc5 := blk_cell HFN.out 5
    have hc6 := blk_cell HFN.out 6
    rw [marksB_at f 0 (by omega)] at hc0
    rw [marksB_at f 1 (by omega)] at hc1
    rw [marksB_at f 2 (by omega)] at hc2
    rw [marksB_at f 3 (by omega)] at hc3
    rw [marksB_at f 4 (by omega)] at hc4
    rw [marksB_at f 5 (by omega)] at hc5
    rw [marksB_at f 6 (by omega)] at hc6
    have heq := fun W => run_eql_marks (f (0 : Nat)) (f (1 : Nat)) (f (2 : Nat)) (f (3 : Nat)) (f (4 : Nat)) (f (5 : Nat)) (f (6 : Nat)) W
    have hix : ∀ (k : Nat) (W : World), k < 7 → (Instr.index 87 (.agg #[.int .i64 (if f (0 : Nat) then 1 else 0), .int .i64 (if f (1 : Nat) then 1 else 0), .int .i64 (if f (2 : Nat) then 1 else 0), .int .i64 (if f (3 : Nat) then 1 else 0), .int .i64 (if f (4 : Nat) then 1 else 0), .int .i64 (if f (5 : Nat) then 1 else 0), .int .i64 (if f (6 : Nat) then 1 else 0)]) (.int .i64 (k : Int))).run Try.prog W = .ok (.int .i64 (if f k then 1 else 0)) W := by
      intro k W hk
      rcases (show k = 0 ∨ k = 1 ∨ k = 2 ∨ k = 3 ∨ k = 4 ∨ k = 5 ∨ k = 6 by omega) with rfl | rfl | rfl | rfl | rfl | rfl | rfl <;> kernel_rfl
    obtain ⟨z, hz⟩ : ∃ z, (!f (0 : Nat) && !f (1 : Nat) && !f (2 : Nat) && !f (3 : Nat) && !f (4 : Nat) && !f (5 : Nat) && !f (6 : Nat)) = z := ⟨_, rfl⟩
    obtain ⟨m0, hm0⟩ : ∃ m : Int, (if f (0 : Nat) = true then 1 else 0) = m := ⟨_, rfl⟩
    obtain ⟨m1, hm1⟩ : ∃ m : Int, (if f (1 : Nat) = true then 1 else 0) = m := ⟨_, rfl⟩
    obtain ⟨m2, hm2⟩ : ∃ m : Int, (if f (2 : Nat) = true then 1 else 0) = m := ⟨_, rfl⟩
    obtain ⟨m3, hm3⟩ : ∃ m : Int, (if f (3 : Nat) = true then 1 else 0) = m := ⟨_, rfl⟩
    obtain ⟨m4, hm4⟩ : ∃ m : Int, (if f (4 : Nat) = true then 1 else 0) = m := ⟨_, rfl⟩
    obtain ⟨m5, hm5⟩ : ∃ m : Int, (if f (5 : Nat) = true then 1 else 0) = m := ⟨_, rfl⟩
    obtain ⟨m6, hm6⟩ : ∃ m : Int, (if f (6 : Nat) = true then 1 else 0) = m := ⟨_, rfl⟩
    rw [hm0] at hc0
    rw [hm1] at hc1
    rw [hm2] at hc2
    rw [hm3] at hc3
    rw [hm4] at hc4
    rw [hm5] at hc5
    rw [hm6] at hc6
    simp only [hm0, hm1, hm2, hm3, hm4, hm5, hm6, hz] at heq hix
    have HZ := Lib.hid hz
    have HFE := Lib.hid hf
    clear hm0 hm1 hm2 hm3 hm4 hm5 hm6 hz hfn hck hks hD h4 hf
    cases z
    · gi_wp2_with fail
      obtain ⟨i0, hin, hz0, hz1, hz2⟩ := info_parts infoInt
      gi_loopw [14, 69] (fun u i wr => ∃ k : Nat, k ≤ 7 ∧ i = .int .i64 k ∧ Hid (Kd.R (Kd.int .i64) 3 wr W.heap.size (fun _ => True) u (outUpto f k)) ∧ Hid (Below W.heap.size W wr)) (fun _ i _ => 7 - (intOf i).toNat)
      case atStart => exact ⟨0, Nat.zero_le _, rfl, Lib.hid (Kd.R_nil _ _ _ _ _), Lib.hid (Below.refl _ _)⟩
      case round =>
        obtain ⟨k, hk, rfl, HU, HW⟩ := hrel
        have hws : W.heap.size ≤ wr.heap.size := HW.out.size
        clear hc0 hc1 hc2 hc3 hc4 hc5 hc6 heq
        by_cases hlt : k < 7
        · have e0 : ((k + 1 : Nat) : Int) = (k : Int) + 1 := by omega
          have HE0 := Lib.hid e0
          have hixk := fun W => hix k W hlt
          have HSU := Lib.hid (outUpto_succ f k)
          have hul : (outUpto f k).length ≤ 7 := Nat.le_trans (outUpto_len _ _) (by omega)
          clear e0 hix
          cases hfk : f (k : Int)
          · rw [hfk] at hixk
            have hixk : ∀ W, _ = Result.ok (Value.int .i64 0) W := hixk
            have HFK := Lib.hid hfk
            clear hfk
            gi_wp2
            go_roundw
            case rel => exact ⟨k + 1, by omega, HE0.out ▸ rfl, Lib.hid (by rw [HSU.out, HFK.out]; simpa using HU.out), HW⟩
            case measure => simp [intOf]; omega
          · rw [hfk] at hixk
            have hixk : ∀ W, _ = Result.ok (Value.int .i64 1) W := hixk
            have HFK := Lib.hid hfk
            clear hfk
            rcases R_olds HU.out with ⟨hv, hnil⟩ | ⟨g, cap, hv, hcap, hold⟩
            · have HNIL := Lib.hid hnil
              subst hv
              clear hnil
              gi_wp2_with (gi_at_builtin; refine wpListIn_append_grows _ rfl (.tmp 80) (.tmp 82) 27 rfl 3 i0 (.int .i64 0) 1 8 Try.underlying27 hin hz0 hz1 hz2 rfl (by decide) none 0 0 [] rfl (fun _ => ⟨rfl, rfl⟩) rfl (fun _ h => by cases h) ⟨wr.heap.size, 0, none⟩ 1 1 [.int .i64 (k : Int)] rfl rfl (cell_one_new _ _ _) (by simp [Value.oneCell']) (by omega) (by unfold maxLen; omega) (by omega) ?_; intro v' w5 hown hgrow; have HOW := Lib.hid hown; have HGR := Lib.hid hgrow; clear hown hgrow)
              go_roundw
              case rel => exact ⟨k + 1, by omega, HE0.out ▸ rfl, Lib.hid (by
                rw [HSU.out, HFK.out, HNIL.out]
                exact Kd.R_lower (Kd.R_of_own HOW.out (fun _ _ => trivial)) (by simp; omega)), Lib.hid ((HW.out.alloc hws _).grown HGR.out (by simp; omega) (fun k e => by cases e))⟩
              case measure => simp [intOf]; omega
            · have HOLD := Lib.hid hold
              have hlen := hul
              obtain ⟨ys, hys⟩ : ∃ ys, outUpto f k = ys := ⟨_, rfl⟩
              rw [hys] at HOLD HSU hlen hv hcap
              subst hv
              obtain ⟨n, hn⟩ : ∃ n, ys.length = n := ⟨_, rfl⟩
              have HN := Lib.hid hn
              rw [hn] at hlen hcap ⊢
              clear hold hys hul hn
              gi_wp2_with (gi_at_builtin; refine wpListIn_append_grows _ rfl (.tmp 80) (.tmp 82) 27 rfl 3 i0 (.int .i64 0) 1 8 Try.underlying27 hin hz0 hz1 hz2 rfl (by decide) (some ⟨g, 0, none⟩) n n (ys.map (Value.int .i64)) rfl (by intro h; cases h) (by simp [HN.out]) (fun b hb j u hj => by
                obtain rfl := Option.some.inj hb
                rw [add_plain]
                exact ((ba (b0 wr) _).cell (World.block_lt_of_cell? wr _ (HOLD.out j u hj))).trans (HOLD.out j u hj)) ⟨wr.heap.size, 0, none⟩ 1 1 [.int .i64 (k : Int)] rfl rfl (cell_one_new _ _ _) (by simp [Value.oneCell']) (by omega) (by unfold maxLen; omega) (by omega) ?_; intro v' w5 hown hgrow; have HOW := Lib.hid hown; have HGR := Lib.hid hgrow; clear hown hgrow)
              go_roundw
              case rel => exact ⟨k + 1, by omega, HE0.out ▸ rfl, Lib.hid (by
                rw [HSU.out, HFK.out]
                have h := HOW.out
                rw [← HN.out] at h
                have h2 : w5.ownsRow (wr.heap.size + 1) 3 1 v' (ys ++ [(k : Int)]).length (encs (Value.int .i64) (ys ++ [(k : Int)])) := by simpa [encs] using h
                exact Kd.R_lower (Kd.R_of_own h2 (fun _ _ => trivial)) (by omega)), Lib.hid ((HW.out.alloc hws _).grown HGR.out (by simp; omega) (fun k e => by cases e))⟩
              case measure => simp [intOf]; omega
        · obtain rfl : k = 7 := by omega
          have HDw := Lib.hid (blk_below HD.out HW.out)
          have hdl := blk_lt HD.out
          have hwl := blk_lt HDw.out
          have h4w : w.heap.size ≤ w4.heap.size := HB4.out.size
          have HALL := Lib.hid (show blame l lo hi = outUpto f 7 by
            rw [HBLM.out]
            refine (outUpto_more f l.length (fun k hk => ?_) 7 hl7).symm
            rw [← HFE.out]
            unfold blIn
            rw [List.any_eq_false]
            intro o ho
            have hord := Plain.perms_ord ho
            unfold blBy
            rw [List.any_eq_true]
            rintro ⟨i, hi, h⟩
            unfold iota at hi
            obtain ⟨j, hj, rfl⟩ := List.mem_map.1 hi
            have hj2 := List.mem_range.1 hj
            have := Plain.ord_get hord j hj2
            simp only [Bool.and_eq_true, beq_iff_eq] at h
            rw [Plain.rd_get hj2] at h
            omega)
          gi_wp2
          refine ⟨by simp, .inl ⟨_, _, rfl, run_takeDeferred HDw.out, ?_⟩⟩
          refine ⟨_, results_tmp2 rfl _ _ _, _, rfl, ?_, ?_⟩
          · rw [HALL.out]
            exact Kd.R_lower (Kd.R_mono (Kd.R_move (Kd.R_bound HU.out) (fun k hk => World.putObj_heap_other (by have := hk.2.1; omega))) (fun _ _ => trivial)) HB.out.size
          · exact (bt HB.out HW.out).trans (((KS.refl (fun k => k = w4.heap.size) wr).putObj (fun _ => rfl) _).below (by omega) (fun i hi => by omega))
    · have hdl := blk_lt HD.out
      have h4w : w.heap.size ≤ w4.heap.size := HB4.out.size
      have HALL := Lib.hid (show blame l lo hi = [] by
        rw [HBLM.out, List.filter_eq_nil_iff]
        intro s hs
        unfold iota at hs
        obtain ⟨j, hj, rfl⟩ := List.mem_map.1 hs
        have hj2 := List.mem_range.1 hj
        have h := HZ.out
        simp only [Bool.and_eq_true, Bool.not_eq_true'] at h
        obtain ⟨⟨⟨⟨⟨⟨g0, g1⟩, g2⟩, g3⟩, g4⟩, g5⟩, g6⟩ := h
        intro e
        rcases (show j = 0 ∨ j = 1 ∨ j = 2 ∨ j = 3 ∨ j = 4 ∨ j = 5 ∨ j = 6 by omega) with rfl | rfl | rfl | rfl | rfl | rfl | rfl
        · rw [g0] at e; cases e
        · rw [g1] at e; cases e
        · rw [g2] at e; cases e
        · rw [g3] at e; cases e
        · rw [g4] at e; cases e
        · rw [g5] at e; cases e
        · rw [g6] at e; cases e)
      gi_wp2
      refine ⟨by simp, .inl ⟨_, _, rfl, run_takeDeferred HD.out, ?_⟩⟩
      refine ⟨_, results_tmp2 rfl _ _ _, _, rfl, ?_, ?_⟩
      · rw [HALL.out]
        exact Kd.R_nil _ _ _ _ _
      · exact HB.out.trans (((KS.refl (fun k => k = w4.heap.size) W).putObj (fun _ => rfl) _).below HB.out.size (fun i hi => by omega))
end Go.Proofs.Ytehfhbdhdbpfpaa.Own
namespace Go.Proofs.Ytehfhbdhdbpfpaa.Gen
open Go.RowKit Go.Proofs.YtehfhbdhdbpfpaaW.PrintWords Go.Proofs.YtehfhbdhdbpfpaaW.PrintLast Go.Proofs.YtehfhbdhdbpfpaaW.PrintMore Go.Proofs.Ytehfhbdhdbpfpaa.Print Go.Proofs.Ytehfhbdhdbpfpaa.Spec Go.Proofs.Ytehfhbdhdbpfpaa.Own
set_option linter.unusedVariables false
theorem curl_Blame.calls (A0_0 : Option Addr) (c0_0 : Nat) (l0_0 : List (S52)) (a0_1 : Int) (a0_2 : Int) (r1 : List Int) (r2 : Int) (w : World) (hr0_0 : Kd.C k52 w A0_0 l0_0.length l0_0) (hc0_0 : l0_0.length ≤ c0_0) (h : curl_Blame.f l0_0 a0_1 a0_2 = some (r1, r2)) :
    Calls Try.prog 25 #[.agg #[.slice A0_0 l0_0.length c0_0, .int .i64 a0_1, .int .i64 a0_2]] w fun e w' => ∃ v0_ : Value, e = .returned (.tuple #[v0_, .int .i64 r2]) ∧ Kd.R (Kd.int .i64) 3 w' w.heap.size (fun _ => True) v0_ r1 ∧ Below w.heap.size w w' := by
  unfold curl_Blame.f at h
  rw [Option.some.injEq] at h
  by_cases hx : panel l0_0 a0_1 a0_2 = 0
  · rw [if_pos hx] at h
    simp only [Prod.mk.injEq] at h
    obtain ⟨rfl, rfl⟩ := h
    exact Blame_ok A0_0 c0_0 l0_0 a0_1 a0_2 w hr0_0 hx
  · rw [if_neg hx] at h
    simp only [Prod.mk.injEq] at h
    obtain ⟨rfl, rfl⟩ := h
    refine (Blame_err A0_0 c0_0 l0_0 a0_1 a0_2 _ w hr0_0 rfl hx).mono ?_
    rintro e w' ⟨rfl, hb⟩
    exact ⟨_, rfl, Kd.R_nil _ _ _ _ _, hb⟩
end Go.Proofs.Ytehfhbdhdbpfpaa.Gen
