/- Parts of a proof: C15. No condition. -/
import Derived.Test.YtehfhbdhdbpfpaaYPan14
import Derived.ArgAppend
namespace Go.Proofs.Ytehfhbdhdbpfpaa.Own
end Go.Proofs.Ytehfhbdhdbpfpaa.Own
namespace Go.Proofs.Ytehfhbdhdbpfpaa.Print
end Go.Proofs.Ytehfhbdhdbpfpaa.Print
namespace Go.Proofs.Ytehfhbdhdbpfpaa.Spec
end Go.Proofs.Ytehfhbdhdbpfpaa.Spec
namespace Go.Proofs.YtehfhbdhdbpfpaaW.PrintLast
end Go.Proofs.YtehfhbdhdbpfpaaW.PrintLast
namespace Go.Proofs.YtehfhbdhdbpfpaaW.PrintMore
end Go.Proofs.YtehfhbdhdbpfpaaW.PrintMore
namespace Go.Proofs.YtehfhbdhdbpfpaaW.PrintWords
end Go.Proofs.YtehfhbdhdbpfpaaW.PrintWords
set_option linter.unusedVariables false
set_option linter.unusedSimpArgs false
namespace Go.Proofs.Ytehfhbdhdbpfpaa.Own
open Go.RowKit Go.Shelf Go.Proofs.YtehfhbdhdbpfpaaW.PrintWords Go.Proofs.YtehfhbdhdbpfpaaW.PrintLast Go.Proofs.YtehfhbdhdbpfpaaW.PrintMore Go.Proofs.Ytehfhbdhdbpfpaa.Print Go.Proofs.Ytehfhbdhdbpfpaa.Spec
set_option linter.unusedVariables false
set_option linter.unusedSimpArgs false
def ShRow (g cap : Nat) (l : List Sh) (W : World) : Prop :=
  ∃ cur, W.heap[g]? = some (.cells cur 52 (0, 0)) ∧ cur.size = cap * 2 ∧ l.length ≤ cap ∧ l.length ≤ 9223372036854775807 ∧ ∀ k (hk : k < l.length), cur[k * 2]? = some (.int .i64 l[k].f0) ∧ cur[k * 2 + 1]? = some (.int .i64 l[k].f1)
theorem ShRow.lt {g cap : Nat} {l : List Sh} {W : World} (h : ShRow g cap l W) : g < W.heap.size := by obtain ⟨cur, h1, _⟩ := h; exact blk_lt h1
theorem ShRow.keep {g cap : Nat} {l : List Sh} {W W' : World} (h : ShRow g cap l W) (hk : W'.heap[g]? = W.heap[g]?) : ShRow g cap l W' := by
  obtain ⟨cur, h1, r⟩ := h
  exact ⟨cur, hk.trans h1, r⟩
theorem ShRow.reads {g cap : Nat} {l : List Sh} {W : World} (h : ShRow g cap l W) : Kd.C k52 W (some ⟨g, 0, none⟩) l.length l := by
  obtain ⟨cur, h1, h2, h3, h4, h5⟩ := h
  refine ⟨rfl, h4, fun hn => ⟨_, rfl, fun j p hj => ?_⟩⟩
  obtain ⟨hl, hp⟩ := List.getElem?_eq_some_iff.1 hj
  subst hp
  obtain ⟨e0, e1⟩ := h5 j hl
  refine ⟨_, rfl, k52_mk W l[j], fun i u hu => ?_⟩
  rw [add_plain, blk_cell h1]
  match i, hu with
  | 0, hu => rw [← hu]; exact e0
  | 1, hu => rw [← hu]; exact e1
theorem ShRow.set {g cap : Nat} {l : List Sh} {W : World} (h : ShRow g cap l W) (k : Nat) (hk : k < l.length) (s : Sh) :
    ShRow g cap (l.set k s) ((W.setCell ⟨g, k * 2, none⟩ (.int .i64 s.f0)).setCell ⟨g, k * 2 + 1, none⟩ (.int .i64 s.f1)) := by
  obtain ⟨cur, h1, h2, h3, h4, h5⟩ := h
  refine ⟨_, blk_put (blk_put h1 (k * 2) _ rfl) (k * 2 + 1) _ rfl, by simpa using h2, by simpa using h3, by simpa using h4, fun j hj => ?_⟩
  have hj' : j < l.length := by simpa using hj
  obtain ⟨e0, e1⟩ := h5 j hj'
  simp only [Array.getElem?_setIfInBounds, Array.size_setIfInBounds]
  by_cases e : j = k
  · subst e
    rw [List.getElem_set_self]
    constructor
    · rw [if_neg (by omega), if_pos rfl, if_pos (by omega)]
    · rw [if_pos rfl, if_pos (by omega)]
  · rw [List.getElem_set_ne (by omega)]
    constructor
    · rw [if_neg (by omega), if_neg (by omega)]; exact e0
    · rw [if_neg (by omega), if_neg (by omega)]; exact e1
theorem shRow_of_own {w : World} {base g cap n : Nat} {l : List Sh} {inner : List Value} (h : w.ownsRow base 52 2 (.slice (some ⟨g, 0, none⟩) n cap) n inner) (hn : l.length = n) (hm : n ≤ 9223372036854775807)
    {w0 : World} (hr : Reps (k52.K w0) 2 l inner) : ShRow g cap l w := by
  rcases h.2 with ⟨h1, _⟩ | ⟨g', cap', cur, h1, hb, hh, hle, _, hsz, htk⟩
  · cases h1
  · simp only [Value.slice.injEq, Option.some.injEq, Addr.mk.injEq, and_true] at h1
    obtain ⟨rfl, _, rfl⟩ := h1
    refine ⟨cur, hh, hsz, by omega, by omega, fun k hk => ?_⟩
    have h3 := k52_open (hr.2 k l[k] (List.getElem?_eq_getElem hk))
    have h4 : ∀ i, i < 2 → cur[k * 2 + i]? = ([.int .i64 l[k].f0, .int .i64 l[k].f1] : List Value)[i]? := by
      intro i hi
      rw [← h3, List.getElem?_take, if_pos hi, List.getElem?_drop, ← htk, List.getElem?_take, if_pos (by omega)]
      simp
    exact ⟨by simpa using h4 0 (by omega), by simpa using h4 1 (by omega)⟩
theorem infoSh : (Try.prog.info? 52).map (fun i => (i.zero, i.size, i.bytes)) = some (some (.agg #[.int .i64 0, .int .i64 0]), 2, 16) := by kernel_rfl
theorem rowSh : Try.prog.underlying 22 = some (.slice 52) := by kernel_rfl
set_option maxRecDepth 100000 in
set_option maxHeartbeats 1000000 in
theorem clone_calls (A : Option Addr) (c : Nat) (l : List Sh) (w : World) (hr : Kd.C k52 w A l.length l) (h0 : 1 ≤ l.length) (h7 : l.length ≤ 7) :
    Calls Try.prog 51 #[.slice A l.length c] w
      fun e w' => ∃ g cap, e = .returned (.slice (some ⟨g, 0, none⟩) l.length cap) ∧ ShRow g cap l w' ∧ w.heap.size ≤ g ∧ Below w.heap.size w w' := by
  obtain ⟨i0, hi, hz0, hz1, hz2⟩ := info_parts infoSh
  obtain ⟨ad, rfl, _⟩ := hr.2.2 (by omega)
  obtain ⟨inner, hreps, hcells⟩ := ReadsRow.inner_ hr
  have hsz2 : k52.sz = 2 := rfl
  rw [hsz2] at hreps
  have heq := _root_.Go.Lib.run_eql_slice_nil (P := Try.prog) w 22 52 (some ad) l.length c 0 0 rowSh
  have HI := Lib.hid (⟨hreps, hcells⟩ : _ ∧ _)
  have hone : ∀ u ∈ inner, u.oneCell' = true := by
    intro u hu
    obtain ⟨j, hj, rfl⟩ := List.mem_iff_getElem.1 hu
    have hl := hreps.1
    have hk : j / 2 < l.length := by
      have : j < l.length * 2 := by rw [hl] at hj; exact hj
      omega
    have h3 := k52_open (hreps.2 (j / 2) l[j / 2] (List.getElem?_eq_getElem hk))
    have h4 : inner[j]? = ([.int .i64 l[j / 2].f0, .int .i64 l[j / 2].f1] : List Value)[j % 2]? := by
      rw [← h3, List.getElem?_take, if_pos (show j % 2 < 2 by omega), List.getElem?_drop]
      congr 1
      omega
    rw [List.getElem?_eq_getElem hj] at h4
    rcases (show j % 2 = 0 ∨ j % 2 = 1 by omega) with e | e <;> rw [e] at h4 <;> simp at h4 <;> rw [h4] <;> rfl
  have HONE := Lib.hid hone
  clear hr hreps hcells hone hsz2
  go_enter Try.func51, Try.ntmps51
  have hil := HI.out.1.1
  have hcw : ∀ j u, inner[j]? = some u → (w.alloc (.cells #[] 52)).cell? (ad.add j) = some u := fun j u hj => (pw_cell_below (ba (b0 w) _) (HI.out.2 j u hj))
  have HCW := Lib.hid hcw
  have HIL := Lib.hid (show inner.length = l.length * 2 from hil)
  clear hil hcw
  go_wp2_with (at_builtin; refine wpList_append_grows _ rfl (.tmp 5) (.tmp 6) 22 rfl 52 i0 (.agg #[.int .i64 0, .int .i64 0]) 2 16 rowSh hi hz0 hz1 hz2 rfl (by decide) (some ⟨w.heap.size, 0, none⟩) 0 0 [] rfl (by intro h; cases h) rfl (fun b _ j u h => by simp at h) ad l.length c inner rfl HIL.out HCW.out HONE.out (by omega) (by unfold maxLen; omega) (by omega) ?_; intro v' w1 hown hgrow; obtain ⟨g, cap, hv⟩ : ∃ g cap, v' = .slice (some ⟨g, 0, none⟩) l.length cap := (by rcases hown.2 with ⟨_, h⟩ | ⟨g, cap, _, h, _⟩; omega; exact ⟨g, cap, by rw [h]; simp⟩); subst hv; have HOWN := Lib.hid hown; have HGROW := Lib.hid hgrow; clear hown hgrow)
  go_ret
  have hown := HOWN.out
  rw [List.nil_append, Nat.zero_add] at hown
  have hb : Below w.heap.size w w1 := (ba (b0 w) (.cells #[] 52)).trans ⟨HGROW.out.os, HGROW.out.tape, HGROW.out.output, HGROW.out.size, fun i hi => HGROW.out.block i (by simp; omega) (by simp)⟩
  exact ⟨g, cap, rfl, shRow_of_own hown rfl (by omega) HI.out.1, by have := own_base hown g rfl; simp at this; omega, hb⟩
set_option maxRecDepth 100000 in
set_option maxHeartbeats 1600000 in
theorem CheckCure_err (A : Option Addr) (c : Nat) (l : List Sh) (lo hi : Int) (A1 : Option Addr) (c1 : Nat) (o : List Int) (v : Value) (x : Int) (w : World) (hr : Kd.C k52 w A l.length l)
    (hr1 : Kd.C (Kd.int .i64) w A1 o.length o) (hlen : o.length ≤ 12) (hx : opened l lo hi o = x) (h0 : x ≠ 0) :
    Calls Try.prog 23 #[.agg #[.slice A l.length c, .int .i64 lo, .int .i64 hi], .slice A1 o.length c1, v] w fun e w' => e = .returned (.tuple #[.int .i64 0, .int .i64 x]) ∧ Below w.heap.size w w' := by
  have HR := Lib.hid hr
  have HR1 := Lib.hid hr1
  have HX := Lib.hid hx
  have hxb : (x != 0) = true := by simpa using h0
  clear hr hr1 hx
  go_enter Try.func23, Try.ntmps23
  go_wp2_with fail
  refine (open1_err A c l lo hi A1 c1 o (w.heap.size + 1) x _ (Kd.C_below HR.out (ba (ba (b0 w) _) _)) (Kd.C_below HR1.out (ba (ba (b0 w) _) _)) hlen (by simp) HX.out h0).mono ?_
  rintro e w1 ⟨rfl, hb1⟩
  go_wp2
  go_ret2
  exact ⟨rfl, bt (ba (ba (b0 w) _) _) hb1⟩
theorem C_cellCh {w : World} {A : Option Addr} {l : List Ch} (hr : Kd.C k54 w A l.length l) (k : Nat) (hk : k < l.length) :
    ∃ ad, A = some ad ∧ w.cell? (ad.add (k * 3)) = some (.int .i64 l[k].f0) ∧ w.cell? ⟨(ad.add (k * 3)).block, (ad.add (k * 3)).off + 1, none⟩ = some (.int .i64 l[k].f1.f0) ∧ w.cell? ⟨(ad.add (k * 3)).block, (ad.add (k * 3)).off + 2, none⟩ = some (.int .i64 l[k].f1.f1) := by
  obtain ⟨ad, h1, h2, h3, h4⟩ := at_T54 hr (k : Int) (by omega) (by omega)
  have e : rd_T54 l (k : Int) = l[k] := by simp [rd_T54, List.getD_eq_getElem?_getD, hk]
  rw [e] at h2 h3 h4
  exact ⟨ad, h1, by simpa using h2, by simpa using h3, by simpa using h4⟩
theorem changed_push (l : List Sh) (pre : List Ch) (c : Ch) : changed l (pre ++ [c]) = (changed l pre).set c.f0.toNat c.f1 := by
  unfold changed
  rw [List.foldl_append]; rfl
theorem good_set {l : List Sh} (hg : Plain.Good l) (k : Nat) (s : Sh) (hs : shOk s = true) : Plain.Good (l.set k s) := by
  have h : 0 ≤ s.f0 ∧ s.f0 ≤ 100 ∧ -10 ≤ s.f1 ∧ s.f1 ≤ 10 := by
    unfold shOk at hs
    simp only [Bool.and_eq_true, decide_eq_true_eq] at hs
    omega
  refine ⟨by simpa using hg.1, by simpa using hg.2.1, fun i hi => ?_⟩
  rw [List.getElem_set]
  split
  · exact h
  · exact hg.2.2 i (by simpa using hi)
def cureAns (l : List Sh) (lo hi : Int) (o : List Int) (ch : List Ch) : Int × Int := if okCh l.length 0 ch = true then (if 0 < curlV (changed l ch) lo hi o then (0, 23) else ((ch.length : Int), 0)) else (0, 3)
set_option maxRecDepth 100000 in
set_option maxHeartbeats 4000000 in
theorem CheckCure_ok (A : Option Addr) (c : Nat) (l : List Sh) (lo hi : Int) (A1 : Option Addr) (c1 : Nat) (o : List Int) (A2 : Option Addr) (c2 : Nat) (ch : List Ch) (w : World) (hr : Kd.C k52 w A l.length l)
    (hr1 : Kd.C (Kd.int .i64) w A1 o.length o) (hr2 : Kd.C k54 w A2 ch.length ch) (hlen : o.length ≤ 12) (hx : opened l lo hi o = 0) :
    Calls Try.prog 23 #[.agg #[.slice A l.length c, .int .i64 lo, .int .i64 hi], .slice A1 o.length c1, .slice A2 ch.length c2] w
      fun e w' => e = .returned (.tuple #[.int .i64 (cureAns l lo hi o ch).1, .int .i64 (cureAns l lo hi o ch).2]) ∧ Below w.heap.size w w' := by
  have hm : ch.length ≤ 9223372036854775807 := hr2.2.1
  have HR := Lib.hid hr
  have HR1 := Lib.hid hr1
  have HR2 := Lib.hid hr2
  have HX := Lib.hid hx
  obtain ⟨hgd, hlo0, hlh, hhi, _⟩ := Plain.good_of_panel (opened_zero hx).1
  have hl7 := hgd.1
  have hl3 := hgd.2.1
  have HG := Lib.hid hgd
  clear hr hr1 hr2 hx hgd
  go_enter Try.func23, Try.ntmps23
  go_wp2_with fail
  refine (open1_good A c l lo hi A1 c1 o (w.heap.size + 1) _ (Kd.C_below HR.out (ba (ba (b0 w) _) _)) (Kd.C_below HR1.out (ba (ba (b0 w) _) _)) hlen (by simp) HX.out).mono ?_
  rintro e w1 ⟨pb, mb, rfl, hp, hm1, hpl, hml, hne, hb1⟩
  have HB1 := Lib.hid (bt (ba (ba (b0 w) _) _) hb1)
  have hp0 : w1.cell? ⟨w.heap.size, 0, none⟩ = some (.slice A l.length c) := (hb1.cell (by simp; omega)).trans (by simp)
  have HP := Lib.hid hp
  have hc0 : w1.cell? ⟨pb, 0, none⟩ = some (.slice A l.length c) := blk_cell hp 0
  have hpw := blk_lt hp
  simp at hpl
  clear hp hm1 hb1
  go_wp2_with fail
  refine (clone_calls A c l w1 (Kd.C_below HR.out HB1.out) (by omega) hl7).mono ?_
  rintro e w2 ⟨g, cap, rfl, hrow, hg, hb2⟩
  obtain ⟨w3, hw3⟩ : ∃ w3, w2.setCell ⟨pb, 0, none⟩ (.slice (some ⟨g, 0, none⟩) l.length cap) = w3 := ⟨_, rfl⟩
  have hP2 := blk_below HP.out hb2
  have hc2 : w2.cell? ⟨pb, 0, none⟩ = some (.slice A l.length c) := blk_cell hP2 0
  have hf2 := blk_frozen hP2 0
  have HB3 := Lib.hid (show Below w.heap.size w w3 by rw [← hw3]; exact (bt HB1.out hb2).setCell (p := ⟨pb, 0, none⟩) (by simp; omega) _)
  have HP3 := Lib.hid (show w3.heap[pb]? = some (.cells (pressCells (some ⟨g, 0, none⟩) cap l lo hi mb) 84 (0, 0)) by rw [← hw3]; exact blk_put hP2 0 _ rfl)
  have HS3 := Lib.hid (show ShRow g cap l w3 by rw [← hw3]; exact hrow.keep (Below.heap_setCell _ _ _ _ (by show g ≠ pb; omega)))
  have HQ3 := Lib.hid (show w3.cell? ⟨w.heap.size, 0, none⟩ = some (.slice A l.length c) by
    rw [← hw3]; exact (cell_far (by show w.heap.size ≠ pb; omega) _).trans ((hb2.cell (p := ⟨w.heap.size, 0, none⟩) (by show w.heap.size < _; omega)).trans hp0))
  have hpg : pb ≠ g := by omega
  have hwg : w.heap.size + 1 < g := by omega
  clear hrow hb2 hP2 hc0 hp0
  go_wp2_with fail
  clear hc2 hf2 hw3
  go_loopw [10, 35] (fun x i wr => ∃ k : Nat, k ≤ ch.length ∧ i = .int .i64 k ∧ ∃ xv : Int, x = .int .i64 xv ∧ 0 ≤ xv ∧ xv ≤ 7 ∧ Hid (okCh l.length 0 ch = okCh l.length xv (ch.drop k)) ∧ Hid (ShRow g cap (changed l (ch.take k)) wr) ∧ Hid (Plain.Good (changed l (ch.take k)) ∧ (changed l (ch.take k)).length = l.length) ∧ Hid (KS (fun i => i = g) w3 wr)) (fun _ i _ => ch.length - (intOf i).toNat)
  case atStart => exact ⟨0, Nat.zero_le _, rfl, 0, rfl, by omega, by omega, Lib.hid rfl, HS3, Lib.hid ⟨HG.out, rfl⟩, Lib.hid (KS.refl _ _)⟩
  case round =>
    obtain ⟨k, hk, rfl, xv, rfl, hx0, hx7, HOK, HS, HGC, HK⟩ := hrel
    have HBr := Lib.hid (HB3.out.trans (HK.out.below HB3.out.size (fun i hi => by omega)))
    have hq : wr.cell? ⟨w.heap.size, 0, none⟩ = some (.slice A l.length c) := HK.out.cell HQ3.out (by show w.heap.size ≠ g; omega)
    have HPr := Lib.hid (HK.out.blk HP3.out hpg)
    have hgl := HS.out.lt
    have hwl : w.heap.size ≤ wr.heap.size := HBr.out.size
    clear HS3 HQ3
    by_cases hlt : k < ch.length
    · obtain ⟨ad, rfl, hd0, hd1, hd2⟩ := C_cellCh (Kd.C_below HR2.out HBr.out) k hlt
      have HDR := Lib.hid (show ch.drop k = ch[k] :: ch.drop (k + 1) from List.drop_eq_getElem_cons hlt)
      obtain ⟨⟨f, s⟩, hfs⟩ : ∃ y, ch[k] = y := ⟨_, rfl⟩
      rw [hfs] at hd0 hd1 hd2 HDR
      have HFS := Lib.hid hfs
      clear hfs
      have HOK1 := Lib.hid (show okCh l.length 0 ch = (decide (xv ≤ f) && decide (f ≤ (l.length : Int) - 1) && shOk s && okCh l.length (f + 1) (ch.drop (k + 1))) by rw [HOK.out, HDR.out]; rfl)
      have hin1 := inB_one xv ((l.length : Int) - 1) f
      have e0 : ((k + 1 : Nat) : Int) = (k : Int) + 1 := by omega
      have HE0 := Lib.hid e0
      have HIN := Lib.hid hin1
      clear e0 hin1
      obtain ⟨w5, hw5⟩ : ∃ w5, wr.alloc (.cells #[.int .i64 f, .int .i64 s.f0, .int .i64 s.f1] 54) = w5 := ⟨_, rfl⟩
      have hb5 : Below wr.heap.size wr w5 := by rw [← hw5]; exact ba (b0 wr) _
      have hD5 : w5.heap[wr.heap.size]? = some (.cells #[.int .i64 f, .int .i64 s.f0, .int .i64 s.f1] 54 (0, 0)) := by rw [← hw5]; exact World.alloc_heap_new wr _
      have hq5 : w5.cell? ⟨w.heap.size, 0, none⟩ = some (.slice A l.length c) := (hb5.cell (by show w.heap.size < _; omega)).trans hq
      have he0 : w5.cell? ⟨wr.heap.size, 0, none⟩ = some (.int .i64 f) := blk_cell hD5 0
      have HB5 := Lib.hid hb5
      have HD5 := Lib.hid hD5
      have hs5 : wr.heap.size < w5.heap.size := blk_lt hD5
      clear hb5 hD5
      cases hin : inB xv ((l.length : Int) - 1) [f]
      · have HI := Lib.hid hin
        clear hin
        go_wp2_with fail
        refine (within_calls (some ⟨w5.heap.size, 0, none⟩) 1 [f] xv ((l.length : Int) - 1) _ (C_one (by simp))).mono ?_
        rintro e w6 ⟨rfl, hb6⟩
        rw [HI.out]
        go_wp2
        go_ret2
        have hno : okCh l.length 0 ch = false := by
          rw [HOK1.out]
          have h1 := HIN.out
          rw [HI.out] at h1
          rw [← h1]; rfl
        exact ⟨by unfold cureAns; rw [hno]; rfl, bt (ba (bt HBr.out HB5.out) _) hb6⟩
      · have HI := Lib.hid hin
        clear hin
        have hfb : xv ≤ f ∧ f ≤ (l.length : Int) - 1 := by
          have h1 := HIN.out
          rw [HI.out] at h1
          simpa using h1.symm
        cases hst : shOk s
        · have HST := Lib.hid hst
          clear hst
          go_wp2_with fail
          refine (within_calls (some ⟨w5.heap.size, 0, none⟩) 1 [f] xv ((l.length : Int) - 1) _ (C_one (by simp))).mono ?_
          rintro e w6 ⟨rfl, hb6⟩
          rw [HI.out]
          have hD6 := blk_below (blk_below HD5.out (ba (b0 w5) (.cells #[.int .i64 f] 2))) hb6
          have hg0 : w6.cell? ⟨wr.heap.size, 0, none⟩ = some (.int .i64 f) := blk_cell hD6 0
          have hg1 : w6.cell? ⟨wr.heap.size, 1, none⟩ = some (.int .i64 s.f0) := blk_cell hD6 1
          have hg2 : w6.cell? ⟨wr.heap.size, 2, none⟩ = some (.int .i64 s.f1) := blk_cell hD6 2
          have HB6 := Lib.hid (bt (ba (bt HBr.out HB5.out) _) hb6)
          clear hD6 hb6
          go_wp2_with fail
          refine (stray_calls s w6).mono ?_
          rintro e w7 ⟨rfl, hb7⟩
          rw [HST.out]
          go_wp2
          go_ret2
          have hno : okCh l.length 0 ch = false := by rw [HOK1.out, HST.out]; simp
          exact ⟨by unfold cureAns; rw [hno]; rfl, bt HB6.out hb7⟩
        · have HST := Lib.hid hst
          clear hst
          go_wp2_with fail
          refine (within_calls (some ⟨w5.heap.size, 0, none⟩) 1 [f] xv ((l.length : Int) - 1) _ (C_one (by simp))).mono ?_
          rintro e w6 ⟨rfl, hb6⟩
          rw [HI.out]
          have hD6 := blk_below (blk_below HD5.out (ba (b0 w5) (.cells #[.int .i64 f] 2))) hb6
          have hg0 : w6.cell? ⟨wr.heap.size, 0, none⟩ = some (.int .i64 f) := blk_cell hD6 0
          have hg1 : w6.cell? ⟨wr.heap.size, 1, none⟩ = some (.int .i64 s.f0) := blk_cell hD6 1
          have hg2 : w6.cell? ⟨wr.heap.size, 2, none⟩ = some (.int .i64 s.f1) := blk_cell hD6 2
          have HB6 := Lib.hid (show Below wr.heap.size wr w6 from bt (ba HB5.out _) hb6)
          have HD6 := Lib.hid hD6
          clear hD6 hb6
          go_wp2_with fail
          refine (stray_calls s w6).mono ?_
          rintro e w7 ⟨rfl, hb7⟩
          rw [HST.out]
          have hD7 := blk_below HD6.out hb7
          have hh0 : w7.cell? ⟨wr.heap.size, 0, none⟩ = some (.int .i64 f) := blk_cell hD7 0
          have hh1 : w7.cell? ⟨wr.heap.size, 1, none⟩ = some (.int .i64 s.f0) := blk_cell hD7 1
          have hh2 : w7.cell? ⟨wr.heap.size, 2, none⟩ = some (.int .i64 s.f1) := blk_cell hD7 2
          have HB7 := Lib.hid (bt HB6.out hb7)
          have HS7 := Lib.hid (HS.out.keep (HB7.out.block g hgl))
          have hp7 : w7.cell? ⟨pb, 0, none⟩ = some (.slice (some ⟨g, 0, none⟩) l.length cap) := blk_cell (blk_below HPr.out HB7.out) 0
          clear hD7 hb7 hg0 hg1 hg2 hq5 he0
          obtain ⟨q, rfl⟩ : ∃ q : Nat, f = (q : Int) := ⟨f.toNat, by omega⟩
          have hql : q < l.length := by omega
          have hql2 : q < (changed l (ch.take k)).length := by rw [HGC.out.2]; exact hql
          obtain ⟨ca, cb, hca, hcb, hfa, hfb2⟩ : ∃ a b, w7.cell? ⟨g, q * 2, none⟩ = some (.int .i64 a) ∧ w7.cell? ⟨g, q * 2 + 1, none⟩ = some (.int .i64 b) ∧ w7.frozen? ⟨g, q * 2, none⟩ = false ∧ w7.frozen? ⟨g, q * 2 + 1, none⟩ = false := by
            obtain ⟨cur, c1, _, _, _, c5⟩ := HS7.out
            exact ⟨_, _, (blk_cell c1 _).trans (c5 q hql2).1, (blk_cell c1 _).trans (c5 q hql2).2, blk_frozen c1 _, blk_frozen c1 _⟩
          have hqi : (q : Int) < (l.length : Int) := by omega
          clear hql2
          go_wp2_with fail
          go_region
          go_wp2
          go_roundw
          case rel =>
            have HT := Lib.hid (show changed l (ch.take (k + 1)) = (changed l (ch.take k)).set q s by
              rw [List.take_succ_eq_append_getElem hlt, changed_push, HFS.out]; simp)
            have hks : KS (fun i => i = g) w3 ((w7.setCell ⟨g, q * 2, none⟩ (.int .i64 s.f0)).setCell ⟨g, q * 2 + 1, none⟩ (.int .i64 s.f1)) :=
              KS.setCell (p := ⟨g, q * 2 + 1, none⟩) (KS.setCell (p := ⟨g, q * 2, none⟩) (HK.out.after HB7.out) (fun _ => rfl) _) (fun _ => rfl) _
            have hsh : ShRow g cap ((changed l (ch.take k)).set q s) ((w7.setCell ⟨g, q * 2, none⟩ (.int .i64 s.f0)).setCell ⟨g, q * 2 + 1, none⟩ (.int .i64 s.f1)).drew := by
              exact (HS7.out.set q (by rw [HGC.out.2]; exact hql) s).keep rfl
            exact ⟨k + 1, by omega, HE0.out ▸ rfl, (q : Int) + 1, rfl, by omega, by omega, Lib.hid (by rw [HOK1.out, HST.out]; simp [hfb.1, hfb.2]), Lib.hid (by rw [HT.out]; exact hsh), Lib.hid (by rw [HT.out]; exact ⟨good_set HGC.out.1 q s HST.out, by rw [List.length_set]; exact HGC.out.2⟩), Lib.hid hks.drew⟩
          case measure => simp [intOf]; omega
    · obtain rfl : k = ch.length := by omega
      have hok : okCh l.length 0 ch = true := by rw [HOK.out, List.drop_length]; rfl
      have HOKT := Lib.hid hok
      have HTK := Lib.hid (show ch.take ch.length = ch from List.take_length)
      rw [HTK.out] at HS HGC
      obtain ⟨l', hl'⟩ : ∃ l', changed l ch = l' := ⟨_, rfl⟩
      have HL' := Lib.hid hl'
      rw [hl'] at HS HGC
      have HPI := Lib.hid (show PressIn wr pb (some ⟨g, 0, none⟩) cap l' lo hi from ⟨by rw [HGC.out.2]; exact blk_cell HPr.out 0, blk_cell HPr.out 1, blk_cell HPr.out 2, HS.out.reads⟩)
      have HOR := Lib.hid (show isOrd l'.length o = true by rw [HGC.out.2]; exact (opened_zero HX.out).2)
      clear hok hl'
      go_wp2_with fail
      refine (curl_calls (some ⟨g, 0, none⟩) cap l' lo hi pb A1 c1 o wr HPI.out (Kd.C_below HR1.out HBr.out) HGC.out.1 HOR.out ⟨hlo0, by omega⟩ ⟨by omega, hhi⟩).mono ?_
      rintro e w8 ⟨rfl, hb8⟩
      obtain ⟨cv, hcv⟩ : ∃ cv, curlV l' lo hi o = cv := ⟨_, rfl⟩
      have HCV := Lib.hid (show curlV (changed l ch) lo hi o = cv by rw [HL'.out]; exact hcv)
      rw [hcv]
      clear hcv
      by_cases hpos : 0 < cv
      · have hb : decide (cv > 0) = true := by simpa using hpos
        go_wp2
        go_ret2
        exact ⟨by unfold cureAns; rw [HOKT.out, HCV.out, if_pos hpos]; rfl, bt HBr.out hb8⟩
      · have hb : decide (cv > 0) = false := by simpa using hpos
        go_wp2
        go_ret2
        exact ⟨by unfold cureAns; rw [HOKT.out, HCV.out, if_neg (show ¬ 0 < cv by omega)]; rfl, bt HBr.out hb8⟩
end Go.Proofs.Ytehfhbdhdbpfpaa.Own
namespace Go.Proofs.Ytehfhbdhdbpfpaa.Gen
open Go.RowKit Go.Proofs.YtehfhbdhdbpfpaaW.PrintWords Go.Proofs.YtehfhbdhdbpfpaaW.PrintLast Go.Proofs.YtehfhbdhdbpfpaaW.PrintMore Go.Proofs.Ytehfhbdhdbpfpaa.Print Go.Proofs.Ytehfhbdhdbpfpaa.Spec Go.Proofs.Ytehfhbdhdbpfpaa.Own
set_option linter.unusedVariables false
theorem curl_CheckCure.calls (A0_0 : Option Addr) (c0_0 : Nat) (l0_0 : List (S52)) (a0_1 : Int) (a0_2 : Int) (A1 : Option Addr) (c1 : Nat) (l1 : List Int) (A2 : Option Addr) (c2 : Nat) (l2 : List (S54)) (r1 : Int) (r2 : Int) (w : World) (hr0_0 : Kd.C k52 w A0_0 l0_0.length l0_0) (hc0_0 : l0_0.length ≤ c0_0) (hr1 : Kd.C (Kd.int .i64) w A1 l1.length l1) (hc1 : l1.length ≤ c1) (hr2 : Kd.C k54 w A2 l2.length l2) (hc2 : l2.length ≤ c2) (h : curl_CheckCure.f l0_0 a0_1 a0_2 l1 l2 = some (r1, r2)) :
    Calls Try.prog 23 #[.agg #[.slice A0_0 l0_0.length c0_0, .int .i64 a0_1, .int .i64 a0_2], .slice A1 l1.length c1, .slice A2 l2.length c2] w fun e w' => e = .returned (.tuple #[.int .i64 r1, .int .i64 r2]) ∧ Below w.heap.size w w' := by
  unfold curl_CheckCure.f at h
  by_cases hl : l1.length ≤ 12
  · rw [if_pos hl, Option.some.injEq] at h
    by_cases hx : opened l0_0 a0_1 a0_2 l1 = 0
    · rw [if_pos hx] at h
      have h2 := CheckCure_ok A0_0 c0_0 l0_0 a0_1 a0_2 A1 c1 l1 A2 c2 l2 w hr0_0 hr1 hr2 hl hx
      rw [show cureAns l0_0 a0_1 a0_2 l1 l2 = (r1, r2) from h] at h2
      exact h2
    · rw [if_neg hx] at h
      simp only [Prod.mk.injEq] at h
      obtain ⟨rfl, rfl⟩ := h
      exact CheckCure_err A0_0 c0_0 l0_0 a0_1 a0_2 A1 c1 l1 _ _ w hr0_0 hr1 hl rfl hx
  · rw [if_neg hl] at h; cases h
end Go.Proofs.Ytehfhbdhdbpfpaa.Gen
