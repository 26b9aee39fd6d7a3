/- Parts of a proof: N4. No condition. -/
import Derived.Test.YtehfhbdhdbpfpaaYPan28
import Derived.Laws.MakeOwn
namespace Go.Proofs.Ytehfhbdhdbpfpaa.Own
end Go.Proofs.Ytehfhbdhdbpfpaa.Own
namespace Go.Proofs.Ytehfhbdhdbpfpaa.Print
end Go.Proofs.Ytehfhbdhdbpfpaa.Print
namespace Go.Proofs.Ytehfhbdhdbpfpaa.Spec
end Go.Proofs.Ytehfhbdhdbpfpaa.Spec
namespace Go.Proofs.YtehfhbdhdbpfpaaW.PrintLast
end Go.Proofs.YtehfhbdhdbpfpaaW.PrintLast
namespace Go.Proofs.YtehfhbdhdbpfpaaW.PrintMore
end Go.Proofs.YtehfhbdhdbpfpaaW.PrintMore
namespace Go.Proofs.YtehfhbdhdbpfpaaW.PrintWords
end Go.Proofs.YtehfhbdhdbpfpaaW.PrintWords
set_option linter.unusedVariables false
set_option linter.unusedSimpArgs false
namespace Go.Proofs.Ytehfhbdhdbpfpaa.Own
open Go.RowKit Go.Shelf Go.Proofs.YtehfhbdhdbpfpaaW.PrintWords Go.Proofs.YtehfhbdhdbpfpaaW.PrintLast Go.Proofs.YtehfhbdhdbpfpaaW.PrintMore Go.Proofs.Ytehfhbdhdbpfpaa.Print Go.Proofs.Ytehfhbdhdbpfpaa.Spec
set_option linter.unusedVariables false
set_option linter.unusedSimpArgs false
theorem pressM_of {A : Option Addr} {c : Nat} {l : List Sh} {lo hi : Int} {pb mb : Nat} {w w' : World} (hb : w'.heap[pb]? = some (.cells (pressCells A c l lo hi mb) 84 (0, 0))) (hm : w'.heap[mb]? = some (.map #[] 0))
    (hr : Kd.C k52 w A l.length l) (hB : Below w.heap.size w w') : PressM w' pb mb A c l lo hi (fun _ => False) :=
  ⟨pressIn_of hb hr hB, blk_cell hb 3, _, CacheIs.empty hm, fun _ _ h => by cases h⟩
set_option maxRecDepth 100000 in
set_option maxHeartbeats 1600000 in
theorem Cure_err (A : Option Addr) (c : Nat) (l : List Sh) (lo hi : Int) (A1 : Option Addr) (c1 : Nat) (o : List Int) (x : Int) (w : World) (hr : Kd.C k52 w A l.length l)
    (hr1 : Kd.C (Kd.int .i64) w A1 o.length o) (hlen : o.length ≤ 12) (hx : opened l lo hi o = x) (h0 : x ≠ 0) :
    Calls Try.prog 22 #[.agg #[.slice A l.length c, .int .i64 lo, .int .i64 hi], .slice A1 o.length c1] w fun e w' => e = .returned (.tuple #[.slice none 0 0, .int .i64 x]) ∧ Below w.heap.size w w' := by
  have HR := Lib.hid hr
  have HR1 := Lib.hid hr1
  have HX := Lib.hid hx
  have hxb : (x != 0) = true := by simpa using h0
  clear hr hr1 hx
  go_enter Try.func22, Try.ntmps22
  go_wp2_with fail
  refine (open1_err A c l lo hi A1 c1 o (w.heap.size + 1) x _ (Kd.C_below HR.out (ba (ba (b0 w) _) _)) (Kd.C_below HR1.out (ba (ba (b0 w) _) _)) hlen (by simp) HX.out h0).mono ?_
  rintro e w1 ⟨rfl, hb1⟩
  go_wp2
  go_ret2
  exact ⟨rfl, bt (ba (ba (b0 w) _) _) hb1⟩
theorem run_copy_rows {P : Program} (w : World) (dT sT ty elem : TypeId) (sz g n dCap : Nat) (a : Addr) (sCap : Nat) (cur : Array Value) (t : TypeId) (cs : List Value)
    (hu : P.underlying dT = some (.slice elem)) (hs : (P.info? elem).map (·.size) = some sz)
    (hg : w.heap[g]? = some (.cells cur t (0, 0))) (hn : cs.length = n * sz)
    (hsrc : ∀ j v, cs[j]? = some v → w.cell? (a.add j) = some v) (hfit : cs.length ≤ cur.size) (h1 : ∀ v ∈ cs, v.oneCell' = true) :
    (Builtin.copy_ #[dT, sT] ty #[.slice (some ⟨g, 0, none⟩) n dCap, .slice (some a) n sCap]).run P w =
      .ok (goInt n) (w.setRow g (cur.toList.take 0 ++ cs ++ cur.toList.drop (0 + cs.length)).toArray) := by
  have hl := run_loadCells_list (P := P) w a cs hsrc
  have hst := run_storeCells_at P g 0 t cs 0 cur w hg (by simpa using hfit) h1
  cases hq : P.info? elem with
  | none => simp [hq] at hs
  | some i =>
    have hi : i.size = sz := by simpa [hq] using hs
    rw [hn] at hl
    simp [Builtin.copy_, run_underlying hu, Builtin.lenOf, Builtin.firstCells, sizeOf, typeInfo, hq, hi, hl] at hst ⊢
    simp [hst]
theorem run_copy_none' {P : Program} (w : World) (dT sT ty elem : TypeId) (a : Addr) (dLen dCap : Nat) (hu : P.underlying dT = some (.slice elem)) (hs : ((P.info? elem).map (·.size)).isSome = true) :
    (Builtin.copy_ #[dT, sT] ty #[.slice (some a) dLen dCap, .slice none 0 0]).run P w = .ok (goInt 0) w := run_copy_nil P w dT sT ty elem a dLen dCap hu hs
theorem copied {P : Program} (w w0 : World) (base g : Nat) (v : Value) (l : List Ch) (ty T : TypeId) (hl : l.length ≤ 1000) (h : ChOwn w base v l)
    (hu : P.underlying T = some (.slice 54)) (hs : (P.info? 54).map (·.size) = some 3)
    (cur : Array Value) (hg : w.heap[g]? = some (.cells cur 54 (0, 0))) (hc : cur.size = l.length * 3) (hb : base ≤ g) (hb0 : w0.heap.size ≤ g) :
    ∃ x w', (Builtin.copy_ #[T, T] ty #[.slice (some ⟨g, 0, none⟩) l.length l.length, v]).run P w = .ok x w' ∧ ChOwn w' base (.slice (some ⟨g, 0, none⟩) l.length l.length) l ∧ (∀ k, k ≠ g → w'.heap[k]? = w.heap[k]?) ∧
      w'.os = w.os ∧ w'.tape = w.tape ∧ w'.output = w.output ∧ w'.heap.size = w.heap.size := by
  have hs3 : k54.sz = 3 := rfl
  obtain ⟨h0, inner, ho, hr⟩ := h
  have hi : inner.length = l.length * 3 := ho.1
  have hgl := blk_lt hg
  by_cases hz : l.length = 0
  · have hl0 : l = [] := List.eq_nil_of_length_eq_zero hz
    subst hl0
    have hcs : cur = #[] := Array.eq_empty_of_size_eq_zero (by simpa using hc)
    subst hcs
    have hown : ∀ w', w' = w → ChOwn w' base (.slice (some ⟨g, 0, none⟩) 0 0) [] := fun w' e => by
      subst e
      exact ⟨fun _ _ => trivial, [], ⟨by simp, .inr ⟨g, 0, #[], rfl, hb, hg, Nat.le_refl _, by unfold maxLen; omega, by simp, by simp⟩⟩, Reps.none _ _⟩
    rcases ho.2 with ⟨rfl, _⟩ | ⟨g', cap, cur', rfl, _, hh, _⟩
    · exact ⟨_, w, run_copy_none' w T T ty 54 ⟨g, 0, none⟩ _ _ hu (by rw [hs]; rfl), hown w rfl, fun _ _ => rfl, rfl, rfl, rfl, rfl⟩
    · have hrun := run_copy_rows (P := P) w T T ty 54 3 g 0 0 ⟨g', 0, none⟩ cap #[] 54 [] hu hs hg (by simp) (fun j v hj => by simp at hj) (by simp) (fun v hv => by simp at hv)
      have he : w.setRow g #[] = w := setRow_self w g #[] _ _ hg
      refine ⟨goInt 0, w, ?_, hown w rfl, fun _ _ => rfl, rfl, rfl, rfl, rfl⟩
      simpa [he] using hrun
  · rcases ho.2 with ⟨_, h1⟩ | ⟨g', cap, cur', rfl, hbg, hh, hnc, hcm, hsz, htk⟩
    · exact absurd h1 hz
    · have hsrc : ∀ j v, inner[j]? = some v → w.cell? ((⟨g', 0, none⟩ : Addr).add j) = some v := by
        intro j u hj
        rw [add_plain, blk_cell hh]
        rw [← htk, List.getElem?_take] at hj
        split at hj
        · simpa using hj
        · cases hj
      have hone : ∀ v ∈ inner, v.oneCell' = true := by
        intro u hu2
        obtain ⟨j, hj, rfl⟩ := List.mem_iff_getElem.1 hu2
        have hjl : j / 3 < l.length := by omega
        have h3 := k54_openM (hr.2 (j / 3) l[j / 3] (List.getElem?_eq_getElem hjl))
        rw [hs3] at h3
        have h4 : inner[j]? = ([.int .i64 l[j / 3].f0, .int .i64 l[j / 3].f1.f0, .int .i64 l[j / 3].f1.f1] : List Value)[j % 3]? := by
          rw [← h3, List.getElem?_take, if_pos (show j % 3 < 3 by omega), List.getElem?_drop]
          congr 1
          omega
        rw [List.getElem?_eq_getElem hj] at h4
        rcases (show j % 3 = 0 ∨ j % 3 = 1 ∨ j % 3 = 2 by omega) with e | e | e <;> rw [e] at h4 <;> simp at h4 <;> rw [h4] <;> rfl
      have hrun := run_copy_rows (P := P) w T T ty 54 3 g l.length l.length ⟨g', 0, none⟩ cap cur 54 inner hu hs hg hi hsrc (by omega) hone
      have he : (cur.toList.take 0 ++ inner ++ cur.toList.drop (0 + inner.length)) = inner := by
        rw [List.drop_eq_nil_of_le (by simp; omega)]; simp
      rw [he] at hrun
      refine ⟨_, _, hrun, ⟨fun _ _ => trivial, inner, ⟨hi, .inr ⟨g, l.length, inner.toArray, rfl, hb, setRow_heap w g cur _ _ _ hg, Nat.le_refl _, by unfold maxLen; omega, by simpa [hs3] using hi, ?_⟩⟩, ?_⟩, fun k hk => setRow_other w g k _ hk, rfl, rfl, rfl, by simp [World.setRow]⟩
      · rw [hs3, ← hi]; simp
      · exact hr.imp_ (fun p c hp => by rw [k54_openM hp]; exact k54_mkM _ _ _ p)
set_option maxRecDepth 100000 in
set_option maxHeartbeats 4000000 in
theorem Cure_ok (A : Option Addr) (c : Nat) (l : List Sh) (lo hi : Int) (A1 : Option Addr) (c1 : Nat) (o : List Int) (w : World) (hr : Kd.C k52 w A l.length l)
    (hr1 : Kd.C (Kd.int .i64) w A1 o.length o) (hlen : o.length ≤ 12) (hx : opened l lo hi o = 0) :
    Calls Try.prog 22 #[.agg #[.slice A l.length c, .int .i64 lo, .int .i64 hi], .slice A1 o.length c1] w fun e w' => ∃ v, e = .returned (.tuple #[v, .int .i64 0]) ∧ ChOwn w' w.heap.size v (cure l lo hi o) ∧ Below w.heap.size w w' := by
  have HR := Lib.hid hr
  have HR1 := Lib.hid hr1
  have HX := Lib.hid hx
  obtain ⟨hgd, hlo0, hlh, hhi, _⟩ := Plain.good_of_panel (opened_zero hx).1
  have HG := Lib.hid hgd
  have HO := Lib.hid (opened_zero hx).2
  have hl7 := hgd.1
  have hol : o.length ≤ 7 := by have := Plain.ord_length HO.out; omega
  clear hr hr1 hx hgd
  go_enter Try.func22, Try.ntmps22
  go_wp2_with fail
  refine (open1_good A c l lo hi A1 c1 o (w.heap.size + 1) _ (Kd.C_below HR.out (ba (ba (b0 w) _) _)) (Kd.C_below HR1.out (ba (ba (b0 w) _) _)) hlen (by simp) HX.out).mono ?_
  rintro e w1 ⟨pb, mb, rfl, hp, hm, hpl, hml, hne, hb1⟩
  have HB1 := Lib.hid (bt (ba (ba (b0 w) _) _) hb1)
  have HP1 := Lib.hid (pressM_of hp hm HR.out HB1.out)
  have hmw : w.heap.size ≤ mb := by simp at hml; omega
  obtain ⟨es1, ck1, hm1⟩ := HP1.out.2.2.block
  have HM1 := Lib.hid hm1
  clear hp hm hpl hml hne hb1 hm1
  go_wp2_with fail
  refine (cure_calls A c l lo hi pb mb A1 c1 o 0 w1 HP1.out (Kd.C_below HR1.out HB1.out) HG.out HO.out ⟨hlo0, by omega⟩ (fun _ h => h.elim)).mono ?_
  rintro e w2 ⟨v1, rfl, hk2, hc2, hv1⟩
  have HP2 := Lib.hid (HP1.out.ks hk2 hc2)
  have HR12 := Lib.hid (C_ks_int HM1.out hk2 (Kd.C_below HR1.out HB1.out))
  have HK2 := Lib.hid hk2
  have HV1 := Lib.hid hv1
  clear hk2 hc2 hv1
  go_wp2_with fail
  refine (cure_calls A c l lo hi pb mb A1 c1 o 1 w2 HP2.out HR12.out HG.out HO.out ⟨hlo0, by omega⟩ (fun _ h => h.elim)).mono ?_
  rintro e w3 ⟨v2, rfl, hk3, hc3, hv2⟩
  obtain ⟨es2, ck2, hm2⟩ := HP2.out.2.2.block
  have HV1' := Lib.hid (R_ks hm2 hk3 HV1.out)
  have HK3 := Lib.hid (HK2.out.trans hk3)
  have HV2 := Lib.hid hv2
  have hws2 : w1.heap.size ≤ w2.heap.size := HK2.out.size
  have hws3 : w1.heap.size ≤ w3.heap.size := HK3.out.size
  clear hk3 hc3 hv2 hm2
  obtain ⟨l1, hl1⟩ : ∃ l1, cureSide l lo hi o 0 = l1 := ⟨_, rfl⟩
  obtain ⟨l2, hl2⟩ : ∃ l2, cureSide l lo hi o 1 = l2 := ⟨_, rfl⟩
  have hn1 : l1.length ≤ 4 := by rw [← hl1]; exact Nat.le_trans (Plain.cureSide_own _ _ _ _ _) (Plain.own_len4 hol).1
  have hn2 : l2.length ≤ 4 := by rw [← hl2]; exact Nat.le_trans (Plain.cureSide_own _ _ _ _ _) (Plain.own_len4 hol).2
  have HF := Lib.hid (show ∀ x ∈ l1 ++ l2, 0 ≤ x.f0 ∧ x.f0 ≤ 100 from fun x hx => by
    rcases List.mem_append.1 hx with hx | hx
    · have := Plain.cureSide_f0 HO.out l lo hi 0 x (by rw [hl1]; exact hx); omega
    · have := Plain.cureSide_f0 HO.out l lo hi 1 x (by rw [hl2]; exact hx); omega)
  have HN := Lib.hid (show ((l1 ++ l2).map (·.f0)).Nodup by rw [← hl1, ← hl2]; exact Plain.cures_nodup HO.out l lo hi)
  have HCU := Lib.hid (show cure l lo hi o = sortCh (l1 ++ l2) by unfold cure; rw [hl1, hl2])
  rw [hl1] at HV1'
  rw [hl2] at HV2
  clear HV1 hl1 hl2
  obtain ⟨A3, c3, rfl, _, hr3⟩ := Kd.R_reads HV1'.out
  obtain ⟨A4, c4, rfl, _, hr4⟩ := Kd.R_reads HV2.out
  have HR3 := Lib.hid hr3
  have HR4 := Lib.hid hr4
  clear hr3 hr4
  have HB3 := Lib.hid (show Below w.heap.size w w3 from HB1.out.trans (HK3.out.below HB1.out.size (fun i hi => by omega)))
  go_wp2_with fail
  refine (concat_calls w3.heap.size 2 A3 A4 c3 c4 l1 l2 _ (by simp) (by simp) (Kd.C_below HR3.out (ba (b0 w3) _)) (Kd.C_below HR4.out (ba (b0 w3) _)) (by omega) (by omega)).mono ?_
  rintro e w5 ⟨v, rfl, hv, hb5⟩
  have HB5 := Lib.hid (bt HB3.out (bt (ba (b0 w3) _) hb5))
  have HV := Lib.hid (Kd.R_lower hv (show w.heap.size ≤ _ by have := HB3.out.size; simp; omega))
  clear hv hb5
  go_wp2_with fail
  refine (sortFunc_calls w.heap.size v (l1 ++ l2) w5 HF.out (by simp; omega) HV.out).mono ?_
  rintro e w6 ⟨rfl, r, hp6, hs6, hv6, hb6⟩
  obtain rfl := Plain.sorted_unique hp6 hs6 HN.out
  have HB6 := Lib.hid (HB5.out.trans hb6)
  have hrl : (sortCh (l1 ++ l2)).length ≤ 14 := by rw [hp6.length_eq]; simp; omega
  rw [← HCU.out] at hv6 hrl
  obtain ⟨r, hr⟩ : ∃ r, cure l lo hi o = r := ⟨_, rfl⟩
  have HRR := Lib.hid hr
  rw [hr] at hv6 hrl
  obtain ⟨A6, c6, rfl⟩ := Kd.R_slice hv6
  have HV6 := Lib.hid hv6
  clear hp6 hs6 hv6 hb6 hr
  obtain ⟨i0, hin, hz0, hz1, hz2⟩ := info_parts info54
  have hmk : ∀ W : World, (Instr.makeSlice 43 (.int .i64 r.length) (.int .i64 r.length)).run Try.prog W = .ok (.slice (some ⟨W.heap.size, 0, none⟩) r.length r.length) (W.alloc (.cells (madeCells (Value.cells (.agg #[(.int .i64 0), (.int .i64 0), (.int .i64 0)])) (r.length * 3)) 54)) := by
    intro W
    have h := run_make (P := Try.prog) W 43 54 i0 _ Try.underlying43 hin hz0 .i64 .i64 (r.length : Int) (r.length : Int) (by omega) (Int.le_refl _) (by rw [hz2]; omega) (by omega)
    rw [hz1] at h
    simpa using h
  obtain ⟨zs, hzs⟩ : ∃ zs, madeCells (Value.cells (.agg #[(.int .i64 0), (.int .i64 0), (.int .i64 0)])) (r.length * 3) = zs := ⟨_, rfl⟩
  have HZ := Lib.hid (show zs.size = r.length * 3 by rw [← hzs]; exact size_madeCells _ _)
  simp only [hzs] at hmk
  clear hzs
  obtain ⟨w7, hw7⟩ : ∃ w7, w6.alloc (.cells zs 54) = w7 := ⟨_, rfl⟩
  have HV7 := Lib.hid (show ChOwn w7 w.heap.size (.slice A6 r.length c6) r by rw [← hw7]; exact Kd.R_below HV6.out (ba (b0 w6) _))
  have HH7 := Lib.hid (show w7.heap[w6.heap.size]? = some (.cells zs 54 (0, 0)) by rw [← hw7]; exact World.alloc_heap_new w6 _)
  have HB7 := Lib.hid (show Below w.heap.size w w7 by rw [← hw7]; exact HB6.out.alloc HB6.out.size _)
  have hu43 := Try.underlying43
  obtain ⟨x, w8, hcp, hv8, hk8, h81, h82, h83, h84⟩ := copied (P := Try.prog) w7 w6 w.heap.size w6.heap.size (.slice A6 r.length c6) r 3 43 (by omega) HV7.out hu43 (by rw [hin]; exact congrArg some hz1) zs HH7.out HZ.out HB6.out.size (Nat.le_refl _)
  have HB8 := Lib.hid (show Below w.heap.size w w8 from HB7.out.trans ⟨h81, h82, h83, by omega, fun i hi => hk8 i (by have := HB6.out.size; omega)⟩)
  have HCP := Lib.hid hcp
  have HV8 := Lib.hid hv8
  clear hcp hv8 hk8 h81 h82 h83 h84
  go_wp2_with fail
  rw [HCP.out]
  go_wp2
  go_ret2
  exact ⟨_, rfl, by rw [HRR.out]; exact HV8.out, HB8.out⟩
set_option maxRecDepth 100000 in
theorem Fewest_ok (A : Option Addr) (c : Nat) (l : List Sh) (lo hi : Int) (A1 : Option Addr) (c1 : Nat) (o : List Int) (w : World) (hr : Kd.C k52 w A l.length l)
    (hr1 : Kd.C (Kd.int .i64) w A1 o.length o) (hlen : o.length ≤ 12) (hx : opened l lo hi o = 0) :
    Calls Try.prog 21 #[.agg #[.slice A l.length c, .int .i64 lo, .int .i64 hi], .slice A1 o.length c1] w fun e w' =>
      e = .returned (.tuple #[.int .i64 ((cure l lo hi o).length : Int), .int .i64 0]) ∧ Below w.heap.size w w' := by
  have HR := Lib.hid hr
  have HR1 := Lib.hid hr1
  have HX := Lib.hid hx
  clear hr hr1 hx
  go_enter Try.func21, Try.ntmps21
  go_wp2_with fail
  refine (Cure_ok A c l lo hi A1 c1 o _ (Kd.C_below HR.out (ba (b0 w) _)) (Kd.C_below HR1.out (ba (b0 w) _)) hlen HX.out).mono ?_
  rintro e w1 ⟨v, rfl, hv, hb1⟩
  obtain ⟨A6, c6, rfl⟩ := Kd.R_slice hv
  have HB := Lib.hid (bt (ba (b0 w) _) hb1)
  clear hv hb1
  go_wp2
  go_ret2
  exact ⟨rfl, HB.out⟩
set_option maxRecDepth 100000 in
theorem Fewest_err (A : Option Addr) (c : Nat) (l : List Sh) (lo hi : Int) (A1 : Option Addr) (c1 : Nat) (o : List Int) (x : Int) (w : World) (hr : Kd.C k52 w A l.length l)
    (hr1 : Kd.C (Kd.int .i64) w A1 o.length o) (hlen : o.length ≤ 12) (hx : opened l lo hi o = x) (h0 : x ≠ 0) :
    Calls Try.prog 21 #[.agg #[.slice A l.length c, .int .i64 lo, .int .i64 hi], .slice A1 o.length c1] w fun e w' => e = .returned (.tuple #[.int .i64 0, .int .i64 x]) ∧ Below w.heap.size w w' := by
  have HR := Lib.hid hr
  have HR1 := Lib.hid hr1
  have HX := Lib.hid hx
  clear hr hr1 hx
  go_enter Try.func21, Try.ntmps21
  go_wp2_with fail
  refine (Cure_err A c l lo hi A1 c1 o x _ (Kd.C_below HR.out (ba (b0 w) _)) (Kd.C_below HR1.out (ba (b0 w) _)) hlen HX.out h0).mono ?_
  rintro e w1 ⟨rfl, hb1⟩
  have HB := Lib.hid (bt (ba (b0 w) _) hb1)
  clear hb1
  go_wp2
  go_ret2
  exact ⟨rfl, HB.out⟩
end Go.Proofs.Ytehfhbdhdbpfpaa.Own
namespace Go.Proofs.Ytehfhbdhdbpfpaa.Gen
open Go.RowKit Go.Proofs.YtehfhbdhdbpfpaaW.PrintWords Go.Proofs.YtehfhbdhdbpfpaaW.PrintLast Go.Proofs.YtehfhbdhdbpfpaaW.PrintMore Go.Proofs.Ytehfhbdhdbpfpaa.Print Go.Proofs.Ytehfhbdhdbpfpaa.Spec Go.Proofs.Ytehfhbdhdbpfpaa.Own
set_option linter.unusedVariables false
theorem curl_Fewest.calls (A0_0 : Option Addr) (c0_0 : Nat) (l0_0 : List (S52)) (a0_1 : Int) (a0_2 : Int) (A1 : Option Addr) (c1 : Nat) (l1 : List Int) (r1 : Int) (r2 : Int) (w : World) (hr0_0 : Kd.C k52 w A0_0 l0_0.length l0_0) (hc0_0 : l0_0.length ≤ c0_0) (hr1 : Kd.C (Kd.int .i64) w A1 l1.length l1) (hc1 : l1.length ≤ c1) (h : curl_Fewest.f l0_0 a0_1 a0_2 l1 = some (r1, r2)) :
    Calls Try.prog 21 #[.agg #[.slice A0_0 l0_0.length c0_0, .int .i64 a0_1, .int .i64 a0_2], .slice A1 l1.length c1] w fun e w' => e = .returned (.tuple #[.int .i64 r1, .int .i64 r2]) ∧ Below w.heap.size w w' := by
  unfold curl_Fewest.f at h
  by_cases hl : l1.length ≤ 12
  · rw [if_pos hl, Option.some.injEq] at h
    by_cases hx : opened l0_0 a0_1 a0_2 l1 = 0
    · rw [if_pos hx] at h
      simp only [Prod.mk.injEq] at h
      obtain ⟨rfl, rfl⟩ := h
      exact Fewest_ok A0_0 c0_0 l0_0 a0_1 a0_2 A1 c1 l1 w hr0_0 hr1 hl hx
    · rw [if_neg hx] at h
      simp only [Prod.mk.injEq] at h
      obtain ⟨rfl, rfl⟩ := h
      exact Fewest_err A0_0 c0_0 l0_0 a0_1 a0_2 A1 c1 l1 _ w hr0_0 hr1 hl rfl hx
  · rw [if_neg hl] at h; cases h
theorem curl_Cure.calls (A0_0 : Option Addr) (c0_0 : Nat) (l0_0 : List (S52)) (a0_1 : Int) (a0_2 : Int) (A1 : Option Addr) (c1 : Nat) (l1 : List Int) (r1 : List (S54)) (r2 : Int) (w : World) (hr0_0 : Kd.C k52 w A0_0 l0_0.length l0_0) (hc0_0 : l0_0.length ≤ c0_0) (hr1 : Kd.C (Kd.int .i64) w A1 l1.length l1) (hc1 : l1.length ≤ c1) (h : curl_Cure.f l0_0 a0_1 a0_2 l1 = some (r1, r2)) :
    Calls Try.prog 22 #[.agg #[.slice A0_0 l0_0.length c0_0, .int .i64 a0_1, .int .i64 a0_2], .slice A1 l1.length c1] w fun e w' => ∃ v0_ : Value, e = .returned (.tuple #[v0_, .int .i64 r2]) ∧ Kd.R k54 54 w' w.heap.size (fun _ => True) v0_ r1 ∧ Below w.heap.size w w' := by
  unfold curl_Cure.f at h
  by_cases hl : l1.length ≤ 12
  · rw [if_pos hl, Option.some.injEq] at h
    by_cases hx : opened l0_0 a0_1 a0_2 l1 = 0
    · rw [if_pos hx] at h
      simp only [Prod.mk.injEq] at h
      obtain ⟨rfl, rfl⟩ := h
      exact Cure_ok A0_0 c0_0 l0_0 a0_1 a0_2 A1 c1 l1 w hr0_0 hr1 hl hx
    · rw [if_neg hx] at h
      simp only [Prod.mk.injEq] at h
      obtain ⟨rfl, rfl⟩ := h
      refine (Cure_err A0_0 c0_0 l0_0 a0_1 a0_2 A1 c1 l1 _ w hr0_0 hr1 hl rfl hx).mono ?_
      rintro e w' ⟨rfl, hb⟩
      exact ⟨_, rfl, Kd.R_nil _ _ _ _ _, hb⟩
  · rw [if_neg hl] at h; cases h
end Go.Proofs.Ytehfhbdhdbpfpaa.Gen
