/- Parts of a proof: M7 M8. No condition. -/
import Derived.Test.YtehfhbdhdbpfpaaYPan24
import Derived.Deep.RegionLawGrows
import Derived.BigRegion
namespace Go.Proofs.Ytehfhbdhdbpfpaa.Print
end Go.Proofs.Ytehfhbdhdbpfpaa.Print
namespace Go.Proofs.Ytehfhbdhdbpfpaa.Spec
end Go.Proofs.Ytehfhbdhdbpfpaa.Spec
namespace Go.Proofs.YtehfhbdhdbpfpaaW.PrintLast
end Go.Proofs.YtehfhbdhdbpfpaaW.PrintLast
namespace Go.Proofs.YtehfhbdhdbpfpaaW.PrintMore
end Go.Proofs.YtehfhbdhdbpfpaaW.PrintMore
namespace Go.Proofs.YtehfhbdhdbpfpaaW.PrintWords
end Go.Proofs.YtehfhbdhdbpfpaaW.PrintWords
set_option linter.unusedVariables false
set_option linter.unusedSimpArgs false
section
namespace Go.Proofs.Ytehfhbdhdbpfpaa.Own
open Go.RowKit Go.Shelf Go.Proofs.YtehfhbdhdbpfpaaW.PrintWords Go.Proofs.YtehfhbdhdbpfpaaW.PrintLast Go.Proofs.YtehfhbdhdbpfpaaW.PrintMore Go.Proofs.Ytehfhbdhdbpfpaa.Print Go.Proofs.Ytehfhbdhdbpfpaa.Spec
set_option linter.unusedVariables false
set_option linter.unusedSimpArgs false
def CureAns (l : List Sh) (lo hi : Int) (o : List Int) (ac : Int) (Bd : Nat → Prop) (w : World) (mb : Nat) (e : Ending) (w' : World) : Prop :=
  ∃ v, e = .returned v ∧ KS (fun k => k = mb) w w' ∧ CacheOk w' mb (sheetAt l lo hi) Bd ∧ Kd.R k54 54 w' w.heap.size (fun _ => True) v (cureSide l lo hi o ac)
variable {Bd : Nat → Prop}
def ownUpto (ac : Int) (k : Nat) : List Int := (iota k).filter fun i => i % 2 == ac
theorem ownUpto_succ (ac : Int) (k : Nat) : ownUpto ac (k + 1) = ownUpto ac k ++ (if ((k : Int) % 2 == ac) = true then [(k : Int)] else []) := by
  unfold ownUpto iota
  rw [List.range_succ, List.map_append, List.filter_append]
  simp only [List.map_cons, List.map_nil, List.filter_cons, List.filter_nil]
set_option maxRecDepth 100000 in
set_option maxHeartbeats 4000000 in
theorem cure_none (A : Option Addr) (c : Nat) (l : List Sh) (lo hi : Int) (pb mb : Nat) (A1 : Option Addr) (c1 : Nat) (o : List Int) (ac : Int) (w : World) (hp : PressM w pb mb A c l lo hi Bd) (hr1 : Kd.C (Kd.int .i64) w A1 o.length o) (hg : Plain.Good l) (hord : isOrd l.length o = true) (hlo : 0 ≤ lo ∧ lo ≤ 50) (hs : solve0 l lo hi o ac = true) :
    Calls Try.prog 48 #[.pointer (some ⟨pb, 0, none⟩), .slice A1 o.length c1, .int .i64 ac] w (CureAns l lo hi o ac Bd w mb) := by
  have HP := Lib.hid hp
  have HR1 := Lib.hid hr1
  have HG := Lib.hid hg
  have HO := Lib.hid hord
  have HS := Lib.hid hs
  clear hp hr1 hg hord hs
  go_enter Try.func48, Try.ntmps48
  go_wp2_with fail
  refine (solve_none A c l lo hi pb A1 c1 o ac w HP.out.1 HR1.out HG.out HO.out hlo).mono ?_
  rintro e w2 ⟨rfl, hb2⟩
  rw [HS.out]
  go_wp2
  go_ret
  exact ⟨_, rfl, KS.of_below hb2 _, HP.out.2.2.below hb2, by
    have : cureSide l lo hi o ac = [] := by unfold cureSide; rw [if_pos HS.out]
    rw [this]; exact Kd.R_nil _ _ _ _ _⟩
theorem KS.afterB {S : Nat → Prop} {w w1 w2 : World} (h : KS S w w1) (k : Below w.heap.size w1 w2) : KS S w w2 := ⟨k.os.trans h.os, k.tape.trans h.tape, k.output.trans h.output, Nat.le_trans h.size k.size, fun i hi hn => (k.block i hi).trans (h.block i hi hn)⟩
theorem R_ks {α : Type} {d : Kd α} {e : Nat} {W W' : World} {base mb : Nat} {v : Value} {xs : List α} {es : Array MapEntry} {clock : Nat} (hm : W.heap[mb]? = some (.map es clock)) (hk : KS (fun k => k = mb) W W')
    (h : d.R e W base (fun _ => True) v xs) : d.R e W' base (fun _ => True) v xs :=
  Kd.R_mono (Kd.R_move (Kd.R_bound h) (fun k h1 => hk.block k h1.2.2.1 (by
    rintro rfl
    obtain ⟨_, _, _, q, _, cells, hc⟩ := h1
    rw [hm] at hc
    cases hc))) (fun _ _ => trivial)
theorem CacheOk.grown {w w' : World} {mb : Nat} {H : Int → Int × Int → Option Sh} {row : Option Nat} (h : CacheOk w mb H Bd) (hg : w.grownBy w' row) (hrow : ∀ k, row = some k → ∃ cs t fr, w.heap[k]? = some (.cells cs t fr)) : CacheOk w' mb H Bd := by
  obtain ⟨G, hc, hm⟩ := h
  have hne : ∀ k es ck, w.heap[k]? = some (.map es ck) → some k ≠ row := by
    intro k es ck h1 e
    obtain ⟨cs, t, fr, h2⟩ := hrow k e.symm
    rw [h1] at h2
    cases h2
  refine ⟨G, hc.keep (hg.block _ hc.lt ?_), fun x r hx => ⟨(hm x r hx).1, (hm x r hx).2.keep (hg.block _ (hm x r hx).2.lt ?_)⟩⟩
  · obtain ⟨es, ck, h1, _⟩ := hc
    exact hne _ _ _ h1
  · obtain ⟨es, ck, h1, _⟩ := (hm x r hx).2
    exact hne _ _ _ h1
def halvesUpto (n : Nat) (ac : Int) (k : Nat) : List Int := (ownUpto ac k).filter fun i => decide (0 < place n i)
theorem halves_skip (n : Nat) (ac : Int) (k : Nat) (h : ¬ ((k : Int) % 2 = ac ∧ 0 < place n k)) : halvesUpto n ac (k + 1) = halvesUpto n ac k := by
  unfold halvesUpto
  rw [ownUpto_succ, List.filter_append]
  by_cases h1 : (k : Int) % 2 = ac
  · have h2 : ¬ 0 < place n k := fun h2 => h ⟨h1, h2⟩
    simp [h1, h2]
  · simp [h1]
theorem halves_take (n : Nat) (ac : Int) (k : Nat) (h1 : (k : Int) % 2 = ac) (h2 : 0 < place n k) : halvesUpto n ac (k + 1) = halvesUpto n ac k ++ [(k : Int)] := by
  unfold halvesUpto
  rw [ownUpto_succ, List.filter_append]
  simp [h1, h2]
theorem halves_len (n : Nat) (ac : Int) (k : Nat) : (halvesUpto n ac k).length ≤ k := by
  unfold halvesUpto ownUpto iota
  refine Nat.le_trans (List.length_filter_le _ _) (Nat.le_trans (List.length_filter_le _ _) ?_)
  simp
theorem halves_mem {n : Nat} {ac : Int} {k : Nat} {x : Int} (h : x ∈ halvesUpto n ac k) : ∃ j : Nat, x = (j : Int) ∧ j < k := by
  unfold halvesUpto ownUpto iota at h
  have h2 := (List.mem_filter.1 (List.mem_filter.1 h).1).1
  obtain ⟨j, hj, rfl⟩ := List.mem_map.1 h2
  exact ⟨j, rfl, List.mem_range.1 hj⟩
theorem own_split (o : List Int) (ac : Int) (k : Nat) (hk : k < o.length) (h1 : (k : Int) % 2 = ac) : ∃ r, own o ac = ownUpto ac k ++ (k : Int) :: r := by
  unfold own ownUpto iota
  obtain ⟨m, hm⟩ : ∃ m, o.length = k + (m + 1) := ⟨o.length - k - 1, by omega⟩
  rw [hm, List.range_add, List.range_succ_eq_map, List.map_append, List.filter_append]
  refine ⟨(((List.map Nat.succ (List.range m)).map (k + ·)).map (fun (i : Nat) => (i : Int))).filter (fun i => i % 2 == ac), ?_⟩
  congr 1
  simp only [List.map_cons, Nat.add_zero]
  rw [List.filter_cons, if_pos (by simpa using h1)]
theorem upto_none {l : List Sh} {lo hi : Int} {o : List Int} {ac : Int} {k : Nat} (h : ∀ j : Nat, j < k → (j : Int) % 2 = ac → solve1 l lo hi o ac j = none) :
    (ownUpto ac k).findSome? (fun i => (solve1 l lo hi o ac i).map fun s => (⟨rd o i, s⟩ : Ch)) = none := by
  rw [List.findSome?_eq_none_iff]
  intro x hx
  unfold ownUpto iota at hx
  obtain ⟨h1, h2⟩ := List.mem_filter.1 hx
  obtain ⟨j, hj, rfl⟩ := List.mem_map.1 h1
  rw [h j (List.mem_range.1 hj) (by simpa using h2)]
  rfl
theorem cure_first {l : List Sh} {lo hi : Int} {o : List Int} {ac : Int} {k : Nat} {s : Sh} (h0 : solve0 l lo hi o ac = false) (h : ∀ j : Nat, j < k → (j : Int) % 2 = ac → solve1 l lo hi o ac j = none) (hk : k < o.length) (h1 : (k : Int) % 2 = ac)
    (hs : solve1 l lo hi o ac k = some s) : cureSide l lo hi o ac = [⟨rd o k, s⟩] := by
  obtain ⟨r, hr⟩ := own_split o ac k hk h1
  unfold cureSide
  rw [if_neg (by simp [h0]), hr, List.findSome?_append, upto_none h, List.findSome?_cons, hs]
  rfl
theorem cure_last {l : List Sh} {lo hi : Int} {o : List Int} {ac : Int} (h0 : solve0 l lo hi o ac = false) (h : ∀ j : Nat, j < o.length → (j : Int) % 2 = ac → solve1 l lo hi o ac j = none) :
    cureSide l lo hi o ac = (halvesUpto l.length ac o.length).map fun i => ⟨rd o i, rdSh l (rd o ((o.length : Int) - 1 - i))⟩ := by
  unfold cureSide
  rw [if_neg (by simp [h0])]
  have := upto_none h
  unfold ownUpto at this
  unfold own
  rw [this]
  rfl
end Go.Proofs.Ytehfhbdhdbpfpaa.Own
end
section
namespace Go.Proofs.Ytehfhbdhdbpfpaa.Own
open Go.RowKit Go.Shelf Go.Proofs.YtehfhbdhdbpfpaaW.PrintWords Go.Proofs.YtehfhbdhdbpfpaaW.PrintLast Go.Proofs.YtehfhbdhdbpfpaaW.PrintMore Go.Proofs.Ytehfhbdhdbpfpaa.Print Go.Proofs.Ytehfhbdhdbpfpaa.Spec
set_option linter.unusedVariables false
set_option linter.unusedSimpArgs false
variable {Bd : Nat → Prop}
set_option maxRecDepth 100000 in
set_option maxHeartbeats 4000000 in
theorem cure_some (A : Option Addr) (c : Nat) (l : List Sh) (lo hi : Int) (pb mb : Nat) (A1 : Option Addr) (c1 : Nat) (o : List Int) (ac : Int) (w : World) (hp : PressM w pb mb A c l lo hi Bd) (hr1 : Kd.C (Kd.int .i64) w A1 o.length o) (hg : Plain.Good l) (hord : isOrd l.length o = true) (hlo : 0 ≤ lo ∧ lo ≤ 50) (hs : solve0 l lo hi o ac = false) (hBd : ∀ k, Bd k → k < w.heap.size) :
    Calls Try.prog 48 #[.pointer (some ⟨pb, 0, none⟩), .slice A1 o.length c1, .int .i64 ac] w (CureAns l lo hi o ac Bd w mb) := by
  have HBD := Lib.hid hBd
  clear hBd
  have HP := Lib.hid hp
  have HR1 := Lib.hid hr1
  have HG := Lib.hid hg
  have HO := Lib.hid hord
  have HS := Lib.hid hs
  have hl7 := hg.1
  have hl3 := hg.2.1
  have HOL := Lib.hid (Plain.ord_length hord)
  have hol : o.length ≤ 7 := by have := HOL.out; omega
  obtain ⟨es0, ck0, hmb0⟩ := hp.2.2.block
  have HMB := Lib.hid hmb0
  have hmbl := blk_lt hmb0
  clear hp hr1 hg hord hs hmb0
  go_enter Try.func48, Try.ntmps48
  go_wp2_with fail
  refine (solve_none A c l lo hi pb A1 c1 o ac w HP.out.1 HR1.out HG.out HO.out hlo).mono ?_
  rintro e w2 ⟨rfl, hb2⟩
  rw [HS.out]
  have HK2 := Lib.hid (show KS (fun k => k = mb) w w2 from KS.of_below hb2 _)
  have HC2 := Lib.hid (HP.out.2.2.below hb2)
  clear hb2
  go_wp2_with fail
  go_loopw [9, 26] (fun v i wr => ∃ k : Nat, k ≤ o.length ∧ i = .int .i64 k ∧ Hid (∀ j : Nat, j < k → (j : Int) % 2 = ac → solve1 l lo hi o ac j = none) ∧ Hid (Kd.R (Kd.int .i64) 3 wr w.heap.size (fun _ => True) v (halvesUpto l.length ac k)) ∧ Hid (KS (fun k => k = mb) w wr) ∧ Hid (CacheOk wr mb (sheetAt l lo hi) Bd)) (fun _ i _ => o.length - (intOf i).toNat)
  case atStart => exact ⟨0, Nat.zero_le _, rfl, Lib.hid (fun j h => absurd h (by omega)), Lib.hid (Kd.R_nil _ _ _ _ _), HK2, HC2⟩
  case round =>
    obtain ⟨k, hk, rfl, HN, HR, HK, HC⟩ := hrel
    clear HK2 HC2
    have hwr : w.heap.size ≤ wr.heap.size := HK.out.size
    by_cases hlt : k < o.length
    · have e0 : ((k + 1 : Nat) : Int) = (k : Int) + 1 := by omega
      have HE0 := Lib.hid e0
      clear e0
      cases hac : ((k : Int) % 2 != ac)
      · have HAC := Lib.hid (bne_eq_false_iff_eq.1 hac)
        have HPM := Lib.hid ((HP.out.ks HK.out HC.out).below (ba (b0 wr) (.cells #[.int .i64 (k : Int)] 3)))
        have HR1w := Lib.hid (Kd.C_below (C_ks_int HMB.out HK.out HR1.out) (ba (b0 wr) (.cells #[.int .i64 (k : Int)] 3)))
        go_wp2_with fail
        refine (solve_some A c l lo hi pb mb A1 c1 o ac k wr.heap.size 1 (wr.alloc (.cells #[.int .i64 (k : Int)] 3)) HPM.out HR1w.out HG.out HO.out hlo hlt (by simp) (Nat.le_refl _) (fun k hk => by have := HBD.out k hk; simp; omega)).mono ?_
        rintro e w3 ⟨v2, rfl, hk3, hc3, hm3⟩
        have HK3 := Lib.hid ((HK.out.alloc (.cells #[.int .i64 (k : Int)] 3)).trans hk3)
        have HKr := Lib.hid (((KS.refl (fun k => k = mb) wr).alloc (.cells #[.int .i64 (k : Int)] 3)).trans hk3)
        have HC3 := Lib.hid hc3
        have HM3 := Lib.hid hm3
        have hw3 : w.heap.size ≤ w3.heap.size := HK3.out.size
        clear hk3 hc3 hm3
        cases hs : solve1 l lo hi o ac (k : Int) with
        | some s =>
          have HS1 := Lib.hid hs
          go_wp2
          go_ret
          have hm := HM3.out
          rw [HS1.out] at hm
          exact ⟨_, rfl, HK3.out, HC3.out, by rw [cure_first HS.out HN.out hlt HAC.out HS1.out]; exact Kd.R_lower hm (by simp; omega)⟩
        | none =>
          have HS1 := Lib.hid hs
          have HN1 := Lib.hid (show ∀ j : Nat, j < k + 1 → (j : Int) % 2 = ac → solve1 l lo hi o ac j = none from fun j hj h1 => by
            by_cases e : j = k
            · subst e; exact HS1.out
            · exact HN.out j (by omega) h1)
          obtain ⟨es1, ck1, hmb1⟩ := HC.out.block
          have HR3 := Lib.hid (R_ks hmb1 HKr.out HR.out)
          clear hmb1
          clear hs
          have HPM3 := Lib.hid (HP.out.ks HK3.out HC3.out)
          have hd0 := HPM3.out.1.1
          have hpx := Plain.place_bd hl7 (k := k) (by have := HOL.out; omega)
          cases hpos : decide (place l.length (k : Int) > 0)
          · have HH := Lib.hid (halves_skip l.length ac k (fun h => by have := of_decide_eq_false hpos; omega))
            go_wp2_with fail
            refine (place_calls A l.length c pb (k : Int) w3 hl7 (by omega) (by omega) hd0).mono ?_
            rintro e w4 ⟨rfl, rfl⟩
            go_wp2
            go_roundw
            case rel => exact ⟨k + 1, by omega, HE0.out ▸ rfl, HN1, Lib.hid (by rw [HH.out]; exact HR3.out), HK3, HC3⟩
            case measure => simp [intOf]; omega
          · have HH := Lib.hid (halves_take l.length ac k HAC.out (of_decide_eq_true hpos))
            have hhl : (halvesUpto l.length ac k).length ≤ 7 := Nat.le_trans (halves_len _ _ _) (by omega)
            go_wp2_with fail
            refine (place_calls A l.length c pb (k : Int) w3 hl7 (by omega) (by omega) hd0).mono ?_
            rintro e w4 ⟨rfl, rfl⟩
            go_wp2_with ((with_reducible refine gate_builtin (b := .append) (xs := #[.tmp 48, .tmp 50]) rfl ?_); at_builtin; refine Kd.R_append (Kd.int .i64) (w0 := w3) w.heap.size rfl (.tmp 48) (.tmp 50) 27 3 (.int .i64 0) 8 rfl Try.underlying27 infoInt rfl (by decide) (by omega) u9 (halvesUpto l.length ac k) (k : Int) [.int .i64 (k : Int)] (fun _ => True) (fun _ => False) (by rfl) (by rfl) (by rfl) (fun _ h => h.elim) (fun _ _ => trivial) HR3.out (Below.refl _ w3) hw3 (by omega) ?_; intro v1 w4 ho hb hg hat; have HR4 := Lib.hid ho; have HB4 := Lib.hid hb; have HG4 := Lib.hid hg; clear ho hb hg hat)
            go_roundw
            case rel => exact ⟨k + 1, by omega, HE0.out ▸ rfl, HN1, Lib.hid (by rw [HH.out]; exact HR4.out), Lib.hid (HK3.out.afterB HB4.out), Lib.hid (HC3.out.grown HG4.out (fun b hb => by
              obtain ⟨_, inner, ho, _⟩ := HR3.out
              obtain ⟨cs, h⟩ := own_typed ho b hb
              exact ⟨_, _, _, h⟩))⟩
            case measure => simp [intOf]; omega
      · have HH := Lib.hid (halves_skip l.length ac k (fun h => by rw [h.1] at hac; simp at hac))
        have HN1 := Lib.hid (show ∀ j : Nat, j < k + 1 → (j : Int) % 2 = ac → solve1 l lo hi o ac j = none from fun j hj h1 => HN.out j (by
          by_cases e : j = k
          · subst e; rw [h1] at hac; simp at hac
          · omega) h1)
        go_wp2
        go_roundw
        case rel => exact ⟨k + 1, by omega, HE0.out ▸ rfl, HN1, Lib.hid (by rw [HH.out]; exact HR.out), HK, HC⟩
        case measure => simp [intOf]; omega
    · obtain rfl : k = o.length := by omega
      obtain ⟨wq, hwq⟩ : ∃ wq, wq = wr := ⟨_, rfl⟩
      subst hwq
      have HCL := Lib.hid (cure_last HS.out HN.out)
      have hxl : (halvesUpto l.length ac o.length).length ≤ 7 := Nat.le_trans (halves_len _ _ _) hol
      have HMEM := Lib.hid (show ∀ x ∈ halvesUpto l.length ac o.length, ∃ j : Nat, x = (j : Int) ∧ j < o.length from fun x hx => halves_mem hx)
      obtain ⟨xs, hxs⟩ : ∃ xs, halvesUpto l.length ac o.length = xs := ⟨_, rfl⟩
      rw [hxs] at HR HCL HMEM hxl
      obtain ⟨A3, c3, rfl, hc3, hrd⟩ := Kd.R_reads HR.out
      have HRD := Lib.hid hrd
      have HPM := Lib.hid (HP.out.ks HK.out HC.out)
      have HR1w := Lib.hid (C_ks_int HMB.out HK.out HR1.out)
      clear hxs hrd hlt
      go_wp2_with fail
      go_loopw [13, 55] (fun u i wr => ∃ k : Nat, k ≤ xs.length ∧ i = .int .i64 k ∧ Hid (Kd.R k54 54 wr wq.heap.size (fun _ => True) u ((xs.take k).map fun i => (⟨rd o i, rdSh l (rd o ((o.length : Int) - 1 - i))⟩ : Ch))) ∧ Hid (Below wq.heap.size wq wr)) (fun _ i _ => xs.length - (intOf i).toNat)
      case atStart => exact ⟨0, Nat.zero_le _, rfl, Lib.hid (Kd.R_nil _ _ _ _ _), Lib.hid (Below.refl _ _)⟩
      case round =>
        obtain ⟨k, hk, rfl, HU, HB⟩ := hrel
        have hwr : wq.heap.size ≤ wr.heap.size := HB.out.size
        by_cases hlt : k < xs.length
        · have e0 : ((k + 1 : Nat) : Int) = (k : Int) + 1 := by omega
          have HE0 := Lib.hid e0
          clear e0
          obtain ⟨ad3, rfl, hcx⟩ := C_cell (Kd.C_below HRD.out HB.out) k hlt
          obtain ⟨x, hx, hxo⟩ := HMEM.out xs[k] (List.getElem_mem hlt)
          rw [hx] at hcx
          obtain ⟨ad1, hA1, hco⟩ := C_cell (Kd.C_below HR1w.out HB.out) x hxo
          subst hA1
          obtain ⟨y, hy⟩ : ∃ y : Nat, (o.length : Int) - 1 - (x : Int) = (y : Int) := ⟨o.length - 1 - x, by omega⟩
          have hyo : y < o.length := by omega
          obtain ⟨ad1', hA1, hcy⟩ := C_cell (Kd.C_below HR1w.out HB.out) y hyo
          obtain rfl := Option.some.inj hA1
          have hzb := Plain.ord_get HO.out y hyo
          obtain ⟨z, hz⟩ : ∃ z : Nat, o[y] = (z : Int) := ⟨o[y].toNat, by omega⟩
          rw [hz] at hcy
          have hzl : z < l.length := by omega
          have HPB := Lib.hid (HPM.out.1.below HB.out)
          obtain ⟨ad, hA, hsh0, hsh1⟩ := C_cellSh HPB.out.2.2.2 z hzl
          have hpc := HPB.out.1
          rw [hA] at hpc
          obtain ⟨f0, hf0⟩ : ∃ f0, l[z].f0 = f0 := ⟨_, rfl⟩
          obtain ⟨f1, hf1⟩ : ∃ f1, l[z].f1 = f1 := ⟨_, rfl⟩
          rw [hf0] at hsh0
          rw [hf1] at hsh1
          have HNX := Lib.hid (show (xs.take (k + 1)).map (fun i => (⟨rd o i, rdSh l (rd o ((o.length : Int) - 1 - i))⟩ : Ch)) = (xs.take k).map (fun i => (⟨rd o i, rdSh l (rd o ((o.length : Int) - 1 - i))⟩ : Ch)) ++ [⟨o[x], ⟨f0, f1⟩⟩] by
            have h1 : rd o ((o.length : Int) - 1 - (x : Int)) = (z : Int) := by rw [hy, Plain.rd_get hyo, hz]
            have h2 : rdSh l (z : Int) = ⟨f0, f1⟩ := by rw [Plain.rdSh_get (by omega) (by omega), ← hf0, ← hf1]; simp
            rw [List.take_succ_eq_append_getElem hlt, List.map_append, List.map_cons, List.map_nil, hx, h1, h2, Plain.rd_get hxo])
          have hul : ((xs.take k).map (fun i => (⟨rd o i, rdSh l (rd o ((o.length : Int) - 1 - i))⟩ : Ch))).length ≤ 7 := by rw [List.length_map, List.length_take]; omega
          obtain ⟨ys, hys⟩ : ∃ ys, (xs.take k).map (fun i => (⟨rd o i, rdSh l (rd o ((o.length : Int) - 1 - i))⟩ : Ch)) = ys := ⟨_, rfl⟩
          rw [hys] at HNX HU hul
          obtain ⟨ox, hox⟩ : ∃ ox, o[x] = ox := ⟨_, rfl⟩
          rw [hox] at hco HNX
          clear hf0 hf1 hz hx hzb hA hys hox
          have hyl : (y : Int) < (o.length : Int) := by omega
          have hyw : IntKind.i64.wrap (IntKind.i64.wrap ((o.length : Int) - 1) - (x : Int)) = (y : Int) := by
            simp only [i64_w]
            unfold wrap64
            omega
          go_wp2_with fail
          go_region_law (refine Kd.R_append_step k54 (w0 := wr) wq.heap.size (by rfl) (.tmp 59) (.tmp 80) 43 54 (.agg #[(.int .i64 0), (.int .i64 0), (.int .i64 0)]) 24 rfl Try.underlying43 info54 rfl (by decide) (by omega) u13 ys (⟨ox, ⟨f0, f1⟩⟩ : Ch) [.int .i64 ox, .int .i64 f0, .int .i64 f1] (fun _ => True) (fun _ => False) (by rfl) (by rfl) (k54_mkM _ _ _ (⟨ox, ⟨f0, f1⟩⟩ : Ch)) (fun _ hk => hk.elim) (fun _ _ => trivial) (Kd.R_drew HU.out) (below_drew (Below.refl _ wr)) hwr (by omega) ?_
                         intro v1 w4 ho hb hg hat
                         have HR4 := Lib.hid ho
                         have HB4 := Lib.hid hb
                         clear ho hb hg hat)
          all_goals
            go_wp2
            go_roundw
            case rel => exact ⟨k + 1, by omega, HE0.out ▸ rfl, Lib.hid (by rw [HNX.out]; exact HR4.out), Lib.hid (HB.out.trans HB4.out)⟩
            case measure => simp [intOf]; omega
        · obtain rfl : k = xs.length := by omega
          have HT := Lib.hid (show xs.take xs.length = xs from List.take_length)
          go_wp2
          go_ret
          exact ⟨_, rfl, HK.out.after HB.out, HC.out.below HB.out, by rw [HCL.out]; have := HU.out; rw [HT.out] at this; exact Kd.R_lower this HK.out.size⟩
theorem cure_calls (A : Option Addr) (c : Nat) (l : List Sh) (lo hi : Int) (pb mb : Nat) (A1 : Option Addr) (c1 : Nat) (o : List Int) (ac : Int) (w : World) (hp : PressM w pb mb A c l lo hi Bd) (hr1 : Kd.C (Kd.int .i64) w A1 o.length o) (hg : Plain.Good l) (hord : isOrd l.length o = true) (hlo : 0 ≤ lo ∧ lo ≤ 50) (hBd : ∀ k, Bd k → k < w.heap.size) :
    Calls Try.prog 48 #[.pointer (some ⟨pb, 0, none⟩), .slice A1 o.length c1, .int .i64 ac] w (CureAns l lo hi o ac Bd w mb) := by
  cases hs : solve0 l lo hi o ac
  · exact cure_some A c l lo hi pb mb A1 c1 o ac w hp hr1 hg hord hlo hs hBd
  · exact cure_none A c l lo hi pb mb A1 c1 o ac w hp hr1 hg hord hlo hs
end Go.Proofs.Ytehfhbdhdbpfpaa.Own
end
