/- Parts of a proof: P4 C12. No condition. -/
import Derived.Test.YtehfhbdhdbpfpaaYPan10
import Derived.Test.YtehfhbdhdbpfpaaYPan11
import Derived.Test.YtehfhbdhdbpfpaaYPan16
import Derived.Deep.RegionLaw
import Derived.Deep.QuietTactic
namespace Go.Proofs.Ytehfhbdhdbpfpaa.Print
end Go.Proofs.Ytehfhbdhdbpfpaa.Print
namespace Go.Proofs.Ytehfhbdhdbpfpaa.Spec
end Go.Proofs.Ytehfhbdhdbpfpaa.Spec
namespace Go.Proofs.YtehfhbdhdbpfpaaW.PrintLast
end Go.Proofs.YtehfhbdhdbpfpaaW.PrintLast
namespace Go.Proofs.YtehfhbdhdbpfpaaW.PrintMore
end Go.Proofs.YtehfhbdhdbpfpaaW.PrintMore
namespace Go.Proofs.YtehfhbdhdbpfpaaW.PrintWords
end Go.Proofs.YtehfhbdhdbpfpaaW.PrintWords
set_option linter.unusedVariables false
set_option linter.unusedSimpArgs false
section
namespace Go.Proofs.Ytehfhbdhdbpfpaa.Plain
open Go.RowKit Go.Proofs.Ytehfhbdhdbpfpaa.Print Go.Proofs.YtehfhbdhdbpfpaaW.PrintWords Go.Proofs.Ytehfhbdhdbpfpaa.Spec
set_option linter.unusedVariables false
theorem iota_mem {n : Nat} {i : Int} : i ∈ iota n ↔ 0 ≤ i ∧ i < n := by
  unfold iota
  rw [List.mem_map]
  constructor
  · rintro ⟨k, hk, rfl⟩
    have := List.mem_range.1 hk
    omega
  · rintro ⟨h0, h1⟩
    exact ⟨i.toNat, List.mem_range.2 (by omega), by omega⟩
theorem iota_len (n : Nat) : (iota n).length = n := by simp [iota]
theorem iota_nodup (n : Nat) : (iota n).Nodup := by
  unfold iota
  rw [List.nodup_iff_pairwise_ne, List.pairwise_map]
  exact List.nodup_range.imp (by intro a b h; omega)
theorem sub_perm : ∀ (l1 l2 : List Int), l1.Nodup → (∀ i ∈ l1, i ∈ l2) → ∃ r, l2.Perm (l1 ++ r)
  | [], l2, _, _ => ⟨l2, List.Perm.refl _⟩
  | a :: l, l2, h1, h2 => by
    rw [List.nodup_cons] at h1
    have ha := List.perm_cons_erase (h2 a (by simp))
    obtain ⟨r, hr⟩ := sub_perm l (l2.erase a) h1.2 (fun i hi => (List.mem_erase_of_ne (by rintro rfl; exact h1.1 hi)).2 (h2 i (by simp [hi])))
    exact ⟨r, ha.trans (List.Perm.cons a hr)⟩
theorem ord_of_nodup {n : Nat} {b : List Int} (h1 : b.Nodup) (h2 : ∀ i ∈ b, 0 ≤ i ∧ i < (n : Int)) (h3 : b.length = n) : isOrd n b = true := by
  unfold isOrd
  rw [List.isPerm_iff]
  obtain ⟨r, hr⟩ := sub_perm b (iota n) h1 (fun i hi => iota_mem.2 (h2 i hi))
  have hl := hr.length_eq
  rw [List.length_append, iota_len] at hl
  obtain rfl : r = [] := List.eq_nil_of_length_eq_zero (by omega)
  rw [List.append_nil] at hr
  exact hr.symm
theorem ord_nodup {n : Nat} {b : List Int} (h : isOrd n b = true) : b.Nodup := by
  unfold isOrd at h
  rw [List.isPerm_iff] at h
  exact h.nodup_iff.2 (iota_nodup n)
theorem goPerms_ord {n : Nat} : ∀ (m : Nat) (b : List Int), b.Nodup → (∀ i ∈ b, 0 ≤ i ∧ i < (n : Int)) → b.length + m = n → ∀ x ∈ goPerms n m b, isOrd n x = true
  | 0, b, h1, h2, h3, x, hx => by
    simp [goPerms] at hx
    subst hx
    exact ord_of_nodup h1 h2 (by omega)
  | m + 1, b, h1, h2, h3, x, hx => by
    rw [goPerms, List.mem_flatMap] at hx
    obtain ⟨i, hi, hx⟩ := hx
    by_cases hib : i ∈ b
    · simp [hib] at hx
    · rw [if_neg hib] at hx
      refine goPerms_ord m (b ++ [i]) ?_ ?_ (by simp; omega) x hx
      · rw [List.nodup_append]
        refine ⟨h1, by simp, ?_⟩
        rintro a ha c hc rfl
        simp at hc
        subst hc
        exact hib ha
      · intro j hj
        rw [List.mem_append, List.mem_singleton] at hj
        rcases hj with hj | rfl
        · exact h2 j hj
        · exact iota_mem.1 hi
theorem perms_ord {n : Nat} {x : List Int} (h : x ∈ perms n) : isOrd n x = true := goPerms_ord n [] (by simp) (by simp) (by simp) x h
theorem fresh {n : Nat} {b : List Int} (h : b.length < n) : ∃ i ∈ iota n, i ∉ b := by
  by_cases hs : ∃ i ∈ iota n, i ∉ b
  · exact hs
  · exfalso
    have hsub : ∀ i ∈ iota n, i ∈ b := fun i hi => by
      by_cases hib : i ∈ b
      · exact hib
      · exact absurd ⟨i, hi, hib⟩ hs
    obtain ⟨r, hr⟩ := sub_perm (iota n) b (iota_nodup n) hsub
    have := hr.length_eq
    rw [List.length_append, iota_len] at this
    omega
theorem goPerms_ne {n : Nat} : ∀ (m : Nat) (b : List Int), b.length + m = n → goPerms n m b ≠ []
  | 0, b, h => by simp [goPerms]
  | m + 1, b, h => by
    obtain ⟨i, hi, hib⟩ := fresh (n := n) (b := b) (by omega)
    have h1 := goPerms_ne (n := n) m (b ++ [i]) (by simp; omega)
    obtain ⟨x, hx⟩ := List.exists_mem_of_ne_nil _ h1
    intro h0
    have : x ∈ goPerms n (m + 1) b := by
      rw [goPerms, List.mem_flatMap]
      exact ⟨i, hi, by rw [if_neg hib]; exact hx⟩
    rw [h0] at this
    simp at this
theorem flatMap_two {α β : Type} (f : α → List β) (a b : α) (l : List α) (ha : f a ≠ []) (hb : f b ≠ []) : 2 ≤ ((a :: b :: l).flatMap f).length := by
  rw [List.flatMap_cons, List.flatMap_cons, List.length_append, List.length_append]
  have := List.length_pos_iff.2 ha
  have := List.length_pos_iff.2 hb
  omega
theorem perms_two {n : Nat} (h : 2 ≤ n) : 2 ≤ (perms n).length := by
  obtain ⟨m, rfl⟩ : ∃ m, n = m + 2 := ⟨n - 2, by omega⟩
  unfold perms
  rw [goPerms]
  have he : ∃ r, iota (m + 2) = 0 :: 1 :: r := by
    refine ⟨(iota (m + 2)).drop 2, ?_⟩
    unfold iota
    rw [List.range_succ_eq_map, List.range_succ_eq_map]
    rfl
  obtain ⟨r, hr⟩ := he
  rw [hr]
  refine flatMap_two _ _ _ _ ?_ ?_
  · simp only [List.not_mem_nil, if_false]; exact goPerms_ne _ _ (by simp; omega)
  · simp only [List.not_mem_nil, if_false]; exact goPerms_ne _ _ (by simp; omega)
end Go.Proofs.Ytehfhbdhdbpfpaa.Plain
end
section
namespace Go.Proofs.Ytehfhbdhdbpfpaa.Own
open Go.RowKit Go.Shelf Go.Proofs.YtehfhbdhdbpfpaaW.PrintWords Go.Proofs.YtehfhbdhdbpfpaaW.PrintLast Go.Proofs.YtehfhbdhdbpfpaaW.PrintMore Go.Proofs.Ytehfhbdhdbpfpaa.Print Go.Proofs.Ytehfhbdhdbpfpaa.Spec
set_option linter.unusedVariables false
set_option linter.unusedSimpArgs false
theorem ordEnc.reads {n base : Nat} {x : List Int} {A' : Option Addr} {c' : Nat} {W : World} (h : ordEnc n base x (.slice A' x.length c') W) : Kd.C (Kd.int .i64) W A' x.length x := by
  obtain ⟨A2, c2, e, _, hr⟩ := Kd.R_reads (Kd.R_of_own h.2.1 (fun _ _ => trivial))
  simp only [Value.slice.injEq] at e
  obtain ⟨rfl, _, _⟩ := e
  exact hr
theorem ordEnc.below {n base : Nat} {x : List Int} {v : Value} {W W' : World} (h : ordEnc n base x v W) (hb : Below W.heap.size W W') : ordEnc n base x v W' := h.keep (fun k cs _ h1 => hb.block k (blk_lt h1))
def curlLt (l : List Sh) (lo hi : Int) (x y : List Int) : Bool := decide (curlV l lo hi x < curlV l lo hi y)
def LtIn (w : World) (K pb : Nat) (A : Option Addr) (c : Nat) (l : List Sh) (lo hi : Int) : Prop :=
  w.cell? ⟨K, 0, none⟩ = some (.func (.func 41) #[.pointer (some ⟨pb, 0, none⟩)] #[]) ∧ PressIn w pb A c l lo hi
theorem LtIn.below {w w' : World} {K pb : Nat} {A : Option Addr} {c : Nat} {l : List Sh} {lo hi : Int} (h : LtIn w K pb A c l lo hi) (hb : Below w.heap.size w w') : LtIn w' K pb A c l lo hi :=
  ⟨(hb.cell (World.block_lt_of_cell? w _ h.1)).trans h.1, h.2.below hb⟩
set_option maxRecDepth 100000 in
set_option maxHeartbeats 1600000 in
theorem less_calls (A : Option Addr) (c : Nat) (l : List Sh) (lo hi : Int) (K pb : Nat) (base : Nat) (x y : List Int) (Ax Ay : Option Addr) (cx cy : Nat) (w : World) (h : LtIn w K pb A c l lo hi) (hx : ordEnc l.length base x (.slice Ax x.length cx) w) (hy : ordEnc l.length base y (.slice Ay y.length cy) w)
    (hg : Plain.Good l) (hox : isOrd l.length x = true) (hoy : isOrd l.length y = true) (hlo : 0 ≤ lo ∧ lo ≤ 50) (hhi : 0 ≤ hi ∧ hi ≤ 50) :
    Calls Try.prog 57 #[.slice Ax x.length cx, .slice Ay y.length cy, .pointer (some ⟨K, 0, none⟩)] w fun e w' => e = .returned (.bool (curlLt l lo hi x y)) ∧ Below w.heap.size w w' := by
  have HL := Lib.hid h
  have HX := Lib.hid (show ∀ W, Below w.heap.size w W → Calls Try.prog 41 #[.pointer (some ⟨pb, 0, none⟩), .slice Ax x.length cx] W fun e w' => e = .returned (.int .i64 (curlV l lo hi x)) ∧ Below W.heap.size W w' from
    fun W hB => curl_calls A c l lo hi pb Ax cx x W (h.below hB).2 (hx.below hB).reads hg hox hlo hhi)
  have HY := Lib.hid (show ∀ W, Below w.heap.size w W → Calls Try.prog 41 #[.pointer (some ⟨pb, 0, none⟩), .slice Ay y.length cy] W fun e w' => e = .returned (.int .i64 (curlV l lo hi y)) ∧ Below W.heap.size W w' from
    fun W hB => curl_calls A c l lo hi pb Ay cy y W (h.below hB).2 (hy.below hB).reads hg hoy hlo hhi)
  have HC := Lib.hid (show ∀ W, Below w.heap.size w W → W.cell? ⟨K, 0, none⟩ = some (.func (.func 41) #[.pointer (some ⟨pb, 0, none⟩)] #[]) from fun W hB => (h.below hB).1)
  have hc := h.1
  have HE := Lib.hid (show curlLt l lo hi x y = decide (curlV l lo hi x < curlV l lo hi y) from rfl)
  have HBn := Lib.hid (show Below w.heap.size w w.drew from (b0 w).drew)
  obtain ⟨vx, hvx⟩ : ∃ v, curlV l lo hi x = v := ⟨_, rfl⟩
  obtain ⟨vy, hvy⟩ : ∃ v, curlV l lo hi y = v := ⟨_, rfl⟩
  rw [hvx] at HX HE
  rw [hvy] at HY HE
  clear h hx hy hg hox hoy hvx hvy
  go_enter Try.func57, Try.ntmps57
  go_wp2_with fail
  go_region_law (first
    | (go_simp
       go_at_call_of 41 (Value.slice Ax x.length cx)
       refine (HX.out _ HBn.out).mono ?_
       rintro e w2 ⟨rfl, hb⟩
       have HBn := Lib.hid (bt HBn.out hb)
       have hc := HC.out _ HBn.out
       clear hb)
    | (go_simp
       go_at_call_of 41 (Value.slice Ay y.length cy)
       refine (HY.out _ HBn.out).mono ?_
       rintro e w2 ⟨rfl, hb⟩
       have HBn := Lib.hid (bt HBn.out hb)
       have hc := HC.out _ HBn.out
       clear hb))
  all_goals go_wp2
  all_goals go_ret
  all_goals exact ⟨by rw [HE.out]; rfl, HBn.out⟩
def bestUpto (lt : List Int → List Int → Bool) (xs : List (List Int)) (k : Nat) : List Int := bestBy lt (xs.headD []) ((xs.drop 1).take k)
theorem bestUpto_succ (lt : List Int → List Int → Bool) (xs : List (List Int)) (k : Nat) (hk : k + 1 < xs.length) : bestUpto lt xs (k + 1) = if lt xs[k + 1] (bestUpto lt xs k) then xs[k + 1] else bestUpto lt xs k := by
  unfold bestUpto bestBy
  have h : (xs.drop 1)[k]'(by simp; omega) = xs[k + 1] := by rw [List.getElem_drop]; congr 1; omega
  rw [List.take_succ_eq_append_getElem (by simp; omega), List.foldl_append, h]
  rfl
theorem bestUpto_mem (lt : List Int → List Int → Bool) (xs : List (List Int)) (h0 : xs ≠ []) : ∀ k, k < xs.length → bestUpto lt xs k ∈ xs
  | 0, _ => by
    obtain ⟨x, r, rfl⟩ := List.exists_cons_of_ne_nil h0
    simp [bestUpto, bestBy]
  | k + 1, hk => by
    rw [bestUpto_succ lt xs k hk]
    split
    · exact List.getElem_mem _
    · exact bestUpto_mem lt xs h0 k (by omega)
set_option maxRecDepth 100000 in
set_option maxHeartbeats 1600000 in
theorem best_calls (A : Option Addr) (c : Nat) (l : List Sh) (lo hi : Int) (K pb : Nat) (base g cap : Nat) (xs : List (List Int)) (hs : List Value) (w : World) (h : LtIn w K pb A c l lo hi)
    (hrow : w.ownsRow base 27 1 (.slice (some ⟨g, 0, none⟩) xs.length cap) xs.length hs) (hin : OrdsIn l.length base xs hs w) (h2 : 2 ≤ xs.length) (hm : xs.length ≤ 1000000)
    (hg : Plain.Good l) (hox : ∀ x ∈ xs, isOrd l.length x = true) (hlo : 0 ≤ lo ∧ lo ≤ 50) (hhi : 0 ≤ hi ∧ hi ≤ 50) :
    Calls Try.prog 56 #[.slice (some ⟨g, 0, none⟩) xs.length cap, .func (.func 57) #[] #[.pointer (some ⟨K, 0, none⟩)]] w
      fun e w' => ∃ v, e = .returned v ∧ ordEnc l.length base (bestBy (curlLt l lo hi) (xs.headD []) (xs.drop 1)) v w' ∧ Below w.heap.size w w' := by
  have hcap : xs.length ≤ cap := by
    rcases hrow.2 with ⟨hv, _⟩ | ⟨g', cap', cur, hv, _, _, hle, _⟩
    · cases hv
    · simp only [Value.slice.injEq] at hv
      omega
  have HH := Lib.hid (show ∀ k, k < xs.length → ∃ A' c', ∃ x, ∃ hx : xs[k]? = some x, w.cell? ⟨g, k, none⟩ = some (.slice A' x.length c') ∧ ordEnc l.length base x (.slice A' x.length c') w from by
    intro k hk
    have hk2 : k < hs.length := by rw [hin.1]; exact hk
    have h3 := hin.2 k xs[k] hs[k] (List.getElem?_eq_getElem hk) (List.getElem?_eq_getElem hk2)
    obtain ⟨A', c', e⟩ := h3.1
    refine ⟨A', c', xs[k], List.getElem?_eq_getElem hk, ?_, e ▸ h3⟩
    rcases hrow.2 with ⟨hv, _⟩ | ⟨g', cap', cur, hv, _, hh, _, _, _, htk⟩
    · cases hv
    · simp only [Value.slice.injEq, Option.some.injEq, Addr.mk.injEq, and_true] at hv
      obtain ⟨rfl, _, _⟩ := hv
      rw [blk_cell hh k]
      have h4 : (cur.toList.take (xs.length * 1))[k]? = some hs[k] := by rw [htk]; exact List.getElem?_eq_getElem hk2
      rw [List.getElem?_take, if_pos (by omega)] at h4
      rw [← e, ← h4]
      simp)
  have HL := Lib.hid h
  have HG := Lib.hid hg
  have HO := Lib.hid hox
  have hgl : g < w.heap.size := by
    rcases hrow.2 with ⟨hv, _⟩ | ⟨g', cap', cur, hv, _, hh, _⟩
    · cases hv
    · simp only [Value.slice.injEq, Option.some.injEq, Addr.mk.injEq, and_true] at hv
      obtain ⟨rfl, _, _⟩ := hv
      exact blk_lt hh
  obtain ⟨A0, c0, x0, hx0, hc0, he0⟩ := HH.out 0 (by omega)
  have HE0 := Lib.hid he0
  have HX0 := Lib.hid (show bestUpto (curlLt l lo hi) xs 0 = x0 by
    cases xs with
    | nil => simp at hx0
    | cons a r => simp at hx0; subst hx0; rfl)
  have hcap2 : 2 ≤ cap := by omega
  have hcn : cap ≠ 1 := by omega
  obtain ⟨n, hn⟩ : ∃ n, xs.length = n + 1 := ⟨xs.length - 1, by omega⟩
  obtain ⟨cap1, hcap1⟩ : ∃ cap1, cap = cap1 + 1 := ⟨cap - 1, by omega⟩
  clear h hrow hin hg hox hx0 he0
  go_enter Try.func56, Try.ntmps56
  go_wp2_with fail
  have HN := Lib.hid hn
  have HCP := Lib.hid hcap1
  have hnm : n ≤ 1000000 := by omega
  clear hn hcap1 hcn
  go_loopw [5, 14] (fun v i wr => ∃ k : Nat, k ≤ n ∧ i = .int .i64 k ∧ ∃ A' c', ∃ y : List Int, v = .slice A' y.length c' ∧ Hid (ordEnc l.length base y (.slice A' y.length c') wr) ∧ Hid (bestUpto (curlLt l lo hi) xs k = y) ∧ Hid (Below w.heap.size w wr)) (fun _ i _ => n - (intOf i).toNat)
  case atStart => exact ⟨0, Nat.zero_le _, rfl, A0, c0, x0, rfl, HE0, HX0, Lib.hid (b0 w)⟩
  case round =>
    obtain ⟨k, hk, rfl, A', c', y, rfl, HY, HBE, HB⟩ := hrel
    clear HE0 HX0 hc0
    by_cases hlt : k < n
    · obtain ⟨A1, c1, x, hx, hc1, he1⟩ := HH.out (k + 1) (by rw [HN.out]; omega)
      have hcx : wr.cell? ⟨g, 1 + k, none⟩ = some (.slice A1 x.length c1) := by
        rw [Nat.add_comm]; exact (HB.out.cell (p := ⟨g, k + 1, none⟩) hgl).trans hc1
      have HX := Lib.hid (he1.below HB.out)
      have HGX := Lib.hid (show xs[k + 1]'(by rw [HN.out]; omega) = x by rw [List.getElem?_eq_getElem (by rw [HN.out]; omega)] at hx; exact Option.some.inj hx)
      have HOX := Lib.hid (show isOrd l.length x = true from HO.out x (List.mem_of_getElem? hx))
      have HOY := Lib.hid (show isOrd l.length y = true from by rw [← HBE.out]; exact HO.out _ (bestUpto_mem _ _ (by intro e; rw [e] at h2; simp at h2) k (by rw [HN.out]; omega)))
      have HLW := Lib.hid (HL.out.below HB.out)
      have HS := Lib.hid (bestUpto_succ (curlLt l lo hi) xs k (by rw [HN.out]; omega))
      rw [HGX.out, HBE.out] at HS
      have e0 : ((k + 1 : Nat) : Int) = (k : Int) + 1 := by omega
      have HE0 := Lib.hid e0
      clear he1 hc1 hx e0
      cases hlt2 : curlLt l lo hi x y
      · have HLT := Lib.hid hlt2
        clear hlt2
        go_wp2_with fail
        refine (less_calls A c l lo hi K pb base x y A1 A' c1 c' wr HLW.out HX.out HY.out HG.out HOX.out HOY.out hlo hhi).mono ?_
        rintro e w2 ⟨rfl, hb2⟩
        rw [HLT.out]
        have HB2 := Lib.hid (bt HB.out hb2)
        have HY2 := Lib.hid (HY.out.below hb2)
        clear hb2
        go_wp2
        go_roundw
        case rel => exact ⟨k + 1, by omega, HE0.out ▸ rfl, A', c', y, rfl, HY2, Lib.hid (by rw [HS.out, HLT.out]; rfl), HB2⟩
        case measure => simp [intOf]; omega
      · have HLT := Lib.hid hlt2
        clear hlt2
        go_wp2_with fail
        refine (less_calls A c l lo hi K pb base x y A1 A' c1 c' wr HLW.out HX.out HY.out HG.out HOX.out HOY.out hlo hhi).mono ?_
        rintro e w2 ⟨rfl, hb2⟩
        rw [HLT.out]
        have HB2 := Lib.hid (bt HB.out hb2)
        have HX2 := Lib.hid (HX.out.below hb2)
        clear hb2
        go_wp2
        go_roundw
        case rel => exact ⟨k + 1, by omega, HE0.out ▸ rfl, A1, c1, x, rfl, HX2, Lib.hid (by rw [HS.out, HLT.out]; rfl), HB2⟩
        case measure => simp [intOf]; omega
    · obtain rfl : k = n := by omega
      have HR := Lib.hid (show bestBy (curlLt l lo hi) (xs.headD []) (xs.drop 1) = y by
        rw [← HBE.out]; unfold bestUpto; rw [List.take_of_length_le (by have := HN.out; simp; omega)])
      go_wp2
      go_ret
      exact ⟨_, rfl, by rw [HR.out]; exact HY.out, HB.out⟩
end Go.Proofs.Ytehfhbdhdbpfpaa.Own
end
