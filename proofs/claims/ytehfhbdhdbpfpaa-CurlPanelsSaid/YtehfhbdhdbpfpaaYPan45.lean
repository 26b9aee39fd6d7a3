/- Parts of a proof: Q1 Q2 V1. No condition. -/
import Derived.Test.YtehfhbdhdbpfpaaYPan17
import Derived.Test.YtehfhbdhdbpfpaaYPan36
import Derived.Test.YtehfhbdhdbpfpaaYPan44
namespace Go.Proofs.Ytehfhbdhdbpfpaa.Print
end Go.Proofs.Ytehfhbdhdbpfpaa.Print
namespace Go.Proofs.Ytehfhbdhdbpfpaa.Spec
end Go.Proofs.Ytehfhbdhdbpfpaa.Spec
namespace Go.Proofs.YtehfhbdhdbpfpaaW.PrintMore
end Go.Proofs.YtehfhbdhdbpfpaaW.PrintMore
namespace Go.Proofs.YtehfhbdhdbpfpaaW.PrintWords
end Go.Proofs.YtehfhbdhdbpfpaaW.PrintWords
set_option linter.unusedVariables false
set_option linter.unusedSimpArgs false
section
namespace Go.Proofs.Ytehfhbdhdbpfpaa.Plain
open Go.RowKit Go.Proofs.Ytehfhbdhdbpfpaa.Print Go.Proofs.YtehfhbdhdbpfpaaW.PrintWords Go.Proofs.YtehfhbdhdbpfpaaW.PrintMore Go.Proofs.Ytehfhbdhdbpfpaa.Spec
set_option linter.unusedVariables false
theorem w64' (x : Int) (h0 : -9223372036854775808 ≤ x) (h1 : x ≤ 9223372036854775807) : wrap64 x = x := by unfold wrap64; omega
theorem isSheet_f (a b : Int) : crossbandref07_isSheet.f a b = some (shOk ⟨a, b⟩) := by
  unfold crossbandref07_isSheet.f shOk
  by_cases h1 : a ≥ 0
  · rw [if_pos h1]
    by_cases h2 : a ≤ 100
    · rw [if_pos h2]
      by_cases h3 : b ≥ -10
      · rw [if_pos h3]
        have e1 : decide (0 ≤ a) = true := by simpa using h1
        have e2 : decide (-10 ≤ b) = true := by simpa using h3
        simp [e1, h2, e2]
      · rw [if_neg h3]
        have e2 : decide (-10 ≤ b) = false := by simpa using h3
        simp [e2]
    · rw [if_neg h2]; simp [h2]
  · rw [if_neg h1]
    have e1 : decide (0 ≤ a) = false := by simpa using h1
    simp [e1]
theorem panelLoop (l : List Sh) (lo hi : Int) (hl : l.length ≤ 7) : ∀ (d i : Nat), l.length - i = d → i ≤ l.length → ∀ k, d < k →
    crossbandref07_CheckPanel.l0 k l.length i l lo hi = some (if (l.drop i).any (fun s => !shOk s) = true ∨ lo < 0 ∨ lo > hi ∨ hi > 50 then 3 else 0)
  | 0, i, hd, hi', k, hk => by
    obtain ⟨k, rfl⟩ : ∃ m, k = m + 1 := ⟨k - 1, by omega⟩
    simp only [crossbandref07_CheckPanel.l0]
    rw [if_neg (by omega), List.drop_eq_nil_of_le (by omega)]
    by_cases h1 : lo < 0
    · rw [if_pos h1, if_pos (.inr (.inl h1))]
    · rw [if_neg h1]
      by_cases h2 : lo > hi
      · rw [if_pos h2, if_pos (.inr (.inr (.inl h2)))]
      · rw [if_neg h2]
        by_cases h3 : hi > 50
        · rw [if_pos h3, if_pos (.inr (.inr (.inr h3)))]
        · rw [if_neg h3, if_neg (by simp; omega)]
  | d + 1, i, hd, hi', k, hk => by
    obtain ⟨k, rfl⟩ : ∃ m, k = m + 1 := ⟨k - 1, by omega⟩
    simp only [crossbandref07_CheckPanel.l0]
    have hlt : i < l.length := by omega
    have hrd : rdSh l (i : Int) = l[i] := by rw [rdSh_get (by omega) (by omega)]; simp
    rw [if_pos (by omega), if_pos (by omega), if_pos (by omega), isSheet_f, Option.bind_some]
    have e : (⟨(rdSh l (i : Int)).f0, (rdSh l (i : Int)).f1⟩ : Sh) = l[i] := by rw [hrd]
    show (if shOk (⟨(rdSh l (i : Int)).f0, (rdSh l (i : Int)).f1⟩ : Sh) = true then _ else _) = _
    rw [e, List.drop_eq_getElem_cons hlt, List.any_cons]
    cases hs : shOk l[i]
    · simp
    · rw [if_pos rfl, w64' _ (by omega) (by omega)]
      have h := panelLoop l lo hi hl d (i + 1) (by omega) (by omega) k (by omega)
      simpa using h
theorem panel_f (l : List Sh) (lo hi : Int) (k : Nat) (hk : 20 ≤ k) : crossbandref07_CheckPanel.f k l lo hi = some (panel l lo hi) := by
  obtain ⟨k, rfl⟩ : ∃ m, k = m + 1 := ⟨k - 1, by omega⟩
  unfold crossbandref07_CheckPanel.f
  have main : l.length = 3 ∨ l.length = 5 ∨ l.length = 7 → crossbandref07_CheckPanel.l0 k (l.length : Int) 0 l lo hi = some (panel l lo hi) := by
    intro h
    have h2 := panelLoop l lo hi (by omega) l.length 0 (by omega) (by omega) k (by omega)
    rw [List.drop_zero] at h2
    refine h2.trans ?_
    unfold panel
    rw [if_neg (show ¬ (l.length < 3 ∨ 7 < l.length ∨ l.length % 2 = 0) by omega)]
    congr 1
    by_cases hA : (l.any (fun s => !shOk s)) = true
    · rw [if_pos (.inl hA), if_pos (.inl hA)]
    · by_cases h3 : lo < 0 ∨ lo > hi ∨ hi > 50
      · rw [if_pos (.inr h3), if_pos (.inr (by omega))]
      · rw [if_neg (fun h => h.elim hA h3), if_neg (fun h => h.elim hA (fun h => h3 (by omega)))]
  by_cases h3 : l.length = 3
  · rw [if_pos (by omega)]
    simp only [crossbandref07_CheckPanel.j0]
    rw [if_neg (by simp)]
    exact main (.inl h3)
  · rw [if_neg (by omega)]
    by_cases h5 : l.length = 5
    · rw [if_pos (by omega)]
      simp only [crossbandref07_CheckPanel.j0]
      rw [if_neg (by simp)]
      exact main (.inr (.inl h5))
    · rw [if_neg (by omega)]
      simp only [crossbandref07_CheckPanel.j0]
      by_cases h7 : l.length = 7
      · rw [if_neg (by simp; omega)]
        exact main (.inr (.inr h7))
      · rw [if_pos (by simp; omega)]
        unfold panel
        by_cases h9 : l.length < 3 ∨ 7 < l.length ∨ l.length % 2 = 0
        · rw [if_pos h9]
        · omega
theorem hasLoop (l : List Int) (x : Int) (hl : l.length ≤ 1000) : ∀ (d i : Nat), l.length - i = d → i ≤ l.length → ∀ k, d < k → crossbandref07_Has.l0 k l x i = some (decide (x ∈ l.drop i))
  | 0, i, hd, hi', k, hk => by
    obtain ⟨k, rfl⟩ : ∃ m, k = m + 1 := ⟨k - 1, by omega⟩
    simp only [crossbandref07_Has.l0]
    rw [if_neg (by omega), List.drop_eq_nil_of_le (by omega)]
    simp
  | d + 1, i, hd, hi', k, hk => by
    obtain ⟨k, rfl⟩ : ∃ m, k = m + 1 := ⟨k - 1, by omega⟩
    simp only [crossbandref07_Has.l0]
    have hlt : i < l.length := by omega
    rw [if_pos (by omega), if_pos (by omega), List.drop_eq_getElem_cons hlt]
    rw [rd_get hlt]
    by_cases e : l[i] = x
    · rw [if_pos e, decide_eq_true (by rw [e]; exact List.mem_cons_self)]
    · rw [if_neg e, w64' _ (by omega) (by omega)]
      have h := hasLoop l x hl d (i + 1) (by omega) (by omega) k (by omega)
      have e2 : ¬ x = l[i] := fun h => e h.symm
      rw [show ((i : Int) + 1) = ((i + 1 : Nat) : Int) by omega, h]
      congr 1
      rw [decide_eq_decide, List.mem_cons]
      exact ⟨.inr, fun h => h.resolve_left e2⟩
theorem has_f (l : List Int) (x : Int) (hl : l.length ≤ 1000) (k : Nat) (hk : l.length < k) : crossbandref07_Has.f k l x = some (decide (x ∈ l)) := by
  have h := hasLoop l x hl l.length 0 (by omega) (by omega) k hk
  rw [List.drop_zero] at h
  exact h
def begun (n : Nat) (o : List Int) (i : Nat) : Prop := ∀ j (hj : j < o.length), j < i → 0 ≤ o[j] ∧ o[j] < n ∧ o[j] ∉ o.take j
theorem ordLoop (l : List Sh) (lo hi : Int) (o : List Int) (hl : o.length ≤ 7) (hn : o.length = l.length) : ∀ (d i : Nat), o.length - i = d → i ≤ o.length → begun l.length o i → ∀ k, d + 10 < k →
    (begun l.length o o.length → crossbandref07_ordered.l0 k o i l lo hi = some 0) ∧ (¬ begun l.length o o.length → crossbandref07_ordered.l0 k o i l lo hi = some 16)
  | 0, i, hd, hi', hb, k, hk => by
    obtain ⟨k, rfl⟩ : ∃ m, k = m + 1 := ⟨k - 1, by omega⟩
    obtain rfl : i = o.length := by omega
    simp only [crossbandref07_ordered.l0]
    rw [if_neg (by omega)]
    exact ⟨fun _ => rfl, fun h => absurd hb h⟩
  | d + 1, i, hd, hi', hb, k, hk => by
    obtain ⟨k, rfl⟩ : ∃ m, k = m + 1 := ⟨k - 1, by omega⟩
    simp only [crossbandref07_ordered.l0]
    have hlt : i < o.length := by omega
    rw [if_pos (by omega), if_pos (by omega), rd_get hlt]
    by_cases h1 : o[i] < 0
    · rw [if_pos h1]
      exact ⟨fun h => absurd (h i hlt hlt).1 (by omega), fun _ => rfl⟩
    · rw [if_neg h1]
      by_cases h2 : o[i] ≥ (l.length : Int)
      · rw [if_pos h2]
        exact ⟨fun h => absurd (h i hlt hlt).2.1 (by omega), fun _ => rfl⟩
      · rw [if_neg h2, if_pos (by omega), has_f _ _ (by simp; omega) _ (by simp; omega), Option.bind_some]
        simp only [Int.toNat_natCast]
        by_cases h3 : o[i] ∈ o.take i
        · rw [if_pos (by simpa using h3)]
          exact ⟨fun h => absurd h3 (h i hlt hlt).2.2, fun _ => rfl⟩
        · rw [if_neg (by simpa using h3), w64' _ (by omega) (by omega)]
          exact ordLoop l lo hi o hl hn d (i + 1) (by omega) (by omega) (fun j hj hji => by
            by_cases e : j = i
            · subst e; exact ⟨by omega, by omega, h3⟩
            · exact hb j hj (by omega)) k (by omega)
theorem begun_ord {n : Nat} {o : List Int} (hn : o.length = n) : begun n o o.length ↔ isOrd n o = true := by
  constructor
  · intro h
    refine ord_of_nodup ?_ (fun x hx => ?_) hn
    · rw [List.nodup_iff_pairwise_ne, List.pairwise_iff_getElem]
      intro i j hi hj hij e
      exact (h j hj hj).2.2 (by rw [← e]; exact List.mem_take_iff_getElem.2 ⟨i, by omega, rfl⟩)
    · obtain ⟨j, hj, rfl⟩ := List.getElem_of_mem hx
      exact ⟨(h j hj hj).1, (h j hj hj).2.1⟩
  · intro h j hj _
    refine ⟨(ord_get h j hj).1, (ord_get h j hj).2, fun hm => ?_⟩
    obtain ⟨i, hi, e⟩ := List.mem_take_iff_getElem.1 hm
    have h2 := ord_nodup h
    rw [List.nodup_iff_pairwise_ne, List.pairwise_iff_getElem] at h2
    exact h2 i j (by omega) hj (by omega) e
theorem ordered_f (l : List Sh) (lo hi : Int) (o : List Int) (k : Nat) (hk : 30 ≤ k) : crossbandref07_ordered.f k l lo hi o = some (opened l lo hi o) := by
  unfold crossbandref07_ordered.f opened
  rw [panel_f l lo hi k (by omega), Option.bind_some]
  by_cases hp : panel l lo hi = 0
  · rw [if_pos hp, if_pos hp]
    have hg := (good_of_panel hp).1.1
    by_cases hn : o.length = l.length
    · rw [if_pos (by omega)]
      have h := ordLoop l lo hi o (by omega) hn o.length 0 (by omega) (by omega) (fun j hj h => absurd h (by omega)) k (by omega)
      by_cases ho : isOrd l.length o = true
      · rw [if_pos ho]; exact h.1 ((begun_ord hn).2 ho)
      · rw [if_neg ho]; exact h.2 (fun h2 => ho ((begun_ord hn).1 h2))
    · rw [if_neg (by omega), if_neg (by rw [not_ord_of_len hn]; simp)]
  · rw [if_neg hp, if_neg hp, Option.bind_some]
end Go.Proofs.Ytehfhbdhdbpfpaa.Plain
end
section
namespace Go.Proofs.Ytehfhbdhdbpfpaa.Plain
open Go.RowKit Go.Proofs.Ytehfhbdhdbpfpaa.Print Go.Proofs.YtehfhbdhdbpfpaaW.PrintWords Go.Proofs.YtehfhbdhdbpfpaaW.PrintMore Go.Proofs.Ytehfhbdhdbpfpaa.Spec
set_option linter.unusedVariables false
theorem place_f {n i : Nat} (hi : i ≤ 7) (hn : n ≤ 7) : crossbandref07_Place.f i n = some (place n i) := by
  unfold crossbandref07_Place.f place
  rw [Int.tdiv_eq_ediv_of_nonneg (by omega), w64' ((n : Int) / 2) (by omega) (by omega), w64' _ (by omega) (by omega)]
def mpart (l : List Sh) (o : List Int) (ac d : Int) (k : Nat) : Int := psum (fun s => s.f0) l o ac none k + psum (fun s => s.f1) l o ac none k * d
theorem mpart_all (l : List Sh) (o : List Int) (ac d : Int) : mpart l o ac d o.length = moment l o ac d := rfl
theorem mpart_bd {l : List Sh} (hg : Good l) {o : List Int} (hord : isOrd l.length o = true) (ac d : Int) (h0 : 0 ≤ d) (h1 : d ≤ 50) (k : Nat) (hk : k ≤ o.length) : -107100 ≤ mpart l o ac d k ∧ mpart l o ac d k ≤ 107100 := by
  have a := psum_f0 hg hord ac none k hk
  have b := psum_f1 hg hord ac none k hk
  have c := mul_bd2 b.1 b.2 h0 h1
  unfold mpart
  omega
theorem more_bd {m d : Int} (h0 : -10 ≤ m) (h1 : m ≤ 10) (h2 : 0 ≤ d) (h3 : d ≤ 50) : -500 ≤ m * d ∧ m * d ≤ 500 := by
  have a : (-10) * d ≤ m * d := Int.mul_le_mul_of_nonneg_right h0 h2
  have b : m * d ≤ 10 * d := Int.mul_le_mul_of_nonneg_right h1 h2
  omega
theorem pl_bd {a b : Int} (ha : -3 ≤ a) (ha' : a ≤ 3) (hb : -600 ≤ b) (hb' : b ≤ 600) : -1800 ≤ a * b ∧ a * b ≤ 1800 := by
  have : a = -3 ∨ a = -2 ∨ a = -1 ∨ a = 0 ∨ a = 1 ∨ a = 2 ∨ a = 3 := by omega
  rcases this with rfl | rfl | rfl | rfl | rfl | rfl | rfl <;> omega
theorem momentLoop {l : List Sh} (lo hi : Int) (hg : Good l) {o : List Int} (hord : isOrd l.length o = true) (ac d : Int) (h0 : 0 ≤ d) (h1 : d ≤ 50) : ∀ (m i : Nat), o.length - i = m → i ≤ o.length → ∀ k, m < k →
    crossbandref07_MomentOf.l0 k o d ac (mpart l o ac d i) i l lo hi = some (moment l o ac d)
  | 0, i, hd, hi', k, hk => by
    obtain ⟨k, rfl⟩ : ∃ m, k = m + 1 := ⟨k - 1, by omega⟩
    obtain rfl : i = o.length := by omega
    simp only [crossbandref07_MomentOf.l0]
    rw [if_neg (by omega), mpart_all]
  | m + 1, i, hd, hi', k, hk => by
    obtain ⟨k, rfl⟩ : ∃ m, k = m + 1 := ⟨k - 1, by omega⟩
    have hlt : i < o.length := by omega
    have hol := ord_length hord
    have hl7 := hg.1
    have ih := momentLoop lo hi hg hord ac d h0 h1 m (i + 1) (by omega) (by omega) k (by omega)
    simp only [crossbandref07_MomentOf.l0]
    rw [if_pos (by omega), Int.tmod_eq_emod_of_nonneg (by omega)]
    by_cases h2 : (i : Int) % 2 = ac
    · rw [if_pos h2, if_pos (by omega)]
      have hr := ord_rd hord hlt
      rw [if_pos hr.1, if_pos hr.2, show ((o.length : Nat) : Int) = ((l.length : Nat) : Int) by omega, place_f (by omega) hl7, Option.bind_some]
      have hs := good_rd hg hr.1 hr.2
      obtain ⟨q, hq⟩ : ∃ q, rdSh l (rd o i) = q := ⟨_, rfl⟩
      have hq2 : rd_T52 l (rd o (i : Int)) = q := hq
      rw [hq] at hs
      rw [hq2]
      have b1 := more_bd hs.2.2.1 hs.2.2.2 h0 h1
      have hp := place_bd hl7 (k := i) (by omega)
      have b2 := pl_bd hp.1 hp.2 (b := q.f0 + q.f1 * d) (by omega) (by omega)
      have b3 := mpart_bd hg hord ac d h0 h1 i hi'
      have b4 := mpart_bd hg hord ac d h0 h1 (i + 1) (by omega)
      have e : mpart l o ac d (i + 1) = mpart l o ac d i + place l.length i * (q.f0 + q.f1 * d) := by
        unfold mpart
        rw [psum_take _ _ _ _ _ _ ⟨h2, by simp⟩, psum_take _ _ _ _ _ _ ⟨h2, by simp⟩, hq, Int.add_mul, Int.mul_add, Int.mul_assoc]
        omega
      rw [w64' (q.f1 * d) (by omega) (by omega), w64' (q.f0 + q.f1 * d) (by omega) (by omega), w64' (place l.length i * (q.f0 + q.f1 * d)) (by omega) (by omega), ← e, w64' _ (by omega) (by omega), w64' _ (by omega) (by omega)]
      exact ih
    · rw [if_neg h2, w64' _ (by omega) (by omega)]
      have e : mpart l o ac d (i + 1) = mpart l o ac d i := by
        unfold mpart
        rw [psum_skip _ _ _ _ _ _ (fun h => h2 h.1), psum_skip _ _ _ _ _ _ (fun h => h2 h.1)]
      rw [← e]
      exact ih
theorem moment_f {l : List Sh} (lo hi : Int) (hg : Good l) {o : List Int} (hord : isOrd l.length o = true) (ac d : Int) (h0 : 0 ≤ d) (h1 : d ≤ 50) (k : Nat) (hk : 10 ≤ k) : crossbandref07_MomentOf.f k l lo hi o d ac = some (moment l o ac d) := by
  have hol := ord_length hord
  have hl7 := hg.1
  have h := momentLoop lo hi hg hord ac d h0 h1 o.length 0 (by omega) (by omega) k (by omega)
  unfold crossbandref07_MomentOf.f
  have e : mpart l o ac d 0 = 0 := by simp [mpart, psum]
  rw [e] at h
  exact h
theorem mx_abs (x m : Int) : mx (mx x m) (-m) = mmax x (mabs m) := by
  unfold mx mmax mabs
  repeat' split
  all_goals omega
theorem le_mmax {x y z : Int} : mmax x y ≤ z ↔ x ≤ z ∧ y ≤ z := by unfold mmax; split <;> omega
theorem mmax_le {x y : Int} : x ≤ mmax x y ∧ y ≤ mmax x y := by unfold mmax; split <;> omega
theorem curlOfLoop {l : List Sh} (lo hi : Int) (hg : Good l) {o : List Int} (hord : isOrd l.length o = true) (hhi : hi ≤ 50) : ∀ (m : Nat) (d x : Int), hi - d + 1 = m → 0 ≤ d → ∀ k, m + 12 < k →
    ∃ r, crossbandref07_CurlOf.l0 k o x d l lo hi = some r ∧ x ≤ r ∧ (∀ t, d ≤ t → t ≤ hi → curlAt l o t ≤ r) ∧ ∀ C, x ≤ C → (∀ t, d ≤ t → t ≤ hi → curlAt l o t ≤ C) → r ≤ C
  | 0, d, x, hd, h0, k, hk => by
    obtain ⟨k, rfl⟩ : ∃ m, k = m + 1 := ⟨k - 1, by omega⟩
    simp only [crossbandref07_CurlOf.l0]
    rw [if_neg (by omega)]
    exact ⟨x, rfl, Int.le_refl _, fun t h1 h2 => by omega, fun C h _ => h⟩
  | m + 1, d, x, hd, h0, k, hk => by
    obtain ⟨k, rfl⟩ : ∃ m, k = m + 1 := ⟨k - 1, by omega⟩
    simp only [crossbandref07_CurlOf.l0]
    rw [if_pos (by omega), moment_f lo hi hg hord 0 d h0 (by omega) k (by omega), Option.bind_some, moment_f lo hi hg hord 1 d h0 (by omega) k (by omega), Option.bind_some]
    have b0 := moment_bd hg hord 0 d h0 (by omega)
    have b1 := moment_bd hg hord 1 d h0 (by omega)
    rw [w64' _ (by omega) (by omega), w64' _ (by omega) (by omega), w64' _ (by omega) (by omega), mx_abs, mx_abs, mmax_assoc]
    have hc : mmax (mabs (moment l o 0 d)) (mabs (moment l o 1 d)) = curlAt l o d := rfl
    rw [hc]
    obtain ⟨r, h1, h2, h3, h4⟩ := curlOfLoop lo hi hg hord hhi m (d + 1) (mmax x (curlAt l o d)) (by omega) (by omega) k (by omega)
    have h5 := @mmax_le x (curlAt l o d)
    refine ⟨r, h1, by omega, fun t ht1 ht2 => ?_, fun C hx hC => h4 C (le_mmax.2 ⟨hx, hC d (Int.le_refl _) (by omega)⟩) (fun t ht1 ht2 => hC t (by omega) ht2)⟩
    by_cases e : t = d
    · subst e; omega
    · exact h3 t (by omega) ht2
theorem between (a b lo hi t : Int) (h1 : lo ≤ t) (h2 : t ≤ hi) : mabs (a + b * t) ≤ mmax (mabs (a + b * lo)) (mabs (a + b * hi)) := by
  by_cases hb : 0 ≤ b
  · have e1 : b * lo ≤ b * t := Int.mul_le_mul_of_nonneg_left h1 hb
    have e2 : b * t ≤ b * hi := Int.mul_le_mul_of_nonneg_left h2 hb
    unfold mabs mmax
    repeat' split
    all_goals omega
  · have e1 : b * t ≤ b * lo := Int.mul_le_mul_of_nonpos_left (by omega) h1
    have e2 : b * hi ≤ b * t := Int.mul_le_mul_of_nonpos_left (by omega) h2
    unfold mabs mmax
    repeat' split
    all_goals omega
theorem curlAt_le (l : List Sh) (o : List Int) (lo hi t : Int) (h1 : lo ≤ t) (h2 : t ≤ hi) : curlAt l o t ≤ curlV l lo hi o := by
  unfold curlV curlAt
  have e0 := between (sumP l o 0 none) (sumM l o 0 none) lo hi t h1 h2
  have e1 := between (sumP l o 1 none) (sumM l o 1 none) lo hi t h1 h2
  refine le_mmax.2 ⟨?_, ?_⟩
  · refine Int.le_trans e0 (le_mmax.2 ⟨?_, ?_⟩)
    · exact Int.le_trans mmax_le.1 mmax_le.1
    · exact Int.le_trans mmax_le.1 mmax_le.2
  · refine Int.le_trans e1 (le_mmax.2 ⟨?_, ?_⟩)
    · exact Int.le_trans mmax_le.2 mmax_le.1
    · exact Int.le_trans mmax_le.2 mmax_le.2
theorem curlAt_nn (l : List Sh) (o : List Int) (t : Int) : 0 ≤ curlAt l o t := Int.le_trans (mabs_ge _) mmax_le.1
theorem curlOf_f {l : List Sh} {lo hi : Int} (hg : Good l) {o : List Int} (hord : isOrd l.length o = true) (h0 : 0 ≤ lo) (hlh : lo ≤ hi) (hhi : hi ≤ 50) (k : Nat) (hk : 80 ≤ k) : crossbandref07_CurlOf.f k l lo hi o = some (curlV l lo hi o) := by
  unfold crossbandref07_CurlOf.f
  obtain ⟨r, h1, h2, h3, h4⟩ := curlOfLoop lo hi hg hord hhi (hi - lo + 1).toNat lo 0 (by omega) h0 k (by omega)
  rw [h1]
  congr 1
  refine Int.le_antisymm (h4 _ ?_ (fun t ht1 ht2 => curlAt_le l o lo hi t ht1 ht2)) (le_mmax.2 ⟨h3 lo (Int.le_refl _) hlh, h3 hi hlh (Int.le_refl _)⟩)
  exact Int.le_trans (curlAt_nn l o lo) mmax_le.1
theorem refCurl_f (l : List Sh) (lo hi : Int) (o : List Int) (k : Nat) (hk : 80 ≤ k) : crossbandref07_Curl.f k l lo hi o = some (if opened l lo hi o = 0 then (curlV l lo hi o, 0) else (0, opened l lo hi o)) := by
  unfold crossbandref07_Curl.f
  rw [ordered_f l lo hi o k (by omega), Option.bind_some]
  by_cases h : opened l lo hi o = 0
  · have h2 : panel l lo hi = 0 ∧ isOrd l.length o = true := by
      unfold opened at h
      by_cases hp : panel l lo hi = 0
      · rw [if_pos hp] at h
        by_cases ho : isOrd l.length o = true
        · exact ⟨hp, ho⟩
        · rw [if_neg ho] at h; omega
      · rw [if_neg hp] at h; exact absurd h hp
    obtain ⟨hg, a, b, c, _⟩ := good_of_panel h2.1
    rw [if_pos h, if_pos h, curlOf_f hg h2.2 a b c k hk, Option.bind_some]
  · rw [if_neg h, if_neg h, Option.bind_some]
theorem opened_ok {l : List Sh} {lo hi : Int} {o : List Int} (h : opened l lo hi o = 0) : panel l lo hi = 0 ∧ isOrd l.length o = true := by
  unfold opened at h
  by_cases hp : panel l lo hi = 0
  · rw [if_pos hp] at h
    by_cases ho : isOrd l.length o = true
    · exact ⟨hp, ho⟩
    · rw [if_neg ho] at h; omega
  · rw [if_neg hp] at h; exact absurd h hp
theorem refMoments_f (l : List Sh) (lo hi : Int) (o : List Int) (d : Int) (k : Nat) (hk : 80 ≤ k) :
    crossbandref07_Moments.f k l lo hi o d = some (if opened l lo hi o = 0 then (if lo ≤ d ∧ d ≤ hi then (moment l o 0 d, moment l o 1 d, 0) else (0, 0, 3)) else (0, 0, opened l lo hi o)) := by
  obtain ⟨k, rfl⟩ : ∃ m, k = m + 1 := ⟨k - 1, by omega⟩
  unfold crossbandref07_Moments.f
  rw [ordered_f l lo hi o (k + 1) (by omega), Option.bind_some]
  by_cases h : opened l lo hi o = 0
  · obtain ⟨hp, ho⟩ := opened_ok h
    obtain ⟨hg, a, b, c, _⟩ := good_of_panel hp
    rw [if_pos h, if_pos h]
    simp only [crossbandref07_Moments.j0]
    by_cases h1 : d < lo
    · rw [if_pos h1, if_pos trivial, if_neg (by omega)]
    · rw [if_neg h1]
      by_cases h2 : d > hi
      · rw [if_pos (by simpa using h2), if_neg (by omega)]
      · rw [if_neg (by simpa using h2), if_pos (by omega), moment_f lo hi hg ho 0 d (by omega) (by omega) k (by omega), Option.bind_some, moment_f lo hi hg ho 1 d (by omega) (by omega) k (by omega), Option.bind_some]
  · rw [if_neg h, if_neg h, Option.bind_some]
end Go.Proofs.Ytehfhbdhdbpfpaa.Plain
end
section
namespace Go.Proofs.Ytehfhbdhdbpfpaa.Plain
open Go.RowKit Go.Proofs.Ytehfhbdhdbpfpaa.Print Go.Proofs.YtehfhbdhdbpfpaaW.PrintWords Go.Proofs.YtehfhbdhdbpfpaaW.PrintMore Go.Proofs.Ytehfhbdhdbpfpaa.Spec
set_option linter.unusedVariables false
theorem works_f : (crossbandlaw07_Works.f.bind fun t => some t) = some true := rfl
theorem curlPanels (l : List Sh) (lo hi : Int) (o : List Int) (d : Int) : crossbandlaw07_CurlPanels.f 100 l lo hi o d = some true := by
  unfold crossbandlaw07_CurlPanels.f crossbandlaw07_great.f
  rw [Option.bind_some]
  by_cases hg : (l.length : Int) > 10
  · rw [if_pos (by simpa using hg)]
    simp only [crossbandlaw07_CurlPanels.j0, if_true]
    exact works_f
  · rw [if_neg (by simpa using hg)]
    simp only [crossbandlaw07_CurlPanels.j0]
    by_cases ho : (o.length : Int) > 10
    · rw [if_pos (by simpa using ho)]
      exact works_f
    · have ho' : o.length ≤ 12 := by omega
      rw [if_neg (by simpa using ho), refMoments_f l lo hi o d 99 (by omega), refCurl_f l lo hi o 99 (by omega), panel_f l lo hi 99 (by omega)]
      unfold curl_Moments.f curl_Curl.f curl_CheckPanel.f
      rw [if_pos ho', if_pos ho']
      simp only [Option.bind_some, if_true]
      rfl
end Go.Proofs.Ytehfhbdhdbpfpaa.Plain
end
