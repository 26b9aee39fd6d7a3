/- Parts of a proof: C5 P3. No condition. -/
import Derived.Test.YtehfhbdhdbpfpaaYPan07
import Derived.Test.YtehfhbdhdbpfpaaYPan10
namespace Go.Proofs.Ytehfhbdhdbpfpaa.Lib
end Go.Proofs.Ytehfhbdhdbpfpaa.Lib
namespace Go.Proofs.Ytehfhbdhdbpfpaa.Print
end Go.Proofs.Ytehfhbdhdbpfpaa.Print
namespace Go.Proofs.Ytehfhbdhdbpfpaa.Spec
end Go.Proofs.Ytehfhbdhdbpfpaa.Spec
namespace Go.Proofs.YtehfhbdhdbpfpaaW.PrintLast
end Go.Proofs.YtehfhbdhdbpfpaaW.PrintLast
namespace Go.Proofs.YtehfhbdhdbpfpaaW.PrintMore
end Go.Proofs.YtehfhbdhdbpfpaaW.PrintMore
namespace Go.Proofs.YtehfhbdhdbpfpaaW.PrintWords
end Go.Proofs.YtehfhbdhdbpfpaaW.PrintWords
set_option linter.unusedVariables false
set_option linter.unusedSimpArgs false
section
namespace Go.Proofs.Ytehfhbdhdbpfpaa.Own
open Go.RowKit Go.Shelf Go.Proofs.YtehfhbdhdbpfpaaW.PrintWords Go.Proofs.YtehfhbdhdbpfpaaW.PrintLast Go.Proofs.YtehfhbdhdbpfpaaW.PrintMore Go.Proofs.Ytehfhbdhdbpfpaa.Print Go.Proofs.Ytehfhbdhdbpfpaa.Spec
set_option linter.unusedVariables false
set_option linter.unusedSimpArgs false
def pressCells (A : Option Addr) (c : Nat) (l : List Sh) (lo hi : Int) (mb : Nat) : Array Value := #[.slice A l.length c, .int .i64 lo, .int .i64 hi, .map (some mb)]
def Opened (A : Option Addr) (c : Nat) (l : List Sh) (lo hi : Int) (w : World) (e : Ending) (w' : World) : Prop :=
  ∃ pb mb, e = .returned (.tuple #[.pointer (some ⟨pb, 0, none⟩), .int .i64 0]) ∧ w'.heap[pb]? = some (.cells (pressCells A c l lo hi mb) 84 (0, 0)) ∧
    w'.heap[mb]? = some (.map #[] 0) ∧ w.heap.size ≤ pb ∧ w.heap.size ≤ mb ∧ pb ≠ mb ∧ Below w.heap.size w w'
def Refused (x : Int) (w : World) (e : Ending) (w' : World) : Prop := e = .returned (.tuple #[.pointer none, .int .i64 x]) ∧ Below w.heap.size w w'
set_option maxHeartbeats 800000 in
theorem open0_err (A : Option Addr) (c : Nat) (l : List Sh) (lo hi x : Int) (v : Value) (w : World) (hr : Kd.C k52 w A l.length l) (hx : panel l lo hi = x) (h0 : x ≠ 0) :
    Calls Try.prog 36 #[.agg #[.slice A l.length c, .int .i64 lo, .int .i64 hi], v] w (Refused x w) := by
  have HR := Lib.hid hr
  have HX := Lib.hid hx
  have h1 : (x != 0) = true := by simpa using h0
  clear hr hx h0
  go_enter Try.func36, Try.ntmps36
  go_wp2_with fail
  refine (checkPanel_calls A c l lo hi _ (Kd.C_below HR.out (ba (b0 w) _))).mono ?_
  rintro e w1 ⟨rfl, hb1⟩
  rw [HX.out]
  go_wp2
  go_ret2
  exact ⟨rfl, bt (ba (b0 w) _) hb1⟩
set_option maxRecDepth 100000 in
set_option maxHeartbeats 800000 in
theorem open0_ok (A : Option Addr) (c : Nat) (l : List Sh) (lo hi : Int) (w : World) (hr : Kd.C k52 w A l.length l) (hx : panel l lo hi = 0) :
    Calls Try.prog 36 #[.agg #[.slice A l.length c, .int .i64 lo, .int .i64 hi], .slice none 0 0] w (Opened A c l lo hi w) := by
  have HR := Lib.hid hr
  have HX := Lib.hid hx
  have hmm := @run_makeMap Try.prog
  clear hr hx
  go_enter Try.func36, Try.ntmps36
  go_wp2_with fail
  refine (checkPanel_calls A c l lo hi _ (Kd.C_below HR.out (ba (b0 w) _))).mono ?_
  rintro e w1 ⟨rfl, hb1⟩
  rw [HX.out]
  have hc0 : w1.cell? ⟨w.heap.size, 0, none⟩ = some (.slice A l.length c) := (hb1.cell (by simp)).trans (by simp)
  have hc1 : w1.cell? ⟨w.heap.size, 1, none⟩ = some (.int .i64 lo) := (hb1.cell (by simp)).trans (by simp)
  have hc2 : w1.cell? ⟨w.heap.size, 2, none⟩ = some (.int .i64 hi) := (hb1.cell (by simp)).trans (by simp)
  have HB := Lib.hid (bt (ba (b0 w) _) hb1)
  clear hb1
  go_wp2
  refine wp_loop_once ?_
  go_wp2
  go_ret2
  exact ⟨w1.heap.size + 1, w1.heap.size, rfl, by simpa [pressCells] using World.alloc_heap_new (w1.alloc (.map #[] 0)) _, by simpa using (Below.heap_alloc _ _ _ (by simp)).trans (World.alloc_heap_new w1 (.map #[] 0)),
    by have := HB.out.size; omega, HB.out.size, by omega, ba (ba HB.out _) _⟩
set_option maxRecDepth 100000 in
set_option maxHeartbeats 1600000 in
theorem open1_ok (A : Option Addr) (c : Nat) (l : List Sh) (lo hi : Int) (A1 : Option Addr) (c1 : Nat) (o : List Int) (g : Nat) (w : World) (hr : Kd.C k52 w A l.length l) (hx : panel l lo hi = 0)
    (hr1 : Kd.C (Kd.int .i64) w A1 o.length o) (hlen : o.length ≤ 12) (hg : w.cell? ⟨g, 0, none⟩ = some (.slice A1 o.length c1)) (hord : isOrd l.length o = true) :
    Calls Try.prog 36 #[.agg #[.slice A l.length c, .int .i64 lo, .int .i64 hi], .slice (some ⟨g, 0, none⟩) 1 1] w (Opened A c l lo hi w) := by
  have hgl : g < w.heap.size := World.block_lt_of_cell? w _ hg
  have HL := Lib.hid (Plain.ord_length hord)
  have HR := Lib.hid hr
  have HR1 := Lib.hid hr1
  have HX := Lib.hid hx
  have HO := Lib.hid hord
  have hmm := @run_makeMap Try.prog
  clear hr hx hr1 hord
  go_enter Try.func36, Try.ntmps36
  go_wp2_with fail
  refine (checkPanel_calls A c l lo hi _ (Kd.C_below HR.out (ba (b0 w) _))).mono ?_
  rintro e w1 ⟨rfl, hb1⟩
  rw [HX.out]
  have hc0 : w1.cell? ⟨w.heap.size, 0, none⟩ = some (.slice A l.length c) := (hb1.cell (by simp)).trans (by simp)
  have hc1 : w1.cell? ⟨w.heap.size, 1, none⟩ = some (.int .i64 lo) := (hb1.cell (by simp)).trans (by simp)
  have hc2 : w1.cell? ⟨w.heap.size, 2, none⟩ = some (.int .i64 hi) := (hb1.cell (by simp)).trans (by simp)
  have HC := Lib.hid (⟨hc0, hc1, hc2⟩ : _ ∧ _ ∧ _)
  have hs1 : w.heap.size < w1.heap.size := by have := hb1.size; simp at this; omega
  have HS1 := Lib.hid hs1
  have HB := Lib.hid (bt (ba (b0 w) _) hb1)
  clear hb1 hc0 hc1 hc2
  go_wp2_with fail
  go_loopw [19] (fun i wr => ∃ k : Nat, k ≤ 1 ∧ i = .int .i64 k ∧ Hid (Below w1.heap.size w1 wr)) (fun i _ => 1 - (intOf i).toNat)
  case atStart => exact ⟨0, by omega, rfl, Lib.hid (b0 w1)⟩
  case round =>
    obtain ⟨k, hk, rfl, HW⟩ := hrel
    have HBW := Lib.hid (bt HB.out HW.out)
    have hsw : w.heap.size < wr.heap.size := by have := HW.out.size; omega
    by_cases hlt : k < 1
    · obtain rfl : k = 0 := by omega
      have hgw : wr.cell? ⟨g, 0, none⟩ = some (.slice A1 o.length c1) := (HBW.out.cell (p := ⟨g, 0, none⟩) hgl).trans hg
      go_wp2_with fail
      refine (values_calls A1 o.length c1 _).mono ?_
      rintro e w2 ⟨rfl, rfl⟩
      go_wp2_with fail
      refine (sorted_ints A1 c1 o wr.heap.size _ hlen (by simp) (by simp) (Kd.C_below HR1.out (ba HBW.out _))).mono ?_
      rintro e w3 ⟨v, r, rfl, hp, hs, hR, hB3⟩
      have hq := Lib.hid (Plain.sorted_of_ord hp hs HO.out)
      have hm : r.length ≤ 12 := by have := hp.length_eq; omega
      obtain ⟨A3, c3, rfl, _, hC3⟩ := Kd.R_reads hR
      have HC3 := Lib.hid hC3
      have HB3 := Lib.hid (bt (ba HW.out _) hB3)
      clear hp hs hR hB3 hC3
      have hne : ((o.length : Int) != (l.length : Int)) = false := by rw [bne_eq_false_iff_eq]; have := HL.out; omega
      have hsz3 : w.heap.size < w3.heap.size := by have := HB3.out.size; omega
      go_wp2_with fail
      go_loop [28] (fun i => ∃ k : Nat, k ≤ r.length ∧ i = .int .i64 k) (fun i => r.length - (intOf i).toNat)
      case atStart => exact ⟨0, Nat.zero_le _, rfl⟩
      case round =>
        obtain ⟨k, hk, rfl⟩ := hrel
        by_cases hlt2 : k < r.length
        · obtain ⟨ad, rfl, hcx⟩ := C_cell HC3.out k hlt2
          have hqk := hq.out k hlt2
          rw [hqk] at hcx
          clear hqk
          go_wp2
          go_round
          case rel => exact ⟨k + 1, by omega, by go_num⟩
          case measure => simp [intOf]; omega
        · have hc0 : w3.cell? ⟨w.heap.size, 0, none⟩ = some (.slice A l.length c) := (HB3.out.cell (p := ⟨w.heap.size, 0, none⟩) HS1.out).trans HC.out.1
          have HB3' := Lib.hid (HB3.out)
          go_wp2
          go_roundw
          case rel => exact ⟨1, by omega, rfl, HB3'.out⟩
          case measure => simp [intOf]
    · obtain rfl : k = 1 := by omega
      have hc0 : wr.cell? ⟨w.heap.size, 0, none⟩ = some (.slice A l.length c) := (HW.out.cell (p := ⟨w.heap.size, 0, none⟩) HS1.out).trans HC.out.1
      have hc1 : wr.cell? ⟨w.heap.size, 1, none⟩ = some (.int .i64 lo) := (HW.out.cell (p := ⟨w.heap.size, 1, none⟩) HS1.out).trans HC.out.2.1
      have hc2 : wr.cell? ⟨w.heap.size, 2, none⟩ = some (.int .i64 hi) := (HW.out.cell (p := ⟨w.heap.size, 2, none⟩) HS1.out).trans HC.out.2.2
      go_wp2
      go_ret2
      exact ⟨wr.heap.size + 1, wr.heap.size, rfl, by simpa [pressCells] using World.alloc_heap_new (wr.alloc (.map #[] 0)) _, by simpa using (Below.heap_alloc _ _ _ (by simp)).trans (World.alloc_heap_new wr (.map #[] 0)),
        by omega, by omega, by omega, ba (ba HBW.out _) _⟩
set_option maxRecDepth 100000 in
set_option maxHeartbeats 1600000 in
theorem open1_bad (A : Option Addr) (c : Nat) (l : List Sh) (lo hi : Int) (A1 : Option Addr) (c1 : Nat) (o : List Int) (g : Nat) (w : World) (hr : Kd.C k52 w A l.length l) (hx : panel l lo hi = 0)
    (hr1 : Kd.C (Kd.int .i64) w A1 o.length o) (hlen : o.length ≤ 12) (hg : w.cell? ⟨g, 0, none⟩ = some (.slice A1 o.length c1)) (hord : isOrd l.length o = false) :
    Calls Try.prog 36 #[.agg #[.slice A l.length c, .int .i64 lo, .int .i64 hi], .slice (some ⟨g, 0, none⟩) 1 1] w (Refused 16 w) := by
  have hgl : g < w.heap.size := World.block_lt_of_cell? w _ hg
  have HR := Lib.hid hr
  have HR1 := Lib.hid hr1
  have HX := Lib.hid hx
  have HO := Lib.hid hord
  have hmm := @run_makeMap Try.prog
  clear hr hx hr1 hord
  go_enter Try.func36, Try.ntmps36
  go_wp2_with fail
  refine (checkPanel_calls A c l lo hi _ (Kd.C_below HR.out (ba (b0 w) _))).mono ?_
  rintro e w1 ⟨rfl, hb1⟩
  rw [HX.out]
  have hc0 : w1.cell? ⟨w.heap.size, 0, none⟩ = some (.slice A l.length c) := (hb1.cell (by simp)).trans (by simp)
  have HC := Lib.hid hc0
  have hs1 : w.heap.size < w1.heap.size := by have := hb1.size; simp at this; omega
  have HS1 := Lib.hid hs1
  have HB := Lib.hid (bt (ba (b0 w) _) hb1)
  clear hb1 hc0
  go_wp2_with fail
  go_loopw [19] (fun i wr => i = .int .i64 0 ∧ Hid (Below w1.heap.size w1 wr)) (fun _ _ => 0)
  case atStart => exact ⟨rfl, Lib.hid (b0 w1)⟩
  case round =>
    obtain ⟨rfl, HW⟩ := hrel
    have HBW := Lib.hid (bt HB.out HW.out)
    have hsw : w.heap.size < wr.heap.size := by have := HW.out.size; omega
    have hgw : wr.cell? ⟨g, 0, none⟩ = some (.slice A1 o.length c1) := (HBW.out.cell (p := ⟨g, 0, none⟩) hgl).trans hg
    go_wp2_with fail
    refine (values_calls A1 o.length c1 _).mono ?_
    rintro e w2 ⟨rfl, rfl⟩
    go_wp2_with fail
    refine (sorted_ints A1 c1 o wr.heap.size _ hlen (by simp) (by simp) (Kd.C_below HR1.out (ba HBW.out _))).mono ?_
    rintro e w3 ⟨v, r, rfl, hp, hs, hR, hB3⟩
    have HPS := Lib.hid (⟨hp, hs⟩ : _ ∧ _)
    obtain ⟨A3, c3, rfl, _, hC3⟩ := Kd.R_reads hR
    have HC3 := Lib.hid hC3
    have HB3 := Lib.hid (bt (ba HW.out _) hB3)
    have HBT := Lib.hid (bt HB.out HB3.out)
    clear hp hs hR hB3 hC3
    have hsz3 : w.heap.size < w3.heap.size := by have := HB3.out.size; omega
    have hm : r.length ≤ 12 := by have := HPS.out.1.length_eq; omega
    go_wp2_with fail
    go_loop [28] (fun i => ∃ k : Nat, k ≤ r.length ∧ i = .int .i64 k ∧ Hid (∀ j (hj : j < r.length), j < k → r[j] = (j : Int))) (fun i => r.length - (intOf i).toNat)
    case atStart => exact ⟨0, Nat.zero_le _, rfl, Lib.hid (fun j hj h => absurd h (by omega))⟩
    case round =>
      obtain ⟨k, hk, rfl, HP⟩ := hrel
      by_cases hlt2 : k < r.length
      · obtain ⟨ad, rfl, hcx⟩ := C_cell HC3.out k hlt2
        cases hq : (r[k] != (k : Int))
        · have HQ := Lib.hid (bne_eq_false_iff_eq.1 hq)
          rw [HQ.out] at hcx
          clear hq
          go_wp2
          go_round
          case rel => exact ⟨k + 1, by omega, by go_num, Lib.hid (fun j hj h => by
            by_cases e : j = k
            · subst e; exact HQ.out
            · exact HP.out j hj (by omega))⟩
          case measure => simp [intOf]; omega
        · go_wp2
          go_ret2
          exact ⟨rfl, HBT.out⟩
      · have hc0 : w3.cell? ⟨w.heap.size, 0, none⟩ = some (.slice A l.length c) := (HB3.out.cell (p := ⟨w.heap.size, 0, none⟩) HS1.out).trans HC.out
        have hne : ((o.length : Int) != (l.length : Int)) = true := by
          rw [bne_iff_ne]
          intro e
          have h1 := Plain.ord_of_sorted HPS.out.1 (n := l.length) (by omega) (fun j hj => HP.out j hj (by omega))
          rw [HO.out] at h1
          cases h1
        go_wp2
        go_ret2
        exact ⟨rfl, HBT.out⟩
end Go.Proofs.Ytehfhbdhdbpfpaa.Own
end
section
namespace Go.Proofs.Ytehfhbdhdbpfpaa.Plain
open Go.RowKit Go.Proofs.YtehfhbdhdbpfpaaW.PrintWords Go.Proofs.Ytehfhbdhdbpfpaa.Print Go.Proofs.Ytehfhbdhdbpfpaa.Spec Go.Proofs.Ytehfhbdhdbpfpaa.Lib
set_option linter.unusedVariables false
def Good (l : List Sh) : Prop := l.length ≤ 7 ∧ 3 ≤ l.length ∧ ∀ j (hj : j < l.length), 0 ≤ l[j].f0 ∧ l[j].f0 ≤ 100 ∧ -10 ≤ l[j].f1 ∧ l[j].f1 ≤ 10
theorem good_of_panel {l : List Sh} {lo hi : Int} (h : panel l lo hi = 0) : Good l ∧ 0 ≤ lo ∧ lo ≤ hi ∧ hi ≤ 50 ∧ l.length % 2 = 1 := by
  unfold panel at h
  split at h
  · omega
  · split at h
    · omega
    · rename_i h1 h2
      have h3 : l.any (fun s => !shOk s) = false := by
        cases hh : l.any (fun s => !shOk s) with
        | false => rfl
        | true => exact absurd (.inl hh) h2
      refine ⟨⟨by omega, by omega, fun j hj => ?_⟩, by omega, by omega, by omega, by omega⟩
      have := List.any_eq_false.1 h3 l[j] (List.getElem_mem hj)
      simp [shOk] at this
      omega
theorem rdSh_get {l : List Sh} {i : Int} (h0 : 0 ≤ i) (h1 : i < l.length) : rdSh l i = l[i.toNat]'(by omega) := by
  have : i.toNat < l.length := by omega
  simp [rdSh, rd_T52, List.getD_eq_getElem?_getD, this]
theorem rd_get {o : List Int} {k : Nat} (hk : k < o.length) : rd o (k : Int) = o[k] := by
  simp [rd, List.getD_eq_getElem?_getD, hk]
theorem good_rd {l : List Sh} (hg : Good l) {i : Int} (h0 : 0 ≤ i) (h1 : i < l.length) : 0 ≤ (rdSh l i).f0 ∧ (rdSh l i).f0 ≤ 100 ∧ -10 ≤ (rdSh l i).f1 ∧ (rdSh l i).f1 ≤ 10 := by
  rw [rdSh_get h0 h1]; exact hg.2.2 _ _
theorem place_bd {n : Nat} (hn : n ≤ 7) {k : Nat} (hk : k < n) : -3 ≤ place n k ∧ place n k ≤ 3 := by unfold place; omega
theorem mul_bd {a b : Int} (ha : -3 ≤ a) (ha' : a ≤ 3) (hb : -100 ≤ b) (hb' : b ≤ 100) : -300 ≤ a * b ∧ a * b ≤ 300 := by
  have : a = -3 ∨ a = -2 ∨ a = -1 ∨ a = 0 ∨ a = 1 ∨ a = 2 ∨ a = 3 := by omega
  rcases this with rfl | rfl | rfl | rfl | rfl | rfl | rfl <;> omega
theorem mul_bd2 {a b : Int} (ha : -2100 ≤ a) (ha' : a ≤ 2100) (hb : 0 ≤ b) (hb' : b ≤ 50) : -105000 ≤ a * b ∧ a * b ≤ 105000 := by
  have h1 : (-2100) * b ≤ a * b := Int.mul_le_mul_of_nonneg_right ha hb
  have h2 : a * b ≤ 2100 * b := Int.mul_le_mul_of_nonneg_right ha' hb
  omega
theorem psum_bd (g : Sh → Int) (l : List Sh) (o : List Int) (ac : Int) (sk : Option Int) (hl : l.length ≤ 7) (hg : ∀ k : Nat, k < o.length → -100 ≤ g (rdSh l (rd o k)) ∧ g (rdSh l (rd o k)) ≤ 100) (hlen : o.length = l.length) :
    ∀ k : Nat, k ≤ o.length → -(300 * (k : Int)) ≤ psum g l o ac sk k ∧ psum g l o ac sk k ≤ 300 * k := by
  intro k
  induction k with
  | zero => intro _; simp [psum]
  | succ k ih =>
    intro hk
    have h1 := ih (by omega)
    have h2 := hg k (by omega)
    have h3 := place_bd hl (k := k) (by omega)
    have h4 := mul_bd h3.1 h3.2 h2.1 h2.2
    simp only [psum]
    split <;> omega
theorem ord_rd {l : List Sh} {o : List Int} (hord : isOrd l.length o = true) {k : Nat} (hk : k < o.length) : 0 ≤ rd o k ∧ rd o k < l.length := by
  rw [rd_get hk]; exact ord_get hord k hk
theorem psum_f0 {l : List Sh} (hg : Good l) {o : List Int} (hord : isOrd l.length o = true) (ac : Int) (sk : Option Int) (k : Nat) (hk : k ≤ o.length) :
    -2100 ≤ psum (fun s => s.f0) l o ac sk k ∧ psum (fun s => s.f0) l o ac sk k ≤ 2100 := by
  have hl := ord_length hord
  have h1 := hg.1
  have := psum_bd (fun s => s.f0) l o ac sk hg.1 (fun j hj => by have := good_rd hg (ord_rd hord hj).1 (ord_rd hord hj).2; omega) hl k hk
  omega
theorem psum_f1 {l : List Sh} (hg : Good l) {o : List Int} (hord : isOrd l.length o = true) (ac : Int) (sk : Option Int) (k : Nat) (hk : k ≤ o.length) :
    -2100 ≤ psum (fun s => s.f1) l o ac sk k ∧ psum (fun s => s.f1) l o ac sk k ≤ 2100 := by
  have hl := ord_length hord
  have h1 := hg.1
  have := psum_bd (fun s => s.f1) l o ac sk hg.1 (fun j hj => by have := good_rd hg (ord_rd hord hj).1 (ord_rd hord hj).2; omega) hl k hk
  omega
theorem moment_bd {l : List Sh} (hg : Good l) {o : List Int} (hord : isOrd l.length o = true) (ac d : Int) (h0 : 0 ≤ d) (h1 : d ≤ 50) : -107100 ≤ moment l o ac d ∧ moment l o ac d ≤ 107100 := by
  have a := psum_f0 hg hord ac none o.length (Nat.le_refl _)
  have b := psum_f1 hg hord ac none o.length (Nat.le_refl _)
  have c := mul_bd2 b.1 b.2 h0 h1
  unfold moment sumP sumM
  omega
theorem mabs_ge (x : Int) : 0 ≤ mabs x := by unfold mabs; split <;> omega
theorem mmax_zero (x y : Int) : mmax 0 (mmax (mabs x) y) = mmax (mabs x) y := by
  have := mabs_ge x
  unfold mmax
  split <;> split <;> first | rfl | omega
theorem mmax_assoc (x y z : Int) : mmax (mmax x y) z = mmax x (mmax y z) := by
  unfold mmax
  repeat' split
  all_goals first | rfl | omega
theorem psum_skip (g : Sh → Int) (l : List Sh) (o : List Int) (ac : Int) (sk : Option Int) (k : Nat) (h : ¬ ((k : Int) % 2 = ac ∧ sk ≠ some (k : Int))) : psum g l o ac sk (k + 1) = psum g l o ac sk k := by
  simp only [psum]; rw [if_neg h]; omega
theorem psum_take (g : Sh → Int) (l : List Sh) (o : List Int) (ac : Int) (sk : Option Int) (k : Nat) (h : (k : Int) % 2 = ac ∧ sk ≠ some (k : Int)) : psum g l o ac sk (k + 1) = psum g l o ac sk k + place l.length k * g (rdSh l (rd o k)) := by
  simp only [psum]; rw [if_pos h]
theorem index_f (xs : List Int) (x : Int) (hn : xs.length ≤ 1000) : ∀ (d i : Nat), xs.length - i = d → i ≤ xs.length → ∃ k r, slices_Index_int_int.l0 k xs x xs.length i = some r ∧ (r ≥ 0 ↔ x ∈ xs.drop i) := by
  intro d
  induction d with
  | zero =>
    intro i hd hi
    refine ⟨1, -1, by simp only [slices_Index_int_int.l0]; rw [if_neg (by omega)], ?_⟩
    rw [List.drop_eq_nil_of_le (by omega)]; simp
  | succ d ih =>
    intro i hd hi
    have hlt : i < xs.length := by omega
    have hdr : xs.drop i = xs[i] :: xs.drop (i + 1) := List.drop_eq_getElem_cons hlt
    by_cases he : x = rd xs i
    · refine ⟨1, i, by simp only [slices_Index_int_int.l0]; rw [if_pos (by omega), if_pos (by omega), if_pos (by omega), if_pos he], ?_⟩
      rw [hdr, he, rd_get hlt]
      exact ⟨fun _ => List.mem_cons_self, fun _ => by omega⟩
    · obtain ⟨k, r, hk, hr⟩ := ih (i + 1) (by omega) (by omega)
      refine ⟨k + 1, r, ?_, ?_⟩
      · simp only [slices_Index_int_int.l0]
        rw [if_pos (by omega), if_pos (by omega), if_pos (by omega), if_neg he, w64 _ (by omega) (by omega)]
        exact hk
      · rw [hr, hdr, List.mem_cons]
        rw [rd_get hlt] at he
        constructor
        · exact .inr
        · rintro (h | h)
          · exact absurd h he
          · exact h
theorem contains_f (xs : List Int) (x : Int) (hn : xs.length ≤ 1000) : ∃ k, slices_Contains_int_int.f k xs x = some (decide (x ∈ xs)) := by
  obtain ⟨k, r, hk, hr⟩ := index_f xs x hn xs.length 0 rfl (by omega)
  refine ⟨k, ?_⟩
  have h2 : slices_Index_int_int.f k xs x = some r := hk
  unfold slices_Contains_int_int.f
  rw [h2]
  simp only [Option.bind_some]
  congr 1
  rw [decide_eq_decide, hr]
  simp
end Go.Proofs.Ytehfhbdhdbpfpaa.Plain
end
