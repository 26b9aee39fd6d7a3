/- Parts of a proof: N2 N3 P5. No condition. -/
import Derived.Test.YtehfhbdhdbpfpaaYPan11
import Derived.Test.YtehfhbdhdbpfpaaYPan26
import Derived.Test.YtehfhbdhdbpfpaaYPan27
namespace Go.Proofs.Ytehfhbdhdbpfpaa.Print
end Go.Proofs.Ytehfhbdhdbpfpaa.Print
namespace Go.Proofs.Ytehfhbdhdbpfpaa.Spec
end Go.Proofs.Ytehfhbdhdbpfpaa.Spec
namespace Go.Proofs.YtehfhbdhdbpfpaaW.PrintLast
end Go.Proofs.YtehfhbdhdbpfpaaW.PrintLast
namespace Go.Proofs.YtehfhbdhdbpfpaaW.PrintMore
end Go.Proofs.YtehfhbdhdbpfpaaW.PrintMore
namespace Go.Proofs.YtehfhbdhdbpfpaaW.PrintWords
end Go.Proofs.YtehfhbdhdbpfpaaW.PrintWords
set_option linter.unusedVariables false
set_option linter.unusedSimpArgs false
section
namespace Go.Proofs.Ytehfhbdhdbpfpaa.Own
open Go.RowKit Go.Shelf Go.Proofs.YtehfhbdhdbpfpaaW.PrintWords Go.Proofs.YtehfhbdhdbpfpaaW.PrintLast Go.Proofs.YtehfhbdhdbpfpaaW.PrintMore Go.Proofs.Ytehfhbdhdbpfpaa.Print Go.Proofs.Ytehfhbdhdbpfpaa.Spec
set_option linter.unusedVariables false
set_option linter.unusedSimpArgs false
abbrev BCh : Type := { x : Ch // 0 ≤ x.f0 ∧ x.f0 ≤ 100 }
instance : Inhabited BCh := ⟨⟨⟨0, ⟨0, 0⟩⟩, by decide, by decide⟩⟩
def encCh (x : BCh) : List Value := [.int .i64 x.1.f0, .int .i64 x.1.f1.f0, .int .i64 x.1.f1.f1]
def cmpCh (x y : BCh) : Int := x.1.f0 - y.1.f0
set_option maxHeartbeats 1000000 in
theorem closure_calls (x y : BCh) (W : World) : Calls Try.prog 50 #[.agg (encCh x).toArray, .agg (encCh y).toArray] W fun e w' => e = .returned (.int .i64 (cmpCh x y)) ∧ ∃ q os', w' = Go.Sort.grow (W.drewN q) os' := by
  obtain ⟨⟨a, b, c⟩, hx⟩ := x
  obtain ⟨⟨d, e, f⟩, hy⟩ := y
  simp only at hx hy
  have hw : IntKind.i64.wrap (a - d) = a - d := by
    simp only [i64_w]
    unfold wrap64
    omega
  unfold encCh cmpCh
  go_enter Try.func50, Try.ntmps50
  go_wp2
  go_ret
  exact ⟨rfl, 0, _, by rw [Go.Sort.alloc_eq_grow, Go.Sort.alloc_eq_grow, Go.Sort.grow_grow]; rfl⟩
theorem swoCh : Go.Sort.SWO (Go.Proofs.ltOf cmpCh) := by
  refine ⟨fun x => ?_, fun x y z h1 h2 => ?_, fun x y z h1 h2 => ?_⟩
  · exact decide_eq_false (by show ¬ (x.1.f0 - x.1.f0 < 0); omega)
  · have h3 : x.1.f0 - y.1.f0 < 0 := of_decide_eq_true h1
    have h4 : y.1.f0 - z.1.f0 < 0 := of_decide_eq_true h2
    exact decide_eq_true (by show x.1.f0 - z.1.f0 < 0; omega)
  · have h3 : ¬ (x.1.f0 - y.1.f0 < 0) := of_decide_eq_false h1
    have h4 : ¬ (y.1.f0 - z.1.f0 < 0) := of_decide_eq_false h2
    exact decide_eq_false (by show ¬ (x.1.f0 - z.1.f0 < 0); omega)
theorem lenBits (n : Nat) (W : World) (h : n ≤ 12) : Calls Try.prog 70 #[.int .u64 n] W fun e w' => (∃ l : Int, e = .returned (.int .i64 l)) ∧ w' = W :=
  (Any.bits_Len layLen n W (by omega) (by omega)).mono fun _ _ ⟨he, hw⟩ => ⟨⟨_, he⟩, hw⟩
theorem isAggCh (w : World) : (isAgg (laySort_ren.t 24)).run Try.prog w = .ok true w := Try.isAgg54 w
theorem sizeCh (w : World) : (Go.sizeOf (laySort_ren.t 24)).run Try.prog w = .ok 3 w := Try.sizeOf54 w
theorem flat_at (d : Array BCh) (j i : Nat) (hj : j < d.size) (hi : i < 3) : (Go.Sort.flatK encCh 3 d)[j * 3 + i]! = (encCh d[j]!)[i]! := by
  rw [Go.Sort.get_flatK _ _ _ _ (by omega)]
  rw [show (j * 3 + i) / 3 = j by omega, show (j * 3 + i) % 3 = i by omega]
theorem holds_of_own {W : World} {base g cap : Nat} {l : List Ch} (bs : List BCh) (hbs : bs.map (·.1) = l) (h : ChOwn W base (.slice (some ⟨g, 0, none⟩) l.length cap) l) : Go.Sort.HoldsK encCh 3 W g 0 bs.toArray := by
  have hl : bs.length = l.length := by rw [← hbs]; simp
  obtain ⟨A, c, he, _, hrd⟩ := Kd.R_reads h
  obtain ⟨rfl, rfl⟩ : A = some ⟨g, 0, none⟩ ∧ c = cap := by simp at he; exact ⟨he.1.symm, he.2.symm⟩
  obtain ⟨_, inner, ho, hr⟩ := h
  intro j hj
  rw [Go.Sort.size_flatK] at hj
  simp only [List.size_toArray] at hj
  have hj3 : j / 3 < bs.length := by omega
  obtain ⟨cs, hcs⟩ := own_typed ho g rfl
  refine ⟨?_, blk_frozen hcs _⟩
  obtain ⟨ad, e0, h0, h1, h2⟩ := C_cellCh hrd (j / 3) (by omega)
  obtain rfl := Option.some.inj e0
  simp only [add_plain] at h0 h1 h2
  have hx : l[j / 3]'(by omega) = (bs[j / 3]'hj3).1 := by
    subst hbs
    simp
  rw [hx] at h0 h1 h2
  have hd : bs.toArray[j / 3]! = bs[j / 3]'hj3 := by simp [hj3]
  have hf := flat_at bs.toArray (j / 3) (j % 3) (by simpa using hj3) (by omega)
  rw [hd, show j / 3 * 3 + j % 3 = j by omega] at hf
  show W.cell? ⟨g, 0 + j, none⟩ = some (Go.Sort.flatK encCh 3 bs.toArray)[j]!
  rw [hf, Nat.zero_add]
  have h3 : j % 3 = 0 ∨ j % 3 = 1 ∨ j % 3 = 2 := by omega
  rcases h3 with e | e | e
  · rw [e]; rw [show j / 3 * 3 = j by omega] at h0; exact h0
  · rw [e]; rw [show j / 3 * 3 + 1 = j by omega] at h1; exact h1
  · rw [e]; rw [show j / 3 * 3 + 2 = j by omega] at h2; exact h2
theorem heap_putRow (w : World) (blk : Nat) (F cs : Array Value) (e : TypeId) (fr : Nat × Nat) (h : w.heap[blk]? = some (.cells cs e fr)) : (Go.Sort.putRow id w blk 0 F).heap[blk]? = some (.cells (Go.Sort.putCells id 0 F cs) e fr) := by
  simp [Go.Sort.putRow, Go.Sort.mapBlock, Array.getElem?_modify, h, Go.Sort.onCells]
theorem own_sorted {W : World} {base g cap n m : Nat} {l : List Ch} (ds : Array BCh) (os : Array Obj) (hn : l.length = n) (hd : ds.size = n) (h : ChOwn W base (.slice (some ⟨g, 0, none⟩) n cap) l) :
    ChOwn (Go.Proofs.sortWorldK encCh 3 W g 0 m ds os) base (.slice (some ⟨g, 0, none⟩) n cap) (ds.toList.map (·.1)) ∧ Below base W (Go.Proofs.sortWorldK encCh 3 W g 0 m ds os) := by
  obtain ⟨_, inner, ho, hr⟩ := h
  obtain ⟨cs, hcs⟩ := own_typed ho g rfl
  have hgb := own_base ho g rfl
  have hgl := blk_lt hcs
  have hs3 : k54.sz = 3 := rfl
  rw [hs3] at ho
  obtain ⟨hi, ho2⟩ := ho
  rcases ho2 with ⟨h1, _⟩ | ⟨g', cap', cur, h1, _, hh, hnc, hcm, hsz, htk⟩
  · cases h1
  simp only [Value.slice.injEq, Option.some.injEq, Addr.mk.injEq, and_true] at h1
  obtain ⟨rfl, hln, rfl⟩ := h1
  have hheap : (Go.Proofs.sortWorldK encCh 3 W g 0 m ds os).heap[g]? = some (.cells (Go.Sort.putCells id 0 (Go.Sort.flatK encCh 3 ds) cur) 54 (0, 0)) := by
    have h2 := heap_putRow (Go.Sort.ahead W m) g (Go.Sort.flatK encCh 3 ds) cur _ _ hh
    show ((Go.Sort.putRow id (Go.Sort.ahead W m) g 0 (Go.Sort.flatK encCh 3 ds)).heap ++ os)[g]? = _
    rw [Array.getElem?_append_left (by simpa using hgl)]
    exact h2
  have hF : (Go.Sort.flatK encCh 3 ds).size = n * 3 := by rw [Go.Sort.size_flatK, hd]
  have hps : (Go.Sort.putCells id 0 (Go.Sort.flatK encCh 3 ds) cur).size = cur.size := by simp [Go.Sort.putCells]
  refine ⟨⟨fun _ _ => trivial, (Go.Sort.flatK encCh 3 ds).toList, ⟨by simp [hF, hd, hs3], .inr ⟨g, cap, _, ?_, hgb, hheap, by simp [hd]; omega, hcm, by rw [hps, hs3]; exact hsz, ?_⟩⟩, ?_⟩, ?_⟩
  · simp [hd]
  · apply List.ext_getElem?
    intro j
    rw [hs3]
    simp only [List.length_map, Array.length_toList, hd]
    rw [List.getElem?_take]
    split
    · rename_i hj
      have hjc : j < cur.size := by rw [hsz]; omega
      simp [Go.Sort.putCells, hjc, hF, hj]
    · rename_i hj
      rw [List.getElem?_eq_none (by simp [hd]; omega)]
  · refine ⟨by simp [hF, hd, hs3], fun j p hj => ?_⟩
    rw [List.getElem?_map] at hj
    obtain ⟨q, hq, rfl⟩ := Option.map_eq_some_iff.1 hj
    have hjl : j < ds.size := by have := (List.getElem?_eq_some_iff.1 hq).1; simpa using this
    have hdj : ds[j]! = q := by
      rw [getElem!_pos ds j hjl]
      simp [hjl] at hq
      exact hq
    have h6 : ((Go.Sort.flatK encCh 3 ds).toList.drop (j * 3)).take 3 = [.int .i64 q.1.f0, .int .i64 q.1.f1.f0, .int .i64 q.1.f1.f1] := by
      apply List.ext_getElem?
      intro i
      rw [List.getElem?_take, List.getElem?_drop]
      by_cases hi3 : i < 3
      · rw [if_pos hi3]
        have hf := flat_at ds j i hjl hi3
        rw [hdj] at hf
        have hlt : j * 3 + i < (Go.Sort.flatK encCh 3 ds).size := by rw [Go.Sort.size_flatK]; omega
        rw [getElem!_pos (Go.Sort.flatK encCh 3 ds) (j * 3 + i) hlt] at hf
        rw [Array.getElem?_toList, Array.getElem?_eq_getElem hlt, hf]
        have : i = 0 ∨ i = 1 ∨ i = 2 := by omega
        rcases this with rfl | rfl | rfl <;> rfl
      · rw [if_neg hi3, List.getElem?_eq_none (by simp; omega)]
    rw [hs3, h6]
    exact k54_mkM _ _ _ q.1
  · refine ⟨rfl, rfl, rfl, by simp [Go.Proofs.sortWorldK, Go.Sort.grow, Go.Sort.putRowK, Go.Sort.ahead], fun i hi => ?_⟩
    have h8 : i < g := by omega
    show ((Go.Sort.putRow id (Go.Sort.ahead W m) g 0 (Go.Sort.flatK encCh 3 ds)).heap ++ os)[i]? = _
    rw [Array.getElem?_append_left (by simp [Go.Sort.ahead]; omega)]
    simp only [Go.Sort.putRow, Go.Sort.mapBlock, Array.getElem?_modify, if_neg (show ¬ g = i by omega)]
    rfl
theorem bounded : ∀ {l : List Ch}, (∀ x ∈ l, 0 ≤ x.f0 ∧ x.f0 ≤ 100) → ∃ bs : List BCh, bs.map (·.1) = l
  | [], _ => ⟨[], rfl⟩
  | x :: r, h => by
    obtain ⟨bs, hbs⟩ := bounded (l := r) (fun y hy => h y (List.mem_cons_of_mem _ hy))
    exact ⟨⟨x, h x List.mem_cons_self⟩ :: bs, by rw [List.map_cons, hbs]⟩
theorem sortFunc_some (base g cap : Nat) (l : List Ch) (W : World) (hb : ∀ x ∈ l, 0 ≤ x.f0 ∧ x.f0 ≤ 100) (hl : l.length ≤ 12) (h : ChOwn W base (.slice (some ⟨g, 0, none⟩) l.length cap) l) :
    Calls Try.prog 49 #[.slice (some ⟨g, 0, none⟩) l.length cap, .func (.func 50) #[] #[]] W fun e w' =>
      e = .returned (.tuple #[]) ∧ ∃ r, r.Perm l ∧ r.Pairwise (fun a b => a.f0 ≤ b.f0) ∧ ChOwn w' base (.slice (some ⟨g, 0, none⟩) l.length cap) r ∧ Below base W w' := by
  obtain ⟨bs, hbs⟩ := bounded hb
  have hlen : bs.length = l.length := by rw [← hbs]; simp
  have hH := holds_of_own bs hbs h
  have eg : ∀ args w, (callFunc 50 args).run Try.prog w = .ok (.enter 50 args) w := enters_of Try.func50 (by kernel_rfl) rfl
  have hgl : g < W.heap.size := by
    obtain ⟨_, inner, ho, _⟩ := h
    exact own_lt ho g rfl
  have hcon := AnyQ.slices_SortFunc_small_sorted laySort 3 isAggCh sizeCh encCh (fun _ => rfl) (fun x v hv => by simp [encCh] at hv; rcases hv with rfl | rfl | rfl <;> rfl) cmpCh 50 #[] swoCh g 0 cap bs.toArray W eg
    (fun _ _ _ _ x y => closure_calls x y _) hH hgl (by simp; omega) (fun n W h => lenBits n W h)
  simp only [List.size_toArray, hlen] at hcon
  refine hcon.mono ?_
  rintro e w' ⟨rfl, d', n, os, hp, hs, rfl⟩
  have hds : d'.size = l.length := by rw [hp.1]; simpa using hlen
  obtain ⟨h1, h2⟩ := own_sorted (n := l.length) (m := n) d' os rfl hds h
  refine ⟨rfl, d'.toList.map (·.1), ?_, ?_, h1, h2⟩
  · have h3 := hp.2.2
    have e1 : d'.extract 0 l.length = d' := by rw [← hds]; simp
    have e2 : bs.toArray.extract 0 l.length = bs.toArray := by rw [← hlen]; simp
    rw [e1, e2] at h3
    have h4 := h3.map (fun x : BCh => x.1)
    rw [← hbs]
    simpa using h4
  · rw [List.pairwise_map, List.pairwise_iff_getElem]
    intro i j hi hj hij
    have h5 := hs i j (Nat.zero_le _) hij (by simp at hj; omega)
    simp only [Array.length_toList] at hi hj
    rw [getElem!_pos d' i hi, getElem!_pos d' j hj] at h5
    have h6 : ¬ (d'[j].1.f0 - d'[i].1.f0 < 0) := of_decide_eq_false h5
    simp only [Array.getElem_toList]
    omega
end Go.Proofs.Ytehfhbdhdbpfpaa.Own
end
section
namespace Go.Proofs.Ytehfhbdhdbpfpaa.Own
open Go.RowKit Go.Shelf Go.Proofs.YtehfhbdhdbpfpaaW.PrintWords Go.Proofs.YtehfhbdhdbpfpaaW.PrintLast Go.Proofs.YtehfhbdhdbpfpaaW.PrintMore Go.Proofs.Ytehfhbdhdbpfpaa.Print Go.Proofs.Ytehfhbdhdbpfpaa.Spec
set_option linter.unusedVariables false
set_option linter.unusedSimpArgs false
theorem insertion_none (A : Option Addr) (c : Nat) (fv : Value) (w : World) :
    Calls Try.prog 78 #[.slice A 0 c, .int .i64 0, .int .i64 0, fv] w fun e w' => e = .returned (.tuple #[]) ∧ w = w' := by
  go_enter Try.func78, Try.ntmps78
  go_wp2
  refine wp_loop_rounds 1 ?_
  rw [rounds_succ]
  go_wp2
  go_end0
  exact ⟨rfl, rfl⟩
set_option maxRecDepth 100000 in
theorem pdq_none (A : Option Addr) (c : Nat) (lim : Int) (fv : Value) (w : World) :
    Calls Try.prog 69 #[.slice A 0 c, .int .i64 0, .int .i64 0, .int .i64 lim, fv] w fun e w' => e = .returned (.tuple #[]) ∧ w = w' := by
  go_enter Try.func69, Try.ntmps69
  go_wp2
  refine wp_loop_rounds 1 ?_
  rw [rounds_succ]
  go_wp2_with fail
  refine (insertion_none A c fv w).mono ?_
  rintro e w' ⟨rfl, rfl⟩
  go_wp2
  (try simp only [Exit.inBlock, Exit.then]); refine bodyPost_ret (results_none rfl _ _ _) rfl ?_
  exact ⟨rfl, rfl⟩
theorem sortFunc_none (A : Option Addr) (c : Nat) (fv : Value) (w : World) :
    Calls Try.prog 49 #[.slice A 0 c, fv] w fun e w' => e = .returned (.tuple #[]) ∧ w = w' := by
  go_enter Try.func49, Try.ntmps49
  go_wp2_with fail
  refine (lenBits 0 w (by omega)).mono ?_
  rintro e w' ⟨⟨n, rfl⟩, rfl⟩
  go_wp2_with fail
  refine (pdq_none A c n fv w').mono ?_
  rintro e w' ⟨rfl, rfl⟩
  go_wp2
  go_end0
  exact ⟨rfl, rfl⟩
theorem sortFunc_calls (base : Nat) (v : Value) (l : List Ch) (W : World) (hb : ∀ x ∈ l, 0 ≤ x.f0 ∧ x.f0 ≤ 100) (hl : l.length ≤ 12) (h : ChOwn W base v l) :
    Calls Try.prog 49 #[v, .func (.func 50) #[] #[]] W fun e w' =>
      e = .returned (.tuple #[]) ∧ ∃ r, r.Perm l ∧ r.Pairwise (fun a b => a.f0 ≤ b.f0) ∧ ChOwn w' base v r ∧ Below base W w' := by
  by_cases h0 : l.length = 0
  · obtain rfl : l = [] := List.eq_nil_of_length_eq_zero h0
    obtain ⟨A, c, rfl⟩ := Kd.R_slice h
    refine (sortFunc_none A c _ W).mono ?_
    rintro e w' ⟨rfl, rfl⟩
    exact ⟨rfl, [], List.Perm.refl _, List.Pairwise.nil, h, Below.refl _ _⟩
  · obtain ⟨_, inner, ho, hr⟩ := id h
    rcases ho.2 with ⟨_, h1⟩ | ⟨g, cap, cur, rfl, _⟩
    · exact absurd h1 h0
    · exact sortFunc_some base g cap l W hb hl h
end Go.Proofs.Ytehfhbdhdbpfpaa.Own
end
section
namespace Go.Proofs.Ytehfhbdhdbpfpaa.Plain
open Go.RowKit Go.Proofs.YtehfhbdhdbpfpaaW.PrintWords Go.Proofs.Ytehfhbdhdbpfpaa.Spec
set_option linter.unusedVariables false
theorem mem_own {o : List Int} {ac x : Int} : x ∈ own o ac ↔ ∃ j : Nat, x = (j : Int) ∧ j < o.length ∧ (j : Int) % 2 = ac := by
  unfold own iota
  rw [List.mem_filter, List.mem_map]
  constructor
  · rintro ⟨⟨j, hj, rfl⟩, h⟩
    exact ⟨j, rfl, List.mem_range.1 hj, by simpa using h⟩
  · rintro ⟨j, rfl, hj, h⟩
    exact ⟨⟨j, List.mem_range.2 hj, rfl⟩, by simpa using h⟩
theorem nodup_get {α : Type} {l : List α} (h : l.Nodup) {i j : Nat} (hi : i < l.length) (hj : j < l.length) (e : l[i] = l[j]) : i = j := by
  have h2 := List.pairwise_iff_getElem.1 h
  rcases Nat.lt_trichotomy i j with h3 | h3 | h3
  · exact absurd e (h2 i j hi hj h3)
  · exact h3
  · exact absurd e.symm (h2 j i hj hi h3)
theorem own_nodup (o : List Int) (ac : Int) : (own o ac).Nodup := by
  unfold own iota
  exact List.filter_sublist.nodup (List.Pairwise.map _ (fun a b h => by omega) List.nodup_range)
theorem cureSide_layers (l : List Sh) (lo hi : Int) (o : List Int) (ac : Int) : ∃ is : List Int, (cureSide l lo hi o ac).map (·.f0) = is.map (rd o) ∧ is.Sublist (own o ac) := by
  unfold cureSide
  split
  · exact ⟨[], rfl, List.nil_sublist _⟩
  · split
    · rename_i c hc
      obtain ⟨i, hi', hs⟩ := List.exists_of_findSome?_eq_some hc
      obtain ⟨s, _, rfl⟩ := Option.map_eq_some_iff.1 hs
      exact ⟨[i], rfl, List.singleton_sublist.2 hi'⟩
    · exact ⟨(own o ac).filter fun i => decide (0 < place l.length i), by rw [List.map_map]; rfl, List.filter_sublist⟩
theorem own_len4 {o : List Int} (h : o.length ≤ 7) : (own o 0).length ≤ 4 ∧ (own o 1).length ≤ 4 := by
  unfold own
  have : o.length = 0 ∨ o.length = 1 ∨ o.length = 2 ∨ o.length = 3 ∨ o.length = 4 ∨ o.length = 5 ∨ o.length = 6 ∨ o.length = 7 := by omega
  rcases this with e | e | e | e | e | e | e | e <;> rw [e] <;> decide
theorem cureSide_own (l : List Sh) (lo hi : Int) (o : List Int) (ac : Int) : (cureSide l lo hi o ac).length ≤ (own o ac).length := by
  obtain ⟨is, h1, h2⟩ := cureSide_layers l lo hi o ac
  have h3 := congrArg List.length h1
  simp only [List.length_map] at h3
  rw [h3]
  exact h2.length_le
theorem ord_nodup5 {n : Nat} {o : List Int} (h : isOrd n o = true) : o.Nodup := by
  rw [(ord_perm h).nodup_iff]
  unfold iota
  exact List.Pairwise.map _ (fun a b h => by omega) List.nodup_range
theorem rd_inj {n : Nat} {o : List Int} (h : isOrd n o = true) {i j : Nat} (hi : i < o.length) (hj : j < o.length) (e : rd o (i : Int) = rd o (j : Int)) : i = j := by
  rw [rd_get hi, rd_get hj] at e
  exact nodup_get (ord_nodup5 h) hi hj e
theorem both_nodup {n : Nat} {o : List Int} (h : isOrd n o = true) {is0 is1 : List Int} (h0 : is0.Sublist (own o 0)) (h1 : is1.Sublist (own o 1)) : ((is0 ++ is1).map (rd o)).Nodup := by
  have hm : ∀ x ∈ is0 ++ is1, ∃ j : Nat, x = (j : Int) ∧ j < o.length := by
    intro x hx
    rcases List.mem_append.1 hx with hx | hx
    · obtain ⟨j, e, hj, _⟩ := mem_own.1 (h0.subset hx); exact ⟨j, e, hj⟩
    · obtain ⟨j, e, hj, _⟩ := mem_own.1 (h1.subset hx); exact ⟨j, e, hj⟩
  have hn : (is0 ++ is1).Nodup := by
    rw [List.nodup_append]
    refine ⟨h0.nodup (own_nodup o 0), h1.nodup (own_nodup o 1), fun a ha b hb e => ?_⟩
    obtain ⟨i, e1, _, h2⟩ := mem_own.1 (h0.subset ha)
    obtain ⟨j, e3, _, h4⟩ := mem_own.1 (h1.subset hb)
    omega
  unfold List.Nodup at hn ⊢
  rw [List.pairwise_map]
  refine hn.imp_of_mem ?_
  intro a b ha hb hne e
  obtain ⟨i, rfl, hi⟩ := hm a ha
  obtain ⟨j, rfl, hj⟩ := hm b hb
  exact hne (by rw [rd_inj h hi hj e])
theorem cures_nodup {n : Nat} {o : List Int} (h : isOrd n o = true) (l : List Sh) (lo hi : Int) : ((cureSide l lo hi o 0 ++ cureSide l lo hi o 1).map (·.f0)).Nodup := by
  obtain ⟨is0, e0, s0⟩ := cureSide_layers l lo hi o 0
  obtain ⟨is1, e1, s1⟩ := cureSide_layers l lo hi o 1
  rw [List.map_append, e0, e1, ← List.map_append]
  exact both_nodup h s0 s1
theorem cureSide_f0 {n : Nat} {o : List Int} (h : isOrd n o = true) (l : List Sh) (lo hi : Int) (ac : Int) (c : Ch) (hc : c ∈ cureSide l lo hi o ac) : 0 ≤ c.f0 ∧ c.f0 < n := by
  obtain ⟨is, e, s⟩ := cureSide_layers l lo hi o ac
  have h1 : c.f0 ∈ (cureSide l lo hi o ac).map (·.f0) := List.mem_map.2 ⟨c, hc, rfl⟩
  rw [e] at h1
  obtain ⟨i, hi', e2⟩ := List.mem_map.1 h1
  obtain ⟨j, rfl, hj, _⟩ := mem_own.1 (s.subset hi')
  rw [← e2, rd_get hj]
  exact ord_get h j hj
theorem ins_perm (c : Ch) : ∀ l, (ins c l).Perm (c :: l)
  | [] => List.Perm.refl _
  | d :: r => by
    unfold ins
    split
    · exact List.Perm.refl _
    · exact ((ins_perm c r).cons d).trans (List.Perm.swap c d r)
theorem ins_sorted (c : Ch) : ∀ l : List Ch, l.Pairwise (fun a b => a.f0 ≤ b.f0) → (ins c l).Pairwise (fun a b => a.f0 ≤ b.f0)
  | [], _ => List.pairwise_singleton _ _
  | d :: r, h => by
    have h2 := List.pairwise_cons.1 h
    unfold ins
    split
    · rename_i hlt
      refine List.pairwise_cons.2 ⟨fun x hx => ?_, h⟩
      rcases List.mem_cons.1 hx with rfl | hx
      · omega
      · have := h2.1 x hx; omega
    · rename_i hlt
      refine List.pairwise_cons.2 ⟨fun x hx => ?_, ins_sorted c r h2.2⟩
      rcases List.mem_cons.1 ((ins_perm c r).mem_iff.1 hx) with rfl | hx
      · omega
      · exact h2.1 x hx
theorem foldl_ins (l : List Ch) : ∀ s : List Ch, s.Pairwise (fun a b => a.f0 ≤ b.f0) → (l.foldl (fun s c => ins c s) s).Perm (l ++ s) ∧ (l.foldl (fun s c => ins c s) s).Pairwise (fun a b => a.f0 ≤ b.f0) := by
  induction l with
  | nil => exact fun s h => ⟨List.Perm.refl _, h⟩
  | cons c r ih =>
    intro s h
    obtain ⟨h1, h2⟩ := ih (ins c s) (ins_sorted c s h)
    refine ⟨h1.trans ?_, h2⟩
    refine ((ins_perm c s).append_left r).trans ?_
    exact List.perm_middle
theorem sortCh_perm (l : List Ch) : (sortCh l).Perm l := by
  have := (foldl_ins l [] List.Pairwise.nil).1
  simpa [sortCh] using this
theorem sortCh_sorted (l : List Ch) : (sortCh l).Pairwise (fun a b => a.f0 ≤ b.f0) := (foldl_ins l [] List.Pairwise.nil).2
theorem nodup_f0_inj {l : List Ch} (h : (l.map (·.f0)).Nodup) {a b : Ch} (ha : a ∈ l) (hb : b ∈ l) (e : a.f0 = b.f0) : a = b := by
  obtain ⟨i, hi, rfl⟩ := List.getElem_of_mem ha
  obtain ⟨j, hj, rfl⟩ := List.getElem_of_mem hb
  have : i = j := by
    exact nodup_get h (by simpa using hi) (by simpa using hj) (by simpa using e)
  subst this
  rfl
theorem sorted_unique {r l : List Ch} (hp : r.Perm l) (hs : r.Pairwise (fun a b => a.f0 ≤ b.f0)) (hn : (l.map (·.f0)).Nodup) : r = sortCh l :=
  (hp.trans (sortCh_perm l).symm).eq_of_pairwise (fun a b ha hb h1 h2 => nodup_f0_inj hn (hp.mem_iff.1 ha) ((sortCh_perm l).mem_iff.1 hb) (by omega)) hs (sortCh_sorted l)
end Go.Proofs.Ytehfhbdhdbpfpaa.Plain
end
