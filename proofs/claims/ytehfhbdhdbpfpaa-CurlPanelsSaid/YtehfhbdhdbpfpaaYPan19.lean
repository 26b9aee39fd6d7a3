/- Parts of a proof: M1. No condition. -/
import Derived.Test.YtehfhbdhdbpfpaaYPan04
import Derived.Test.YtehfhbdhdbpfpaaYPan14
import Derived.Maps.RangeRun
namespace Go.Proofs.Ytehfhbdhdbpfpaa.Print
end Go.Proofs.Ytehfhbdhdbpfpaa.Print
namespace Go.Proofs.Ytehfhbdhdbpfpaa.Spec
end Go.Proofs.Ytehfhbdhdbpfpaa.Spec
namespace Go.Proofs.YtehfhbdhdbpfpaaW.PrintLast
end Go.Proofs.YtehfhbdhdbpfpaaW.PrintLast
namespace Go.Proofs.YtehfhbdhdbpfpaaW.PrintMore
end Go.Proofs.YtehfhbdhdbpfpaaW.PrintMore
namespace Go.Proofs.YtehfhbdhdbpfpaaW.PrintWords
end Go.Proofs.YtehfhbdhdbpfpaaW.PrintWords
set_option linter.unusedVariables false
set_option linter.unusedSimpArgs false
namespace Go.Proofs.Ytehfhbdhdbpfpaa.Own
open Go.RowKit Go.Shelf Go.Proofs.YtehfhbdhdbpfpaaW.PrintWords Go.Proofs.YtehfhbdhdbpfpaaW.PrintLast Go.Proofs.YtehfhbdhdbpfpaaW.PrintMore Go.Proofs.Ytehfhbdhdbpfpaa.Print Go.Proofs.Ytehfhbdhdbpfpaa.Spec
open Go.ChangeMaps (setBlock)
open Go.MapKept (Stamped stamped_push stamped_modify stamped_erase)
set_option linter.unusedVariables false
set_option linter.unusedSimpArgs false
def keyV (k : Int × Int) : Value := .agg #[.int .i64 k.1, .int .i64 k.2]
def shV (s : Sh) : Value := .agg #[.int .i64 s.f0, .int .i64 s.f1]
theorem keyV_inj {k k' : Int × Int} (h : keyV k = keyV k') : k = k' := by
  obtain ⟨a, b⟩ := k
  obtain ⟨c, d⟩ := k'
  simp [keyV] at h
  obtain ⟨rfl, rfl⟩ := h
  rfl
theorem check_sums (e : Bool) (x : Int × Int) (w : World) : (Instr.checkKey e 10000 102 (keyV x)).run Try.prog w = .ok () w := by
  obtain ⟨a, b⟩ := x
  unfold keyV
  kernel_rfl
theorem eq_sums (x y : Int × Int) (w : World) : (Op.equal 102 (keyV x) (keyV y)).run Try.prog w = .ok (x == y) w := by
  obtain ⟨a, b⟩ := x
  obtain ⟨c, d⟩ := y
  have h : (Op.equal 102 (keyV (a, b)) (keyV (c, d))).run Try.prog w = .ok ((a == c) && (b == d)) w := by
    unfold keyV
    refine eqA_of Try.underlying102 (by kernel_rfl) ?_
    refine eqf_cons (by rfl) (by go_simp; rfl) (by go_simp; rfl) (by go_simp) ?_
    exact eqf_last (by rfl) (by go_simp; rfl) (by go_simp; rfl) (by go_simp)
  rw [h]
  rfl
def EntOk (F : Int × Int → Option Sh) (es : List MapEntry) : Prop :=
  (∀ e ∈ es, ∃ k s, e.key = keyV k ∧ e.val = shV s ∧ F k = some s) ∧ (∀ k s, F k = some s → ∃ e ∈ es, e.key = keyV k ∧ e.val = shV s)
def MapIs (W : World) (r : Nat) (F : Int × Int → Option Sh) : Prop :=
  ∃ es clock, W.heap[r]? = some (.map es clock) ∧ Stamped es clock ∧ EntOk F es.toList
theorem findAsking_sums (k : Int × Int) : ∀ (es : List MapEntry) (i : Nat) (w : World), (∀ e ∈ es, ∃ k', e.key = keyV k') →
    ∃ r, (Instr.findAsking 102 (keyV k) es i).run Try.prog w = .ok r w ∧
      ((r = none ∧ ∀ e ∈ es, e.key ≠ keyV k) ∨ ∃ j e, r = some (i + j, e.val) ∧ es[j]? = some e ∧ e.key = keyV k)
  | [], i, w, h => ⟨none, by simp [Instr.findAsking], .inl ⟨rfl, by simp⟩⟩
  | e :: es, i, w, h => by
    obtain ⟨k', hk'⟩ := h e (by simp)
    have heq := eq_sums k k' w
    rw [← hk'] at heq
    by_cases hkk : k = k'
    · subst hkk
      refine ⟨some (i, e.val), ?_, .inr ⟨0, e, by simp, rfl, hk'⟩⟩
      simp [Instr.findAsking, heq, Result.andThen]
    · have hb : (k == k') = false := by simpa using hkk
      rw [hb] at heq
      obtain ⟨r, hr, hc⟩ := findAsking_sums k es (i + 1) w (fun e' he' => h e' (by simp [he']))
      refine ⟨r, by simp [Instr.findAsking, heq, hr, Result.andThen], ?_⟩
      rcases hc with ⟨h1, h2⟩ | ⟨j, e', h1, h2, h3⟩
      · refine .inl ⟨h1, fun e' he' => ?_⟩
        rcases List.mem_cons.1 he' with rfl | he'
        · rw [hk']; intro e2; exact hkk (keyV_inj e2).symm
        · exact h2 e' he'
      · exact .inr ⟨j + 1, e', by rw [h1, show i + 1 + j = i + (j + 1) by omega], by simpa using h2, h3⟩
set_option maxRecDepth 100000 in
theorem findKey_sums (k : Int × Int) (es : List MapEntry) (w : World) (h : ∀ e ∈ es, ∃ k', e.key = keyV k') :
    ∃ r, (Instr.findKey 102 (keyV k) es).run Try.prog w = .ok r w ∧
      ((r = none ∧ ∀ e ∈ es, e.key ≠ keyV k) ∨ ∃ j e, r = some (j, e.val) ∧ es[j]? = some e ∧ e.key = keyV k) := by
  cases es with
  | nil =>
    have h0 : ∀ d, Instr.findNow d (keyV k) [] 0 = some none := fun _ => rfl
    refine ⟨none, ?_, .inl ⟨rfl, by simp⟩⟩
    unfold Instr.findKey
    rw [Sem.run_bind, run_underlying Try.underlying102]
    simp only [Result.andThen, h0]
    exact Sem.run_pure _ _ _
  | cons e es =>
    obtain ⟨k', hk'⟩ := h e (by simp)
    obtain ⟨r, hr, hc⟩ := findAsking_sums k (e :: es) 0 w h
    refine ⟨r, ?_, by simpa using hc⟩
    simp only [Instr.findKey, Sem.run_bind, run_underlying Try.underlying102, Result.andThen]
    simp [Instr.findNow, Instr.sameNow, hr]
theorem KS.setBlock {S : Nat → Prop} {w w1 : World} (h : KS S w w1) {r : Nat} (hr : r < w.heap.size → S r) (o : Obj) : KS S w (setBlock w1 r o) :=
  h.then_ (S' := fun k => k = r) ⟨rfl, rfl, rfl, by simp [Go.ChangeMaps.setBlock], fun k hk hn => by simp [Go.ChangeMaps.setBlock, Array.getElem?_setIfInBounds, Ne.symm hn]⟩ (fun i hi e => by subst e; exact hr hi)
theorem setBlock_same {w : World} {r : Nat} (h : r < w.heap.size) (o : Obj) : (setBlock w r o).heap[r]? = some o := by
  simp [Go.ChangeMaps.setBlock, Array.getElem?_setIfInBounds, h]
theorem mapDesc : Try.prog.underlying 113 = some (.map 102 52) := by kernel_rfl
theorem MapIs.lookup {W : World} {r : Nat} {F : Int × Int → Option Sh} (h : MapIs W r F) (k : Int × Int) :
    (Instr.lookup 113 (.map (some r)) (keyV k) true).run Try.prog W = .ok (.tuple #[(match F k with | some s => shV s | none => shV ⟨0, 0⟩), .bool (F k).isSome]) W := by
  obtain ⟨es, clock, hb, hst, he1, he2⟩ := h
  obtain ⟨res, hr, hc⟩ := findKey_sums k es.toList W (fun e he => by obtain ⟨k', s, h1, _⟩ := he1 e he; exact ⟨k', h1⟩)
  rcases hc with ⟨rfl, hno⟩ | ⟨j, e, rfl, hj, hk⟩
  · have hF : F k = none := by
      cases hF : F k with
      | none => rfl
      | some s =>
        obtain ⟨e, he, h1, _⟩ := he2 k s hF
        exact absurd h1 (hno e he)
    have hz : (zeroValue 52).run Try.prog W = .ok (shV ⟨0, 0⟩) W := by kernel_rfl
    rw [hF]
    simp [Instr.lookup, run_underlying mapDesc, Go.MapKept.run_getObj_map hb, check_sums, hr, hz, Result.andThen]
  · obtain ⟨k', s, h1, h2, h3⟩ := he1 e (List.mem_of_getElem? hj)
    rw [hk] at h1
    obtain rfl := keyV_inj h1
    rw [h3]
    rw [h2] at hr
    simp [Instr.lookup, run_underlying mapDesc, Go.MapKept.run_getObj_map hb, check_sums, hr, Result.andThen]
theorem sameBits_key (k : Int × Int) : Instr.sameBits 10000 (keyV k) (keyV k) = true := by
  obtain ⟨a, b⟩ := k
  simp [keyV, Instr.sameBits]
theorem MapIs.update {W : World} {r : Nat} {F : Int × Int → Option Sh} (h : MapIs W r F) (k : Int × Int) (s : Sh) :
    ∃ W', (Instr.mapUpdate 113 (.map (some r)) (keyV k) (shV s)).run Try.prog W = .ok () W' ∧ MapIs W' r (fun k' => if k' = k then some s else F k') ∧ KS (fun i => i = r) W W' := by
  obtain ⟨es, clock, hb, hst, he1, he2⟩ := h
  have hlt := blk_lt hb
  obtain ⟨res, hr, hc⟩ := findKey_sums k es.toList W (fun e he => by obtain ⟨k', s, h1, _⟩ := he1 e he; exact ⟨k', h1⟩)
  rcases hc with ⟨rfl, hno⟩ | ⟨j, e, rfl, hj, hk⟩
  · refine ⟨setBlock W r (.map (es.push { key := keyV k, val := shV s, born := clock }) (clock + 1)), ?_, ⟨_, _, setBlock_same hlt _, stamped_push hst hno, ?_, ?_⟩, KS.setBlock (S := fun i => i = r) (KS.refl _ W) (fun _ => rfl) _⟩
    · simp [Instr.mapUpdate, run_underlying mapDesc, Go.MapKept.run_getObj_map hb, check_sums, hr, Go.MapKept.run_setObj_map _ hb, Result.andThen, Go.ChangeMaps.setBlock]
    · intro e he
      simp only [Array.toList_push, List.mem_append, List.mem_singleton] at he
      rcases he with he | rfl
      · obtain ⟨k', s', h1, h2, h3⟩ := he1 e he
        refine ⟨k', s', h1, h2, ?_⟩
        have : k' ≠ k := by rintro rfl; exact hno e he h1
        simp [this, h3]
      · exact ⟨k, s, rfl, rfl, by simp⟩
    · intro k' s' hF
      simp only [Array.toList_push]
      by_cases e : k' = k
      · subst e
        simp at hF
        subst hF
        exact ⟨{ key := keyV k', val := shV s, born := clock }, by simp, rfl, rfl⟩
      · simp [e] at hF
        obtain ⟨e', he', h1, h2⟩ := he2 k' s' hF
        exact ⟨e', by simp only [List.mem_append]; exact .inl he', h1, h2⟩
  · have hje : es[j]? = some e := by simpa using hj
    have hkey : (((es[j]?).map (·.key)).getD (keyV k)) = keyV k := by rw [hje]; simpa using hk
    have hks : (Instr.keyThatStays (keyV k) (keyV k)).run Try.prog W = .ok (keyV k) W := by simp [Instr.keyThatStays, sameBits_key]
    refine ⟨setBlock W r (.map (es.modify j fun e => { e with key := keyV k, val := shV s }) clock), ?_, ⟨_, _, setBlock_same hlt _, stamped_modify hst j _ (fun _ _ => rfl) (fun e' he' hj' => ?_), ?_, ?_⟩, KS.setBlock (S := fun i => i = r) (KS.refl _ W) (fun _ => rfl) _⟩
    · simp [Instr.mapUpdate, run_underlying mapDesc, Go.MapKept.run_getObj_map hb, check_sums, hr, hkey, hks, Go.MapKept.run_setObj_map _ hb, Result.andThen, Go.ChangeMaps.setBlock]
    · rw [hje] at hj'; cases hj'; exact hk.symm
    · intro e' he'
      obtain ⟨i, hi⟩ := List.getElem?_of_mem he'
      simp only [Array.getElem?_toList, Array.getElem?_modify] at hi
      by_cases hij : j = i
      · subst hij
        simp [hje] at hi
        subst hi
        exact ⟨k, s, rfl, rfl, by simp⟩
      · simp [hij] at hi
        obtain ⟨k', s', h1, h2, h3⟩ := he1 e' (by rw [Array.mem_toList_iff]; exact Array.mem_of_getElem? hi)
        refine ⟨k', s', h1, h2, ?_⟩
        have hne : k' ≠ k := by
          rintro rfl
          have hnd := hst.2.2
          have h5 : (es.toList.map (·.key))[i]? = some (keyV k') := by simp [hi, h1]
          have h6 : (es.toList.map (·.key))[j]? = some (keyV k') := by simp [hje, hk]
          have hil : i < (es.toList.map (·.key)).length := (List.getElem?_eq_some_iff.1 h5).1
          have hjl : j < (es.toList.map (·.key)).length := (List.getElem?_eq_some_iff.1 h6).1
          rw [List.getElem?_eq_getElem hil] at h5
          rw [List.getElem?_eq_getElem hjl] at h6
          have h56 := (Option.some.inj h5).trans (Option.some.inj h6).symm
          have hp := List.pairwise_iff_getElem.1 hnd
          rcases Nat.lt_trichotomy j i with h7 | h7 | h7
          · exact hp j i hjl hil h7 h56.symm
          · exact hij h7
          · exact hp i j hil hjl h7 h56
        simp [hne, h3]
    · intro k' s' hF
      by_cases e2 : k' = k
      · subst e2
        simp at hF
        subst hF
        refine ⟨{ e with key := keyV k', val := shV s }, ?_, rfl, rfl⟩
        refine List.mem_of_getElem? (i := j) ?_
        simp [Array.getElem?_modify, hje]
      · simp [e2] at hF
        obtain ⟨e', he', h1, h2⟩ := he2 k' s' hF
        obtain ⟨i, hi⟩ := List.getElem?_of_mem he'
        have hi' : es[i]? = some e' := by simpa using hi
        have hij : j ≠ i := by
          rintro rfl
          rw [hje] at hi'
          cases hi'
          rw [hk] at h1
          exact e2 (keyV_inj h1).symm
        refine ⟨e', ?_, h1, h2⟩
        refine List.mem_of_getElem? (i := i) ?_
        simp [Array.getElem?_modify, hij, hi']
theorem run_delete {W : World} {r : Nat} {es : Array MapEntry} {clock : Nat} (hb : W.heap[r]? = some (.map es clock)) (hst : Stamped es clock) (hen : ∀ e ∈ es.toList, ∃ k', e.key = keyV k') (k : Int × Int) (e : MapEntry) (he : e ∈ es.toList) (hk : e.key = keyV k) (ats : Array TypeId) (h0 : ats[0]? = some 113) (ty : TypeId) :
    ∃ es', (Builtin.delete_ ats ty #[.map (some r), keyV k]).run Try.prog W = .ok (.tuple #[]) (setBlock W r (.map es' clock)) ∧ Stamped es' clock ∧ (∀ x, x ∈ es'.toList ↔ x ∈ es.toList ∧ x.born ≠ e.born) ∧ es'.toList.Sublist es.toList := by
  obtain ⟨res, hr, hc⟩ := findKey_sums k es.toList W hen
  rcases hc with ⟨rfl, hno⟩ | ⟨j, e', rfl, hj, hk'⟩
  · exact absurd hk (hno e he)
  · have hee : e' = e := by
      have h1 : e' ∈ es.toList := List.mem_of_getElem? hj
      obtain ⟨a, ha, rfl⟩ := List.mem_iff_getElem.1 h1
      obtain ⟨b, hb2, rfl⟩ := List.mem_iff_getElem.1 he
      have hp := List.pairwise_iff_getElem.1 hst.2.2
      have hla : a < (es.toList.map (·.key)).length := by simpa using ha
      have hlb : b < (es.toList.map (·.key)).length := by simpa using hb2
      have hkk : (es.toList.map (·.key))[a] = (es.toList.map (·.key))[b] := by simp only [List.getElem_map]; rw [hk, hk']
      rcases Nat.lt_trichotomy a b with h7 | h7 | h7
      · exact absurd hkk (hp a b hla hlb h7)
      · subst h7; rfl
      · exact absurd hkk.symm (hp b a hlb hla h7)
    subst hee
    have hjl : j < es.size := by simpa using (List.getElem?_eq_some_iff.1 hj).1
    have hl : (es.eraseIdxIfInBounds j).toList = es.toList.eraseIdx j := by simp [Array.eraseIdxIfInBounds, hjl]
    refine ⟨es.eraseIdxIfInBounds j, ?_, stamped_erase hst j, fun x => ?_, by rw [hl]; exact List.eraseIdx_sublist _ _⟩
    · simp [Builtin.delete_, h0, run_underlying mapDesc, Go.MapKept.run_getObj_map hb, check_sums, hr, Go.MapKept.run_setObj_map _ hb, Result.andThen, Go.ChangeMaps.setBlock]
    · rw [hl, List.mem_eraseIdx_iff_getElem?]
      have hp := List.pairwise_iff_getElem.1 hst.2.1
      constructor
      · rintro ⟨i, hne, hi⟩
        refine ⟨List.mem_of_getElem? hi, fun hborn => ?_⟩
        obtain ⟨hil, hxi⟩ := List.getElem?_eq_some_iff.1 hi
        obtain ⟨hjl2, hej⟩ := List.getElem?_eq_some_iff.1 hj
        have h1 : (es.toList.map (·.born))[i]'(by simpa using hil) = (es.toList.map (·.born))[j]'(by simpa using hjl2) := by simp only [List.getElem_map]; rw [hxi, hej, hborn]
        rcases Nat.lt_trichotomy i j with h7 | h7 | h7
        · exact hp i j (by simpa using hil) (by simpa using hjl2) h7 h1
        · exact hne h7
        · exact hp j i (by simpa using hjl2) (by simpa using hil) h7 h1.symm
      · rintro ⟨hx, hborn⟩
        obtain ⟨i, hi⟩ := List.getElem?_of_mem hx
        refine ⟨i, ?_, hi⟩
        rintro rfl
        rw [hj] at hi
        cases hi
        exact hborn rfl
def Ranging (W : World) (r it : Nat) (F : Int × Int → Option Sh) (q : Int × Int → Bool) (n : Nat) : Prop :=
  ∃ es clock since seen c0, W.heap[r]? = some (.map es clock) ∧ W.heap[it]? = some (.mapIter (some r) since seen c0) ∧ (∀ x ∈ es.toList, x.born < since) ∧ since ≤ c0 ∧ since ≤ clock ∧ c0 = clock ∧ Stamped es clock ∧
    (∀ e ∈ es.toList, ∃ k s, e.key = keyV k ∧ e.val = shV s ∧ F k = some s ∧ (seen.contains e.born = true → q k = true)) ∧ (∀ k s, F k = some s → q k = true → ∃ e ∈ es.toList, e.key = keyV k ∧ e.val = shV s) ∧ (leftOf es seen).size = n
def Stepped (W : World) (r it : Nat) (F : Int × Int → Option Sh) (q : Int × Int → Bool) (n : Nat) (k : Int × Int) (s : Sh) : Prop :=
  ∃ es clock since seen e, W.heap[r]? = some (.map es clock) ∧ W.heap[it]? = some (.mapIter (some r) since (seen.push e.born) clock) ∧ (∀ x ∈ es.toList, x.born < since) ∧ since ≤ clock ∧ Stamped es clock ∧
    (∀ e ∈ es.toList, ∃ k s, e.key = keyV k ∧ e.val = shV s ∧ F k = some s ∧ (seen.contains e.born = true → q k = true)) ∧ (∀ k s, F k = some s → q k = true → ∃ e ∈ es.toList, e.key = keyV k ∧ e.val = shV s) ∧ (leftOf es seen).size = n ∧
    e ∈ es.toList ∧ seen.contains e.born = false ∧ e.key = keyV k ∧ e.val = shV s ∧ F k = some s
theorem Stepped.keep {W W' : World} {r it n : Nat} {F : Int × Int → Option Sh} {q : Int × Int → Bool} {k : Int × Int} {s : Sh} (h : Stepped W r it F q n k s) (h1 : W'.heap[r]? = W.heap[r]?) (h2 : W'.heap[it]? = W.heap[it]?) : Stepped W' r it F q n k s := by
  obtain ⟨es, clock, since, seen, e, a, b, rest⟩ := h
  exact ⟨es, clock, since, seen, e, h1.trans a, h2.trans b, rest⟩
theorem Ranging.keep {W W' : World} {r it n : Nat} {F : Int × Int → Option Sh} {q : Int × Int → Bool} (h : Ranging W r it F q n) (h1 : W'.heap[r]? = W.heap[r]?) (h2 : W'.heap[it]? = W.heap[it]?) : Ranging W' r it F q n := by
  obtain ⟨es, clock, since, seen, c0, a, b, rest⟩ := h
  exact ⟨es, clock, since, seen, c0, h1.trans a, h2.trans b, rest⟩
theorem MapIs.range {W : World} {r : Nat} {F : Int × Int → Option Sh} (h : MapIs W r F) (q : Int × Int → Bool) :
    ∃ it0 n, (Instr.range 113 (.map (some r))).run Try.prog W = .ok (.pointer (some ⟨W.heap.size, 0, none⟩)) (W.alloc it0) ∧ Ranging (W.alloc it0) r W.heap.size F q n := by
  obtain ⟨es, clock, hb, hst, he1, he2⟩ := h
  refine ⟨_, _, run_range_map W _ _ _ r es clock mapDesc hb, es, clock, clock, #[], clock, ((Below.heap_alloc _ _ _ (blk_lt hb)).trans hb), World.alloc_heap_new W _, hst.1, Nat.le_refl _, Nat.le_refl _, rfl, hst, ?_, ?_, rfl⟩
  · intro e he
    obtain ⟨k, s, h1, h2, h3⟩ := he1 e he
    exact ⟨k, s, h1, h2, h3, fun h => by simp at h⟩
  · intro k s hF _
    exact he2 k s hF
theorem Ranging.next {W : World} {r it n : Nat} {F : Int × Int → Option Sh} {q : Int × Int → Bool} (h : Ranging W r it F q n) (hne : r ≠ it) (ty : TypeId) :
    ((Instr.next (.pointer (some ⟨it, 0, none⟩)) false ty).run Try.prog W = .ok (.tuple #[.bool false]) W ∧ MapIs W r (fun k => if q k = true then F k else none)) ∨
    ∃ k s W', (Instr.next (.pointer (some ⟨it, 0, none⟩)) false ty).run Try.prog W = .ok (.tuple #[.bool true, keyV k, shV s]) W' ∧ Stepped W' r it F q n k s ∧ KS (fun i => i = it) W W' := by
  obtain ⟨es, clock, since, seen, c0, hb, hi, hold, hsc, hcl, hcc, hst, he1, he2, hn⟩ := h
  subst hcc
  rcases run_next_at (P := Try.prog) W ty it r since c0 seen es c0 hi hb hold hsc with ⟨h0, hr⟩ | ⟨e, he, w1, hw1, hr⟩
  · refine .inl ⟨hr, es, c0, hb, hst, ?_, ?_⟩
    · intro e he
      obtain ⟨k, s, h1, h2, h3, h4⟩ := he1 e he
      exact ⟨k, s, h1, h2, by simp only; rw [if_pos (h4 (all_seen es seen h0 e he))]; exact h3⟩
    · intro k s hF
      simp only at hF
      split at hF
      · rename_i hq
        exact he2 k s hF hq
      · cases hF
  · obtain ⟨hm, hs⟩ := mem_left he
    obtain ⟨k, s, h1, h2, h3, _⟩ := he1 e hm
    rw [h1, h2] at hr
    have hk1 : KS (fun i => i = it) W w1 := by rcases hw1 with rfl | rfl; exact KS.refl _ _; exact (KS.refl _ _).drew
    have hit : it < w1.heap.size := by have := hk1.size; have := blk_lt hi; omega
    have hk2 : KS (fun i => i = it) W (setBlock w1 it (.mapIter (some r) since (seen.push e.born) c0)) := hk1.setBlock (fun _ => rfl) _
    exact .inr ⟨k, s, _, hr, ⟨es, c0, since, seen, e, hk2.blk hb hne, setBlock_same hit _, hold, hcl, hst, he1, he2, hn, hm, hs, h1, h2, h3⟩, hk2⟩
theorem Stepped.entry {W : World} {r it n : Nat} {F : Int × Int → Option Sh} {q : Int × Int → Bool} {k : Int × Int} {s : Sh} (h : Stepped W r it F q n k s) :
    (Instr.entry (.pointer (some ⟨it, 0, none⟩))).run Try.prog W = .ok (.tuple #[keyV k, shV s]) W := by
  obtain ⟨es, clock, since, seen, e, hb, hi, _, _, hst, _, _, _, he, _, h1, h2, _⟩ := h
  rw [← h1, ← h2]
  exact run_entry_at W it r since seen es clock e hi hb he hst.2.1
theorem Stepped.stay {W : World} {r it n : Nat} {F : Int × Int → Option Sh} {q : Int × Int → Bool} {k : Int × Int} {s : Sh} (h : Stepped W r it F q n k s) (hq : q k = true) : ∃ n', n' < n ∧ Ranging W r it F q n' := by
  obtain ⟨es, clock, since, seen, e, hb, hi, hold, hcl, hst, he1, he2, hn, he, hs, h1, h2, h3⟩ := h
  have hl : e ∈ (leftOf es seen).toList := by simp [leftOf]; exact ⟨by simpa using he, by simpa using hs⟩
  refine ⟨_, by rw [← hn]; exact left_shrinks es seen e hl, es, clock, since, seen.push e.born, clock, hb, hi, hold, hcl, hcl, rfl, hst, ?_, he2, rfl⟩
  intro x hx
  obtain ⟨k', s', a1, a2, a3, a4⟩ := he1 x hx
  refine ⟨k', s', a1, a2, a3, fun hc => ?_⟩
  rw [contains_push, Bool.or_eq_true] at hc
  rcases hc with hc | hc
  · exact a4 hc
  · obtain rfl := born_inj hst.2.1 hx he (by simpa using hc)
    rw [h1] at a1
    obtain rfl := keyV_inj a1
    exact hq
theorem Stepped.gone {W : World} {r it n : Nat} {F : Int × Int → Option Sh} {q : Int × Int → Bool} {k : Int × Int} {s : Sh} (h : Stepped W r it F q n k s) (hne : r ≠ it) (hq : q k = false) (ats : Array TypeId) (h0 : ats[0]? = some 113) (ty : TypeId) :
    ∃ W' n', (Builtin.delete_ ats ty #[.map (some r), keyV k]).run Try.prog W = .ok (.tuple #[]) W' ∧ n' < n ∧ Ranging W' r it F q n' ∧ KS (fun i => i = r) W W' := by
  obtain ⟨es, clock, since, seen, e, hb, hi, hold, hcl, hst, he1, he2, hn, he, hs, h1, h2, h3⟩ := h
  have hlt := blk_lt hb
  obtain ⟨es', hr, hst', hmem, hsub⟩ := run_delete hb hst (fun e he => by obtain ⟨k', s', a1, _⟩ := he1 e he; exact ⟨k', a1⟩) k e he h1 ats h0 ty
  have hk : KS (fun i => i = r) W (setBlock W r (.map es' clock)) := KS.setBlock (S := fun i => i = r) (KS.refl _ W) (fun _ => rfl) _
  have hl : e ∈ (leftOf es seen).toList := by simp [leftOf]; exact ⟨by simpa using he, by simpa using hs⟩
  have hsz : (leftOf es' (seen.push e.born)).size ≤ (leftOf es (seen.push e.born)).size := by
    have e1 : ∀ (p : MapEntry → Bool) (a : Array MapEntry), (a.filter p).size = (a.toList.filter p).length := fun p a => by rw [← Array.toList_filter, Array.length_toList]
    unfold leftOf
    rw [e1, e1]
    exact (hsub.filter _).length_le
  refine ⟨_, _, hr, ?_, ⟨es', clock, since, seen.push e.born, clock, setBlock_same hlt _, hk.blk hi (Ne.symm hne), fun x hx => hold x ((hmem x).1 hx).1, hcl, hcl, rfl, hst', ?_, ?_, rfl⟩, hk⟩
  · have := left_shrinks es seen e hl
    omega
  · intro x hx
    obtain ⟨hx1, hx2⟩ := (hmem x).1 hx
    obtain ⟨k', s', a1, a2, a3, a4⟩ := he1 x hx1
    refine ⟨k', s', a1, a2, a3, fun hc => ?_⟩
    rw [contains_push, Bool.or_eq_true] at hc
    rcases hc with hc | hc
    · exact a4 hc
    · exact absurd (by simpa using hc) hx2
  · intro k' s' hF hq'
    obtain ⟨x, hx, a1, a2⟩ := he2 k' s' hF hq'
    refine ⟨x, (hmem x).2 ⟨hx, fun hborn => ?_⟩, a1, a2⟩
    obtain rfl := born_inj hst.2.1 hx he hborn
    rw [h1] at a1
    obtain rfl := keyV_inj a1
    rw [hq] at hq'
    cases hq'
end Go.Proofs.Ytehfhbdhdbpfpaa.Own
