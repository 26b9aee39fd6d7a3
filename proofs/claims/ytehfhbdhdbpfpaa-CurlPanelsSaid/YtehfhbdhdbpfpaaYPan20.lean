/- Parts of a proof: M2. No condition. -/
import Derived.Test.YtehfhbdhdbpfpaaYPan19
namespace Go.Proofs.Ytehfhbdhdbpfpaa.Print
end Go.Proofs.Ytehfhbdhdbpfpaa.Print
namespace Go.Proofs.Ytehfhbdhdbpfpaa.Spec
end Go.Proofs.Ytehfhbdhdbpfpaa.Spec
namespace Go.Proofs.YtehfhbdhdbpfpaaW.PrintLast
end Go.Proofs.YtehfhbdhdbpfpaaW.PrintLast
namespace Go.Proofs.YtehfhbdhdbpfpaaW.PrintMore
end Go.Proofs.YtehfhbdhdbpfpaaW.PrintMore
namespace Go.Proofs.YtehfhbdhdbpfpaaW.PrintWords
end Go.Proofs.YtehfhbdhdbpfpaaW.PrintWords
set_option linter.unusedVariables false
set_option linter.unusedSimpArgs false
namespace Go.Proofs.Ytehfhbdhdbpfpaa.Own
open Go.RowKit Go.Shelf Go.Proofs.YtehfhbdhdbpfpaaW.PrintWords Go.Proofs.YtehfhbdhdbpfpaaW.PrintLast Go.Proofs.YtehfhbdhdbpfpaaW.PrintMore Go.Proofs.Ytehfhbdhdbpfpaa.Print Go.Proofs.Ytehfhbdhdbpfpaa.Spec
open Go.ChangeMaps (setBlock)
open Go.MapKept (Stamped stamped_push stamped_modify stamped_erase)
set_option linter.unusedVariables false
set_option linter.unusedSimpArgs false
def CacheIs (W : World) (mb : Nat) (G : Int → Option Nat) : Prop :=
  ∃ es clock, W.heap[mb]? = some (.map es clock) ∧ Stamped es clock ∧ (∀ e ∈ es.toList, ∃ x r, e.key = .int .i64 x ∧ e.val = .map (some r) ∧ G x = some r) ∧ (∀ x r, G x = some r → ∃ e ∈ es.toList, e.key = .int .i64 x ∧ e.val = .map (some r))
theorem cacheDesc : Try.prog.underlying 82 = some (.map 2 113) := by kernel_rfl
theorem int64Desc : Try.prog.underlying 2 = some (.int .i64) := by kernel_rfl
theorem check_int (e : Bool) (x : Int) (w : World) : (Instr.checkKey e 10000 2 (.int .i64 x)).run Try.prog w = .ok () w := by kernel_rfl
theorem findNow_int (k : Int) : ∀ (es : List MapEntry) (i : Nat), (∀ e ∈ es, ∃ k', e.key = .int .i64 k') →
    (Instr.findNow (.int .i64) (.int .i64 k) es i = some none ∧ ∀ e ∈ es, e.key ≠ .int .i64 k) ∨ ∃ j e, Instr.findNow (.int .i64) (.int .i64 k) es i = some (some (i + j, e.val)) ∧ es[j]? = some e ∧ e.key = .int .i64 k
  | [], i, h => .inl ⟨rfl, by simp⟩
  | e :: es, i, h => by
    obtain ⟨k', hk'⟩ := h e (by simp)
    by_cases hkk : k = k'
    · subst hkk
      exact .inr ⟨0, e, by simp [Instr.findNow, Instr.sameNow, hk'], rfl, hk'⟩
    · have hb : (k == k') = false := by simpa using hkk
      rcases findNow_int k es (i + 1) (fun e' he' => h e' (by simp [he'])) with ⟨h1, h2⟩ | ⟨j, e', h1, h2, h3⟩
      · refine .inl ⟨by simp [Instr.findNow, Instr.sameNow, hk', hb, h1], fun e' he' => ?_⟩
        rcases List.mem_cons.1 he' with rfl | he'
        · rw [hk']; intro e2; cases e2; exact hkk rfl
        · exact h2 e' he'
      · exact .inr ⟨j + 1, e', by simp [Instr.findNow, Instr.sameNow, hk', hb, h1]; omega, by simpa using h2, h3⟩
theorem findKey_int (k : Int) (es : List MapEntry) (w : World) (h : ∀ e ∈ es, ∃ k', e.key = .int .i64 k') :
    ∃ r, (Instr.findKey 2 (.int .i64 k) es).run Try.prog w = .ok r w ∧
      ((r = none ∧ ∀ e ∈ es, e.key ≠ .int .i64 k) ∨ ∃ j e, r = some (j, e.val) ∧ es[j]? = some e ∧ e.key = .int .i64 k) := by
  rcases findNow_int k es 0 h with ⟨h1, h2⟩ | ⟨j, e, h1, h2, h3⟩
  · exact ⟨none, by simp [Instr.findKey, run_underlying int64Desc, h1, Result.andThen], .inl ⟨rfl, h2⟩⟩
  · exact ⟨some (j, e.val), by simp [Instr.findKey, run_underlying int64Desc, h1, Result.andThen], .inr ⟨j, e, rfl, h2, h3⟩⟩
theorem CacheIs.lookup {W : World} {mb : Nat} {G : Int → Option Nat} (h : CacheIs W mb G) (x : Int) :
    (Instr.lookup 82 (.map (some mb)) (.int .i64 x) true).run Try.prog W = .ok (.tuple #[.map (G x), .bool (G x).isSome]) W := by
  obtain ⟨es, clock, hb, hst, he1, he2⟩ := h
  obtain ⟨res, hr, hc⟩ := findKey_int x es.toList W (fun e he => by obtain ⟨k', s, h1, _⟩ := he1 e he; exact ⟨k', h1⟩)
  rcases hc with ⟨rfl, hno⟩ | ⟨j, e, rfl, hj, hk⟩
  · have hG : G x = none := by
      cases hG : G x with
      | none => rfl
      | some r =>
        obtain ⟨e, he, h1, _⟩ := he2 x r hG
        exact absurd h1 (hno e he)
    have hz : (zeroValue 113).run Try.prog W = .ok (.map none) W := by kernel_rfl
    rw [hG]
    simp [Instr.lookup, run_underlying cacheDesc, Go.MapKept.run_getObj_map hb, check_int, hr, hz, Result.andThen]
  · obtain ⟨x', r, h1, h2, h3⟩ := he1 e (List.mem_of_getElem? hj)
    rw [hk] at h1
    cases h1
    rw [h3]
    rw [h2] at hr
    simp [Instr.lookup, run_underlying cacheDesc, Go.MapKept.run_getObj_map hb, check_int, hr, Result.andThen]
theorem CacheIs.insert {W : World} {mb : Nat} {G : Int → Option Nat} (h : CacheIs W mb G) (x : Int) (r : Nat) (hG : G x = none) :
    ∃ W', (Instr.mapUpdate 82 (.map (some mb)) (.int .i64 x) (.map (some r))).run Try.prog W = .ok () W' ∧ CacheIs W' mb (fun y => if y = x then some r else G y) ∧ KS (fun i => i = mb) W W' := by
  obtain ⟨es, clock, hb, hst, he1, he2⟩ := h
  have hlt := blk_lt hb
  obtain ⟨res, hr, hc⟩ := findKey_int x es.toList W (fun e he => by obtain ⟨k', s, h1, _⟩ := he1 e he; exact ⟨k', h1⟩)
  rcases hc with ⟨rfl, hno⟩ | ⟨j, e, rfl, hj, hk⟩
  · refine ⟨setBlock W mb (.map (es.push { key := .int .i64 x, val := .map (some r), born := clock }) (clock + 1)), ?_, ⟨_, _, setBlock_same hlt _, stamped_push hst hno, ?_, ?_⟩, KS.setBlock (S := fun i => i = mb) (KS.refl _ W) (fun _ => rfl) _⟩
    · simp [Instr.mapUpdate, run_underlying cacheDesc, Go.MapKept.run_getObj_map hb, check_int, hr, Go.MapKept.run_setObj_map _ hb, Result.andThen, Go.ChangeMaps.setBlock]
    · intro e he
      simp only [Array.toList_push, List.mem_append, List.mem_singleton] at he
      rcases he with he | rfl
      · obtain ⟨x', r', h1, h2, h3⟩ := he1 e he
        refine ⟨x', r', h1, h2, ?_⟩
        have : x' ≠ x := by rintro rfl; exact hno e he h1
        simp [this, h3]
      · exact ⟨x, r, rfl, rfl, by simp⟩
    · intro x' r' hF
      simp only [Array.toList_push]
      by_cases e : x' = x
      · subst e
        simp at hF
        subst hF
        exact ⟨{ key := .int .i64 x', val := .map (some r), born := clock }, by simp, rfl, rfl⟩
      · simp [e] at hF
        obtain ⟨e', he', h1, h2⟩ := he2 x' r' hF
        exact ⟨e', by simp only [List.mem_append]; exact .inl he', h1, h2⟩
  · obtain ⟨x', r', h1, h2, h3⟩ := he1 e (List.mem_of_getElem? hj)
    rw [hk] at h1
    cases h1
    rw [hG] at h3
    cases h3
theorem CacheIs.keep {W W' : World} {mb : Nat} {G : Int → Option Nat} (h : CacheIs W mb G) (hk : W'.heap[mb]? = W.heap[mb]?) : CacheIs W' mb G := by
  obtain ⟨es, clock, hb, rest⟩ := h
  exact ⟨es, clock, hk.trans hb, rest⟩
theorem CacheIs.lt {W : World} {mb : Nat} {G : Int → Option Nat} (h : CacheIs W mb G) : mb < W.heap.size := by
  obtain ⟨es, clock, hb, _⟩ := h
  exact blk_lt hb
theorem MapIs.keep {W W' : World} {r : Nat} {F : Int × Int → Option Sh} (h : MapIs W r F) (hk : W'.heap[r]? = W.heap[r]?) : MapIs W' r F := by
  obtain ⟨es, clock, hb, rest⟩ := h
  exact ⟨es, clock, hk.trans hb, rest⟩
theorem MapIs.lt {W : World} {r : Nat} {F : Int × Int → Option Sh} (h : MapIs W r F) : r < W.heap.size := by
  obtain ⟨es, clock, hb, _⟩ := h
  exact blk_lt hb
theorem MapIs.empty (W : World) : MapIs (W.alloc (.map #[] 0)) W.heap.size (fun _ => none) := ⟨#[], 0, World.alloc_heap_new W _, Go.MapKept.stamped_empty 0, by simp, by simp⟩
theorem CacheIs.empty {W : World} {mb : Nat} (h : W.heap[mb]? = some (.map #[] 0)) : CacheIs W mb (fun _ => none) := ⟨#[], 0, h, Go.MapKept.stamped_empty 0, by simp, by simp⟩
def CacheOk (W : World) (mb : Nat) (H : Int → Int × Int → Option Sh) (Bd : Nat → Prop) : Prop := ∃ G, CacheIs W mb G ∧ ∀ x r, G x = some r → (r ≠ mb ∧ ¬ Bd r) ∧ MapIs W r (H x)
variable {Bd : Nat → Prop}
theorem CacheOk.below {W W' : World} {mb : Nat} {H : Int → Int × Int → Option Sh} (h : CacheOk W mb H Bd) (hb : Below W.heap.size W W') : CacheOk W' mb H Bd := by
  obtain ⟨G, h1, h2⟩ := h
  exact ⟨G, h1.keep (hb.block _ h1.lt), fun x r hx => ⟨(h2 x r hx).1, (h2 x r hx).2.keep (hb.block _ (h2 x r hx).2.lt)⟩⟩
theorem CacheOk.lt {W : World} {mb : Nat} {H : Int → Int × Int → Option Sh} (h : CacheOk W mb H Bd) : mb < W.heap.size := by
  obtain ⟨G, h1, _⟩ := h
  exact h1.lt
end Go.Proofs.Ytehfhbdhdbpfpaa.Own
