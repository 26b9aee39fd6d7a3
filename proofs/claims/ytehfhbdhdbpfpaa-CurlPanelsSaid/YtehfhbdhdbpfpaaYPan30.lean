/- Parts of a proof: B1. No condition. -/
import Derived.Test.YtehfhbdhdbpfpaaYPan18
import Derived.Test.YtehfhbdhdbpfpaaYPan29
namespace Go.Proofs.Ytehfhbdhdbpfpaa.Print
end Go.Proofs.Ytehfhbdhdbpfpaa.Print
namespace Go.Proofs.Ytehfhbdhdbpfpaa.Spec
end Go.Proofs.Ytehfhbdhdbpfpaa.Spec
namespace Go.Proofs.YtehfhbdhdbpfpaaW.PrintLast
end Go.Proofs.YtehfhbdhdbpfpaaW.PrintLast
namespace Go.Proofs.YtehfhbdhdbpfpaaW.PrintMore
end Go.Proofs.YtehfhbdhdbpfpaaW.PrintMore
namespace Go.Proofs.YtehfhbdhdbpfpaaW.PrintWords
end Go.Proofs.YtehfhbdhdbpfpaaW.PrintWords
set_option linter.unusedVariables false
set_option linter.unusedSimpArgs false
namespace Go.Proofs.Ytehfhbdhdbpfpaa.Own
open Go.RowKit Go.Shelf Go.Proofs.YtehfhbdhdbpfpaaW.PrintWords Go.Proofs.YtehfhbdhdbpfpaaW.PrintLast Go.Proofs.YtehfhbdhdbpfpaaW.PrintMore Go.Proofs.Ytehfhbdhdbpfpaa.Print Go.Proofs.Ytehfhbdhdbpfpaa.Spec
set_option linter.unusedVariables false
set_option linter.unusedSimpArgs false
def blBy (l : List Sh) (lo hi : Int) (o : List Int) (k : Nat) (s : Int) : Bool := (iota k).any fun i => rd o i == s && blames l lo hi o i
def blIn (l : List Sh) (lo hi : Int) (pre : List (List Int)) (s : Int) : Bool := pre.any fun o => blBy l lo hi o o.length s
theorem blBy_zero (l : List Sh) (lo hi : Int) (o : List Int) (s : Int) : blBy l lo hi o 0 s = false := rfl
theorem blBy_succ (l : List Sh) (lo hi : Int) (o : List Int) (k : Nat) (s : Int) : blBy l lo hi o (k + 1) s = (blBy l lo hi o k s || (rd o k == s && blames l lo hi o k)) := by
  unfold blBy iota
  rw [List.range_succ, List.map_append, List.any_append]
  simp
theorem blIn_push (l : List Sh) (lo hi : Int) (pre : List (List Int)) (o : List Int) (s : Int) : blIn l lo hi (pre ++ [o]) s = (blIn l lo hi pre s || blBy l lo hi o o.length s) := by
  unfold blIn
  rw [List.any_append]
  simp
def marksB (f : Int → Bool) : Array Value := ((List.range 7).map fun (i : Nat) => Value.int .i64 (if f i then 1 else 0)).toArray
theorem marksB_at (f : Int → Bool) (k : Nat) (hk : k < 7) : (marksB f)[k]? = some (.int .i64 (if f k then 1 else 0)) := by simp [marksB, hk]
theorem marksB_size (f : Int → Bool) : (marksB f).size = 7 := by simp [marksB]
theorem marksB_set (f : Int → Bool) (k : Nat) (hk : k < 7) : (marksB f).setIfInBounds k (.int .i64 1) = marksB (fun s => f s || s == (k : Int)) := by
  apply Array.ext_getElem?
  intro i
  rw [Array.getElem?_setIfInBounds, marksB_size]
  by_cases hi : i < 7
  · by_cases e : k = i
    · subst e; rw [if_pos rfl, if_pos hk, marksB_at _ _ hk]; simp
    · rw [if_neg e, marksB_at _ _ hi, marksB_at _ _ hi]
      have : ¬ ((i : Int) = (k : Int)) := by omega
      simp [this]
  · have h0 : ∀ f, (marksB f)[i]? = none := fun f => Array.getElem?_eq_none (by rw [marksB_size]; omega)
    rw [if_neg (by omega), h0, h0]
theorem marksB_congr {f g : Int → Bool} (h : ∀ k : Nat, k < 7 → f k = g k) : marksB f = marksB g := by
  unfold marksB
  congr 1
  apply List.map_congr_left
  intro i hi
  rw [h i (List.mem_range.1 hi)]
theorem run_eql_marks (b0 b1 b2 b3 b4 b5 b6 : Bool) (w : World) : (binOp .eql 87 (.agg #[.int .i64 (if b0 then 1 else 0), .int .i64 (if b1 then 1 else 0), .int .i64 (if b2 then 1 else 0), .int .i64 (if b3 then 1 else 0), .int .i64 (if b4 then 1 else 0), .int .i64 (if b5 then 1 else 0), .int .i64 (if b6 then 1 else 0)])
    (.agg #[.int .i64 0, .int .i64 0, .int .i64 0, .int .i64 0, .int .i64 0, .int .i64 0, .int .i64 0])).run Try.prog w = .ok (.bool (!b0 && !b1 && !b2 && !b3 && !b4 && !b5 && !b6)) w := by
  cases b0 <;> cases b1 <;> cases b2 <;> cases b3 <;> cases b4 <;> cases b5 <;> cases b6 <;> kernel_rfl
theorem wpListIn_append_grows {F : Fence} {N : Nat} {P : Program} (w : World) {ops : Array Oper} {rest : List Oper} {o : Oper} {a : Act} {Q : Exit → Act → World → Prop}
    (hg : o.guard = none) (s x : Operand) (t : TypeId) (hop : o.op = Op.call { callee := Callee.builtin Builtin.append, args := #[s, x], argTypes := #[t, t] })
    (e : TypeId) (i : TypeInfo) (z : Value) (size bytes : Nat) (h1 : P.underlying t = some (.slice e)) (h2 : P.info? e = some i) (h3 : i.zero = some z) (h4 : i.size = size) (h5 : i.bytes = bytes) (h6 : z.cells.size = size) (h7 : 0 < size)
    (ao : Option Addr) (n cap : Nat) (olds : List Value) (hs : a.eval s = .slice ao n cap) (hnone : ao = none → n = 0 ∧ cap = 0) (hlo : olds.length = n * size) (holds : ∀ b, ao = some b → ∀ j u, olds[j]? = some u → w.cell? (b.add j) = some u)
    (ad : Addr) (m c : Nat) (news : List Value) (hx : a.eval x = .slice (some ad) m c) (hn : news.length = m * size) (hc : ∀ j u, news[j]? = some u → w.cell? (ad.add j) = some u) (h1c : ∀ u ∈ news, u.oneCell' = true)
    (hfull : cap < n + m) (b1 : n + m ≤ maxLen) (b2 : (n + m) * bytes ≤ 140737488355328)
    (hK : ∀ v' w', w'.ownsRow w.heap.size e size v' (n + m) (olds ++ news) → w.grownBy w' none → wpListIn F N P ops Q rest (a.put o.dst v') w') :
    wpListIn F N P ops Q (o :: rest) a w := by
  refine wpListIn_plain hg fun K hK' => ?_
  have hall : ∃ v' w', (Builtin.append_ #[t, t] o.type #[.slice ao n cap, .slice (some ad) m c]).run P w = .ok v' w' ∧ w'.ownsRow w.heap.size e size v' (n + m) (olds ++ news) ∧ w.grownBy w' none := by
    cases ao with
    | some b =>
      obtain ⟨v', w', hrun, r1, r2⟩ := run_append_arg_grows (P := P) w t o.type e i z size bytes h1 h2 h3 h4 h5 h6 h7 b n cap olds hlo (holds b rfl) ad m c news hn hc hfull b1 b2
      exact ⟨v', w', hrun, r1, r2⟩
    | none =>
      obtain ⟨rfl, rfl⟩ := hnone rfl
      obtain rfl : olds = [] := List.eq_nil_of_length_eq_zero (by simpa using hlo)
      obtain ⟨v', w', hrun, r1, r2, _⟩ := run_append_own (P := P) w w.heap.size t o.type e i z size bytes h1 h2 h3 h4 h5 h6 h7 (.slice none 0 0) 0 [] (World.ownsRow_nil w _ e size) ad m c news hn hc h1c b1 b2 (Nat.le_refl _)
      exact ⟨v', w', hrun, r1, r2⟩
  obtain ⟨v', w', hrun, r1, r2⟩ := hall
  unfold Oper.wpIn
  refine ⟨?_, ?_⟩
  · simp [Oper.about, hop, resolve, Target.leads, Sem.run_pure]
  · rw [Oper.semAt_plain F _ _ (by rw [hop]; intro c hc'; cases hc')]
    simp [execOp, hop, resolve, invoke, builtin, hs, hx, hrun, Result.andThen]
    exact hK' _ _ (hK v' w' r1 r2)
def outUpto (f : Int → Bool) (k : Nat) : List Int := (iota k).filter f
theorem outUpto_succ (f : Int → Bool) (k : Nat) : outUpto f (k + 1) = outUpto f k ++ (if f k = true then [(k : Int)] else []) := by
  unfold outUpto iota
  rw [List.range_succ, List.map_append, List.filter_append]
  simp [List.filter_cons]
theorem outUpto_len (f : Int → Bool) (k : Nat) : (outUpto f k).length ≤ k := by
  unfold outUpto iota
  refine Nat.le_trans (List.length_filter_le _ _) ?_
  simp
theorem outUpto_more (f : Int → Bool) (n : Nat) (h : ∀ k : Nat, n ≤ k → f k = false) : ∀ m, n ≤ m → outUpto f m = outUpto f n
  | m, hm => by
    by_cases e : m = n
    · rw [e]
    · obtain ⟨j, rfl⟩ : ∃ j, m = j + 1 := ⟨m - 1, by omega⟩
      rw [outUpto_succ, h j (by omega), outUpto_more f n h j (by omega)]
      simp
theorem R_olds {W : World} {base : Nat} {ok : Nat → Prop} {v : Value} {xs : List Int} (h : Kd.R (Kd.int .i64) 3 W base ok v xs) :
    (v = .slice none 0 0 ∧ xs = []) ∨ ∃ g cap, v = .slice (some ⟨g, 0, none⟩) xs.length cap ∧ xs.length ≤ cap ∧ ∀ j u, (xs.map (Value.int .i64))[j]? = some u → W.cell? ⟨g, j, none⟩ = some u := by
  obtain ⟨A, c, rfl, hc, hr⟩ := Kd.R_reads h
  obtain ⟨_, inner, ho, _⟩ := h
  rcases ho.2 with ⟨hv, hn⟩ | ⟨g, cap, cur, hv, _⟩
  · exact .inl ⟨by simpa [hn] using hv, List.eq_nil_of_length_eq_zero hn⟩
  · refine .inr ⟨g, cap, hv, ?_, ?_⟩
    · simp only [Value.slice.injEq] at hv; omega
    · intro j u hj
      rw [List.getElem?_map] at hj
      obtain ⟨x, hx, rfl⟩ := Option.map_eq_some_iff.1 hj
      obtain ⟨hjl, hxx⟩ := List.getElem?_eq_some_iff.1 hx
      obtain ⟨ad, e, hcell⟩ := C_cell hr j hjl
      simp only [Value.slice.injEq] at hv
      obtain ⟨hA, _, _⟩ := hv
      rw [hA] at e
      obtain rfl := Option.some.inj e
      rw [add_plain] at hcell
      rw [hcell, hxx]
end Go.Proofs.Ytehfhbdhdbpfpaa.Own
