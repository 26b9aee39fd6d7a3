/- Parts of a proof: S X1. No condition. -/
import Derived.Test.YtehfhbdhdbpfpaaYPan04
import Derived.Test.YtehfhbdhdbpfpaaYPan05
import Derived.Lib.Hide
import Derived.Outline
import Derived.RangeFuncNested
import Derived.RangeFuncBound
import Derived.RangeFuncCalls
import Derived.RangeFuncLeaves
import Derived.Shelf.Abstract
import Derived.Shelf.RegionOpen
import Derived.OwnWalkIn
import Derived.TacticsInMore
import Derived.LoopNIn
import Derived.LoopIn
import Derived.Maps.OwnIn
namespace Go.Proofs.Ytehfhbdhdbpfpaa.Print
end Go.Proofs.Ytehfhbdhdbpfpaa.Print
namespace Go.Proofs.Ytehfhbdhdbpfpaa.Spec
end Go.Proofs.Ytehfhbdhdbpfpaa.Spec
namespace Go.Proofs.YtehfhbdhdbpfpaaW.PrintWords
end Go.Proofs.YtehfhbdhdbpfpaaW.PrintWords
set_option linter.unusedVariables false
set_option linter.unusedSimpArgs false
section
namespace Go.Proofs.Ytehfhbdhdbpfpaa.Spec
open Go.RowKit Go.Proofs.Ytehfhbdhdbpfpaa.Print Go.Proofs.YtehfhbdhdbpfpaaW.PrintWords
abbrev Sh := S52
abbrev Ch := S54
abbrev rdSh (l : List Sh) (i : Int) : Sh := rd_T52 l i
def iota (n : Nat) : List Int := (List.range n).map fun (i : Nat) => (i : Int)
def shOk (s : Sh) : Bool := decide (0 ≤ s.f0) && decide (s.f0 ≤ 100) && decide (-10 ≤ s.f1) && decide (s.f1 ≤ 10)
def panel (l : List Sh) (lo hi : Int) : Int :=
  if l.length < 3 ∨ 7 < l.length ∨ l.length % 2 = 0 then 6
  else if l.any (fun s => !shOk s) = true ∨ lo < 0 ∨ 50 < lo ∨ hi < 0 ∨ 50 < hi ∨ hi < lo then 3 else 0
def isOrd (n : Nat) (o : List Int) : Bool := o.isPerm (iota n)
def opened (l : List Sh) (lo hi : Int) (o : List Int) : Int := if panel l lo hi = 0 then (if isOrd l.length o = true then 0 else 16) else panel l lo hi
def place (n : Nat) (i : Int) : Int := i - (n : Int) / 2
def psum (g : Sh → Int) (l : List Sh) (o : List Int) (ac : Int) (skip : Option Int) : Nat → Int
  | 0 => 0
  | k + 1 => psum g l o ac skip k + (if (k : Int) % 2 = ac ∧ skip ≠ some (k : Int) then place l.length k * g (rdSh l (rd o k)) else 0)
def sumP (l : List Sh) (o : List Int) (ac : Int) (skip : Option Int) : Int := psum (fun s => s.f0) l o ac skip o.length
def sumM (l : List Sh) (o : List Int) (ac : Int) (skip : Option Int) : Int := psum (fun s => s.f1) l o ac skip o.length
def moment (l : List Sh) (o : List Int) (ac d : Int) : Int := sumP l o ac none + sumM l o ac none * d
def mabs (x : Int) : Int := if x < 0 then -x else x
def mmax (x y : Int) : Int := if x < y then y else x
def curlAt (l : List Sh) (o : List Int) (d : Int) : Int := mmax (mabs (moment l o 0 d)) (mabs (moment l o 1 d))
def curlV (l : List Sh) (lo hi : Int) (o : List Int) : Int := mmax (curlAt l o lo) (curlAt l o hi)
def goPerms (n : Nat) : Nat → List Int → List (List Int)
  | 0, b => [b]
  | m + 1, b => (iota n).flatMap fun i => if i ∈ b then [] else goPerms n m (b ++ [i])
def perms (n : Nat) : List (List Int) := goPerms n n []
def bestBy {α : Type} (lt : α → α → Bool) (b : α) (l : List α) : α := l.foldl (fun o x => if lt x o then x else o) b
def order (l : List Sh) (lo hi : Int) : List Int :=
  bestBy (fun x y => decide (curlV l lo hi x < curlV l lo hi y)) ((perms l.length).headD []) ((perms l.length).drop 1)
def flats (l : List Sh) (lo hi : Int) : Int := ((perms l.length).filter (fun o => curlV l lo hi o == 0)).length
def okCh (n : Nat) : Int → List Ch → Bool
  | _, [] => true
  | x, c :: r => decide (x ≤ c.f0) && decide (c.f0 ≤ (n : Int) - 1) && shOk c.f1 && okCh n (c.f0 + 1) r
def changed (l : List Sh) (ch : List Ch) : List Sh := ch.foldl (fun l c => l.set c.f0.toNat c.f1) l
def solve0 (l : List Sh) (lo hi : Int) (o : List Int) (ac : Int) : Bool :=
  (decide (sumP l o ac none = 0) && decide (sumM l o ac none = 0)) || (decide (lo = hi) && decide (sumP l o ac none + sumM l o ac none * lo = 0))
def keyOf (lo hi x : Int) (s : Sh) : Int × Int := if lo = hi then (x * (s.f0 + s.f1 * lo), 0) else (x * s.f0, x * s.f1)
def cands (x : Int) : List Sh :=
  if x = 0 then [⟨0, -10⟩] else (List.range 21).flatMap fun (m : Nat) => (List.range 101).map fun (p : Nat) => (⟨(p : Int), (m : Int) - 10⟩ : Sh)
def most (l : List Sh) (lo : Int) : Int := (l.map fun s => place l.length ((l.length : Int) - 1) * mmax (mmax s.f0 (s.f0 + s.f1 * lo)) (-(s.f0 + s.f1 * lo))).sum
def sheetAt (l : List Sh) (lo hi x : Int) (want : Int × Int) : Option Sh :=
  if -(most l lo) ≤ want.1 ∧ want.1 ≤ most l lo then (cands x).reverse.find? (fun s => keyOf lo hi x s == want) else none
def solve1 (l : List Sh) (lo hi : Int) (o : List Int) (ac layer : Int) : Option Sh :=
  sheetAt l lo hi (place l.length layer)
    (if lo = hi then (-(sumP l o ac (some layer)) - sumM l o ac (some layer) * lo, 0) else (-(sumP l o ac (some layer)), -(sumM l o ac (some layer))))
def own (o : List Int) (ac : Int) : List Int := (iota o.length).filter fun i => i % 2 == ac
def cureSide (l : List Sh) (lo hi : Int) (o : List Int) (ac : Int) : List Ch :=
  if solve0 l lo hi o ac = true then [] else
    match (own o ac).findSome? fun i => (solve1 l lo hi o ac i).map fun s => (⟨rd o i, s⟩ : Ch) with
    | some c => [c]
    | none => ((own o ac).filter fun i => decide (0 < place l.length i)).map fun i => ⟨rd o i, rdSh l (rd o ((o.length : Int) - 1 - i))⟩
def ins (c : Ch) : List Ch → List Ch
  | [] => [c]
  | d :: r => if c.f0 < d.f0 then c :: d :: r else d :: ins c r
def sortCh (l : List Ch) : List Ch := l.foldl (fun s c => ins c s) []
def cure (l : List Sh) (lo hi : Int) (o : List Int) : List Ch := sortCh (cureSide l lo hi o 0 ++ cureSide l lo hi o 1)
def blames (l : List Sh) (lo hi : Int) (o : List Int) (i : Int) : Bool := solve0 l lo hi o (1 - i % 2) && (solve1 l lo hi o (i % 2) i).isSome
def blame (l : List Sh) (lo hi : Int) : List Int :=
  (iota l.length).filter fun s => (perms l.length).any fun o => (iota o.length).any fun i => rd o i == s && blames l lo hi o i
end Go.Proofs.Ytehfhbdhdbpfpaa.Spec
namespace Go.Proofs.Ytehfhbdhdbpfpaa.Print
open Go.Proofs.Ytehfhbdhdbpfpaa.Spec
def curl_CheckPanel.f (l : List Sh) (lo hi : Int) : Option Int := some (panel l lo hi)
def curl_Moments.f (l : List Sh) (lo hi : Int) (o : List Int) (d : Int) : Option (Int × Int × Int) :=
  if o.length ≤ 12 then some (if opened l lo hi o = 0 then (if lo ≤ d ∧ d ≤ hi then (moment l o 0 d, moment l o 1 d, 0) else (0, 0, 3)) else (0, 0, opened l lo hi o)) else none
def curl_Curl.f (l : List Sh) (lo hi : Int) (o : List Int) : Option (Int × Int) :=
  if o.length ≤ 12 then some (if opened l lo hi o = 0 then (curlV l lo hi o, 0) else (0, opened l lo hi o)) else none
def curl_Order.f (l : List Sh) (lo hi : Int) : Option (List Int × Int) := some (if panel l lo hi = 0 then (order l lo hi, 0) else ([], panel l lo hi))
def curl_Least.f (l : List Sh) (lo hi : Int) : Option (Int × Int) := some (if panel l lo hi = 0 then (curlV l lo hi (order l lo hi), 0) else (0, panel l lo hi))
def curl_Flats.f (l : List Sh) (lo hi : Int) : Option (Int × Int) := some (if panel l lo hi = 0 then (flats l lo hi, 0) else (0, panel l lo hi))
def curl_CheckCure.f (l : List Sh) (lo hi : Int) (o : List Int) (ch : List Ch) : Option (Int × Int) :=
  if o.length ≤ 12 then some (if opened l lo hi o = 0 then (if okCh l.length 0 ch = true then (if 0 < curlV (changed l ch) lo hi o then (0, 23) else ((ch.length : Int), 0)) else (0, 3)) else (0, opened l lo hi o)) else none
def curl_Cure.f (l : List Sh) (lo hi : Int) (o : List Int) : Option (List Ch × Int) :=
  if o.length ≤ 12 then some (if opened l lo hi o = 0 then (cure l lo hi o, 0) else ([], opened l lo hi o)) else none
def curl_Fewest.f (l : List Sh) (lo hi : Int) (o : List Int) : Option (Int × Int) :=
  if o.length ≤ 12 then some (if opened l lo hi o = 0 then (((cure l lo hi o).length : Int), 0) else (0, opened l lo hi o)) else none
def curl_Blame.f (l : List Sh) (lo hi : Int) : Option (List Int × Int) := some (if panel l lo hi = 0 then (blame l lo hi, 0) else ([], panel l lo hi))
def crossbandlaw07_Works.f : Option Bool := some true
end Go.Proofs.Ytehfhbdhdbpfpaa.Print
end
section
namespace Go.Proofs.Ytehfhbdhdbpfpaa.Own
open Go.RowKit Go.Proofs.YtehfhbdhdbpfpaaW.PrintWords
theorem b0 (w : World) : Below w.heap.size w w := Below.refl _ _
theorem bt {w w1 w2 : World} (h : Below w.heap.size w w1) (k : Below w1.heap.size w1 w2) : Below w.heap.size w w2 :=
  h.trans ⟨k.os, k.tape, k.output, k.size, fun i hi => k.block i (Nat.lt_of_lt_of_le hi h.size)⟩
theorem ba {w w1 : World} (h : Below w.heap.size w w1) (o : Obj) : Below w.heap.size w (w1.alloc o) := h.alloc h.size o
structure KS (S : Nat → Prop) (w w' : World) : Prop where
  os : w'.os = w.os
  tape : w'.tape = w.tape
  output : w'.output = w.output
  size : w.heap.size ≤ w'.heap.size
  block : ∀ k, k < w.heap.size → ¬ S k → w'.heap[k]? = w.heap[k]?
namespace KS
variable {S S' : Nat → Prop} {w w1 w2 : World}
theorem refl (S : Nat → Prop) (w : World) : KS S w w := ⟨rfl, rfl, rfl, Nat.le_refl _, fun _ _ _ => rfl⟩
theorem trans (h : KS S w w1) (k : KS S w1 w2) : KS S w w2 :=
  ⟨k.os.trans h.os, k.tape.trans h.tape, k.output.trans h.output, Nat.le_trans h.size k.size, fun i hi hs => (k.block i (Nat.lt_of_lt_of_le hi h.size) hs).trans (h.block i hi hs)⟩
theorem then_ (h : KS S w w1) (k : KS S' w1 w2) (hs : ∀ i, i < w.heap.size → S' i → S i) : KS S w w2 :=
  ⟨k.os.trans h.os, k.tape.trans h.tape, k.output.trans h.output, Nat.le_trans h.size k.size, fun i hi hn => (k.block i (Nat.lt_of_lt_of_le hi h.size) (fun h2 => hn (hs i hi h2))).trans (h.block i hi hn)⟩
theorem mono (h : KS S w w1) (hs : ∀ i, i < w.heap.size → S i → S' i) : KS S' w w1 := ⟨h.os, h.tape, h.output, h.size, fun i hi hn => h.block i hi (fun h2 => hn (hs i hi h2))⟩
theorem of_below (h : Below w.heap.size w w1) (S : Nat → Prop) : KS S w w1 := ⟨h.os, h.tape, h.output, h.size, fun i hi _ => h.block i hi⟩
theorem below {B : Nat} (h : KS S w w1) (hB : B ≤ w.heap.size) (hs : ∀ i, S i → B ≤ i) : Below B w w1 := ⟨h.os, h.tape, h.output, h.size, fun i hi => h.block i (by omega) (fun h2 => by have := hs i h2; omega)⟩
theorem alloc (h : KS S w w1) (o : Obj) : KS S w (w1.alloc o) := h.then_ (S' := fun _ => False) (of_below (ba (b0 w1) o) _) (fun _ _ h => h.elim)
theorem after (h : KS S w w1) (k : Below w1.heap.size w1 w2) : KS S w w2 := h.then_ (S' := fun _ => False) (of_below k _) (fun _ _ h => h.elim)
theorem setCell (h : KS S w w1) {p : Addr} (hp : p.block < w.heap.size → S p.block) (u : Value) : KS S w (w1.setCell p u) :=
  h.then_ (S' := fun k => k = p.block) ⟨rfl, rfl, rfl, by simp [World.setCell], fun k _ hn => Below.heap_setCell w1 p u k hn⟩ (fun i hi e => by subst e; exact hp hi)
theorem putObj (h : KS S w w1) {r : Nat} (hr : r < w.heap.size → S r) (o : Obj) : KS S w (w1.putObj r o) :=
  h.then_ (S' := fun k => k = r) ⟨rfl, rfl, rfl, by simp, fun k _ hn => World.putObj_heap_other hn⟩ (fun i hi e => by subst e; exact hr hi)
theorem grown (h : KS S w w1) {row : Option Nat} (hg : w1.grownBy w2 row) (hr : ∀ k, row = some k → k < w.heap.size → S k) : KS S w w2 :=
  h.then_ (S' := fun k => row = some k) ⟨hg.os, hg.tape, hg.output, hg.size, fun k hk hn => hg.block k hk (fun e => hn e.symm)⟩ (fun i hi e => hr i e hi)
theorem drew (h : KS S w w1) : KS S w w1.drew := ⟨h.os, h.tape, h.output, h.size, h.block⟩
theorem drewN (h : KS S w w1) (n : Nat) : KS S w (w1.drewN n) := ⟨h.os, h.tape, h.output, h.size, h.block⟩
theorem blk {g : Nat} {o : Obj} (h : KS S w w1) (hb : w.heap[g]? = some o) (hn : ¬ S g) : w1.heap[g]? = some o := (h.block g (blk_lt hb) hn).trans hb
theorem kept (h : KS S w w1) : Kept w w1 S := ⟨h.size, h.block⟩
theorem cell {p : Addr} {v : Value} (h : KS S w w1) (hc : w.cell? p = some v) (hn : ¬ S p.block) : w1.cell? p = some v := Go.Proofs.YtehfhbdhdbpfpaaW.PrintWords.cell_kept hc h.kept hn
end KS
def BS (B : Nat) (Qk : Nat → Prop) (bad : TypeId) (W : World) (k : Nat) : Prop := (k < B ∧ ¬ Qk k) ∨ (B ≤ k ∧ ∃ cs fr, W.heap[k]? = some (.cells cs bad fr))
def SeqOwn {α : Type} (P : Program) (gf : Nat) (lb : Array Value) (enc : α → Value → World → Prop) (xs : List α) (U : Nat → Prop) (KB : World → Nat → Prop) (l : Nat) (W0 : World) : Prop :=
  ∀ (J : List α → World → Prop), (∀ pre W W', J pre W → KS U W W' → J pre W') →
    (∀ pre x v W, J pre W → pre ++ [x] <+: xs → enc x v W → YieldAt Fence.wide 3 P l #[v] W fun e W' => e = .returned (.bool true) ∧ J (pre ++ [x]) W' ∧ KS (KB W) W W') →
    J [] W0 → CallsIn Fence.wide 3 P gf (#[.func (.yield l) #[] #[]] ++ lb) W0 fun e W' => (∃ v, e = .returned v) ∧ J xs W'
theorem round_any {P : Program} {l : Nat} {f : FuncId} {tmps : Array Value} {assign body : Code} {w : World} {R : Ending → World → Prop} {n m : Nat} (h : RoundIn Fence.wide n P l f tmps assign body w R) : RoundIn Fence.wide m P l f tmps assign body w R := ⟨h.1, fun c cs _ => h.2 c cs (room_wide _)⟩
def BodyPost {α : Type} (I : List α → World → Prop) (S : Nat → Prop) (xs : List α) (W : World) : Exit → Act → World → Prop
  | .normal, _, W' => I xs W' ∧ KS S W W'
  | _, _, _ => False
theorem range_law {α : Type} {P : Program} {g : Operand} {p : Tmp} {assign body : Code} {Q : Exit → Act → World → Prop} {a : Act} {w : World} {gf : Nat} {lb : Array Value}
    (hg : a.eval g = .func (.func gf) #[] lb) (eg : ∀ args w, (callFunc gf args).run P w = .ok (.enter gf args) w)
    {enc : α → Value → World → Prop} {xs : List α} {U : Nat → Prop} {Qk : Nat → Prop} {bad : TypeId}
    (hU : ∀ k, U k → w.heap.size + 2 ≤ k)
    (hseq : ∀ W0, Below w.heap.size w W0 → W0.heap.size = w.heap.size + 2 → SeqOwn P gf lb enc xs U (fun W k => BS w.heap.size Qk bad W k ∨ k = w.heap.size + 1) (w.heap.size + 1) W0)
    (henc : ∀ x v W W', enc x v W → KS (fun k => k = w.heap.size + 1) W W' → enc x v W')
    (I : List α → World → Prop) (hI : ∀ pre W W', I pre W → KS (fun k => U k ∨ k = w.heap.size ∨ k = w.heap.size + 1) W W' → I pre W') (h0 : I [] w) (a1 : Value → Act)
    (hassign : ∀ (l : Nat) (v : Value) (W : World) (K : Act → World → Prop), K (a1 v) W →
      assign.wpIn (Fence.wide.inRound l) 3 P (Exit.then K (fun _ _ _ => False)) { tmps := (#[p].zip #[v]).foldl (fun t (p, v) => t.setIfInBounds p v) a.tmps, defers := [] } W)
    (hbody : ∀ (l : Nat) (pre : List α) (x : α) (v : Value) (W : World), I pre W → pre ++ [x] <+: xs → enc x v W → w.heap.size + 2 ≤ W.heap.size →
      body.wpIn (Fence.wide.inRound l) 3 P (BodyPost I (BS w.heap.size Qk bad W) (pre ++ [x]) W) (a1 v) W)
    (hdone : ∀ (W : World), I xs W → W.heap[w.heap.size]? = some (.deferred (some [])) → Q .normal { a with defers := { target := .collected w.heap.size, args := #[] } :: a.defers } W) :
    (Code.rangeFunc g #[p] assign body).wpIn Fence.wide 3 P Q a w := by
  refine wpIn_rangeFunc ?_
  intro fn hfn
  obtain ⟨rec, hrec⟩ : ∃ rec : LoopState → Option Code → Loop, rec = fun st pe => { state := st, pending := pe, fn, tmps := a.tmps, params := #[p], assign, body, defers := w.heap.size } := ⟨_, rfl⟩
  obtain ⟨W1, hW1⟩ : ∃ W1, (w.alloc (.deferred (some []))).alloc (.loop (rec .ready none)) = W1 := ⟨_, rfl⟩
  have hL1 : W1.heap[w.heap.size + 1]? = some (.loop (rec .ready none)) := by
    rw [← hW1]; have := World.alloc_heap_new (w.alloc (.deferred (some []))) (.loop (rec .ready none)); rwa [World.size_alloc] at this
  have hK1 : W1.heap[w.heap.size]? = some (.deferred (some [])) := by
    rw [← hW1]; exact (Below.heap_alloc _ _ _ (by simp)).trans (World.alloc_heap_new w _)
  have hb1 : Below w.heap.size w W1 := by rw [← hW1]; exact ba (ba (b0 w) _) _
  have hs1 : W1.heap.size = w.heap.size + 2 := by rw [← hW1]; simp
  refine ⟨w.heap.size + 1, [{ target := .collected w.heap.size, args := #[] }], W1, { target := .fn (.func gf) lb, args := #[.func (.yield (w.heap.size + 1)) #[] #[]] }, W1, gf,
    #[.func (.yield (w.heap.size + 1)) #[] #[]] ++ lb, W1, ?_, ?_, ?_, ?_, (fun h => absurd h (by simp [Fence.wide])), ?_⟩
  · rw [← hW1, hrec]; exact run_enterLoop_outer _ _ _ _ _
  · simp only [resolve, hg]
    simp [go_sem]
  · intro f' _; trivial
  · simp [invoke, go_sem, eg]
  · refine callsIn_wide.2 (callsIn_wide.1 (((hseq W1 hb1 hs1)
      (fun pre W => I pre W ∧ W.heap[w.heap.size + 1]? = some (.loop (rec .ready none)) ∧ W.heap[w.heap.size]? = some (.deferred (some [])))
      ?_ ?_ ⟨hI _ _ _ h0 (KS.of_below hb1 _), hL1, hK1⟩).mono ?_))
    · rintro pre W W' ⟨hi, hl, hk⟩ hks
      exact ⟨hI _ _ _ hi (hks.mono fun _ _ h => .inl h), hks.blk hl (fun h => by have := hU _ h; omega), hks.blk hk (fun h => by have := hU _ h; omega)⟩
    · rintro pre x v W ⟨hi, hl, hk⟩ hpre hx
      have hlt : w.heap.size + 1 < W.heap.size := blk_lt hl
      have hy := run_yield (P := P) (args := #[v]) hl (by rw [hrec]; rfl)
      rw [hrec] at hy
      have hk2 : KS (fun k => k = w.heap.size + 1) W (W.putObj (w.heap.size + 1) (.loop { rec .ready none with state := .busy })) := (KS.refl (fun k => k = w.heap.size + 1) W).putObj (fun _ => rfl) _
      refine ⟨fn, _, assign, body, hy, roundIn_of_wpIn trivial (hassign _ v W _ ⟨_, run_beginRound hl (by rw [hrec]), ?_⟩)⟩
      have hl2 : (W.putObj (w.heap.size + 1) (.loop { rec .ready none with state := .busy })).heap[w.heap.size + 1]? = some (.loop { rec .ready none with state := .busy }) := World.putObj_heap_same hlt
      have hD2 : (W.putObj (w.heap.size + 1) (.loop { rec .ready none with state := .busy })).heap[w.heap.size]? = some (.deferred (some [])) := (World.putObj_heap_other (by omega)).trans hk
      refine wpIn_mono (hbody _ pre x v _ (hI _ _ _ hi (hk2.mono fun _ _ h => .inr (.inr h))) hpre (henc _ _ _ _ hx hk2) (by simp; omega)) ?_
      rintro e a3 W3 hp
      cases e with
      | normal =>
        obtain ⟨hi3, hk3⟩ := hp
        have hne : ∀ k, (k = w.heap.size + 1 ∨ k = w.heap.size) → ¬ BS w.heap.size Qk bad (W.putObj (w.heap.size + 1) (.loop { rec .ready none with state := .busy })) k := by
          rintro k hk' (⟨h1, _⟩ | ⟨_, cs, fr, h1⟩)
          · omega
          · rcases hk' with rfl | rfl
            · rw [hl2] at h1; cases h1
            · rw [hD2] at h1; cases h1
        have hl3 := hk3.blk hl2 (hne _ (.inl rfl))
        have hD3 := hk3.blk hD2 (hne _ (.inr rfl))
        have hr := run_endRound (P := P) none hl3
        refine ⟨_, _, hr, rfl, ⟨hI _ _ _ hi3 ((KS.refl (fun k => U k ∨ k = w.heap.size ∨ k = w.heap.size + 1) W3).putObj (fun _ => .inr (.inr rfl)) _), ?_, (World.putObj_heap_other (by omega)).trans hD3⟩, ?_⟩
        · rw [World.putObj_heap_same (blk_lt hl3)]; simp [hrec]
        · refine ((hk2.mono (fun _ _ h => .inr h)).then_ (hk3.mono (S' := fun k => BS w.heap.size Qk bad W k ∨ k = w.heap.size + 1) ?_) (fun _ _ h => h)).putObj (fun _ => .inr rfl) _
          rintro k _ (h1 | ⟨h0, cs, fr, h1⟩)
          · exact .inl (.inl h1)
          · by_cases e : k = w.heap.size + 1
            · exact .inr e
            · exact .inl (.inr ⟨h0, cs, fr, by rw [← h1]; exact (World.putObj_heap_other e).symm⟩)
      | ret => exact hp.elim
      | exit id => exact hp.elim
      | goto t => exact hp.elim
      | panic ch => exact hp.elim
      | outgrown => exact hp.elim
    · rintro e W2 ⟨⟨v, rfl⟩, hi, hl, hk⟩
      exact ⟨none, _, by have := run_endLoop (P := P) hl (by rw [hrec]; simp); rw [hrec] at this; exact this, hdone _ (hI _ _ _ hi ((KS.refl (fun k => U k ∨ k = w.heap.size ∨ k = w.heap.size + 1) W2).putObj (fun _ => .inr (.inr rfl)) _)) ((World.putObj_heap_other (by omega)).trans hk)⟩
end Go.Proofs.Ytehfhbdhdbpfpaa.Own
end
