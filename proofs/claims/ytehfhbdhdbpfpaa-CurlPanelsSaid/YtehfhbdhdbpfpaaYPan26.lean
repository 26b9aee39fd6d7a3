/- Parts of a proof: SL N1. No condition. -/
import Derived.Test.YtehfhbdhdbpfpaaYPan25
import Derived.Shelf.SlSortCmp.SmallK
import Derived.Shelf.Small.Bits
import Derived.Shelf.Spec.SlicesGrow
import Derived.KernelRfl
import Derived.Test.YtehfhbdhdbpfpaaProg
namespace Go.Proofs.Ytehfhbdhdbpfpaa.Print
end Go.Proofs.Ytehfhbdhdbpfpaa.Print
namespace Go.Proofs.Ytehfhbdhdbpfpaa.Spec
end Go.Proofs.Ytehfhbdhdbpfpaa.Spec
namespace Go.Proofs.YtehfhbdhdbpfpaaW.PrintLast
end Go.Proofs.YtehfhbdhdbpfpaaW.PrintLast
namespace Go.Proofs.YtehfhbdhdbpfpaaW.PrintMore
end Go.Proofs.YtehfhbdhdbpfpaaW.PrintMore
namespace Go.Proofs.YtehfhbdhdbpfpaaW.PrintWords
end Go.Proofs.YtehfhbdhdbpfpaaW.PrintWords
set_option linter.unusedVariables false
set_option linter.unusedSimpArgs false
section
namespace Go.Proofs.Ytehfhbdhdbpfpaa.Own
open Go.Shelf
def laySort_ren : Go.Shelf.Ren := ⟨fun x => match x with | 6 => 49 | 15 => 70 | 14 => 69 | 28 => 86 | 29 => 87 | 20 => 78 | 21 => 79 | 22 => 80 | 23 => 81 | 24 => 82 | 25 => 83 | 26 => 84 | 27 => 85 | 46 => 91 | 47 => 92 | 48 => 93 | 49 => 94 | 50 => 95 | 57 => 105 | n => n, fun x => match x with | 22 => 43 | 24 => 54 | 25 => 80 | 3 => 3 | 39 => 112 | 0 => 0 | 53 => 130 | 55 => 132 | 4 => 4 | 46 => 123 | 45 => 122 | 50 => 127 | 5 => 5 | 9 => 9 | 66 => 136 | 70 => 140 | 76 => 148 | 77 => 149 | n => n, fun x => x⟩
set_option maxRecDepth 100000 in
theorem laySort : SlLaysF0.n6 Try.prog laySort_ren where
  mixed := by kernel_rfl
  f6 := ⟨"slices.SortFunc[[]crossband/api.CurlChange,crossband/api.CurlChange]", by decide, Try.func49.trans (congrArg some (by kernel_rfl))⟩
  f14 := ⟨"slices.pdqsortCmpFunc[crossband/api.CurlChange]", by decide, Try.func69.trans (congrArg some (by kernel_rfl))⟩
  f15 := Try.func70.trans (congrArg some (by kernel_rfl))
  f20 := ⟨"slices.insertionSortCmpFunc[crossband/api.CurlChange]", by decide, Try.func78.trans (congrArg some (by kernel_rfl))⟩
  f21 := ⟨"slices.heapSortCmpFunc[crossband/api.CurlChange]", by decide, Try.func79.trans (congrArg some (by kernel_rfl))⟩
  f22 := ⟨"slices.breakPatternsCmpFunc[crossband/api.CurlChange]", by decide, Try.func80.trans (congrArg some (by kernel_rfl))⟩
  f23 := ⟨"slices.choosePivotCmpFunc[crossband/api.CurlChange]", by decide, Try.func81.trans (congrArg some (by kernel_rfl))⟩
  f24 := ⟨"slices.reverseRangeCmpFunc[crossband/api.CurlChange]", by decide, Try.func82.trans (congrArg some (by kernel_rfl))⟩
  f25 := ⟨"slices.partialInsertionSortCmpFunc[crossband/api.CurlChange]", by decide, Try.func83.trans (congrArg some (by kernel_rfl))⟩
  f26 := ⟨"slices.partitionEqualCmpFunc[crossband/api.CurlChange]", by decide, Try.func84.trans (congrArg some (by kernel_rfl))⟩
  f27 := ⟨"slices.partitionCmpFunc[crossband/api.CurlChange]", by decide, Try.func85.trans (congrArg some (by kernel_rfl))⟩
  f28 := Try.func86.trans (congrArg some (by kernel_rfl))
  f29 := Try.func87.trans (congrArg some (by kernel_rfl))
  f46 := ⟨"slices.siftDownCmpFunc[crossband/api.CurlChange]", by decide, Try.func91.trans (congrArg some (by kernel_rfl))⟩
  f47 := Try.func92.trans (congrArg some (by kernel_rfl))
  f48 := Try.func93.trans (congrArg some (by kernel_rfl))
  f49 := ⟨"slices.medianAdjacentCmpFunc[crossband/api.CurlChange]", by decide, Try.func94.trans (congrArg some (by kernel_rfl))⟩
  f50 := ⟨"slices.medianCmpFunc[crossband/api.CurlChange]", by decide, Try.func95.trans (congrArg some (by kernel_rfl))⟩
  f57 := ⟨"slices.order2CmpFunc[crossband/api.CurlChange]", by decide, Try.func105.trans (congrArg some (by kernel_rfl))⟩
  t0 := Try.underlying0
  a0 := Try.isAgg0
  z0 := Try.sizeOf0
  v0 := Try.zeroValue0
  t3 := Try.underlying3
  a3 := Try.isAgg3
  z3 := Try.sizeOf3
  v3 := Try.zeroValue3
  t4 := Try.underlying4
  a4 := Try.isAgg4
  z4 := Try.sizeOf4
  v4 := Try.zeroValue4
  t5 := Try.underlying5
  a5 := Try.isAgg5
  z5 := Try.sizeOf5
  v5 := Try.zeroValue5
  t9 := Try.underlying9
  a9 := Try.isAgg9
  z9 := Try.sizeOf9
  v9 := Try.zeroValue9
  t22 := Try.underlying43
  a22 := Try.isAgg43
  z22 := Try.sizeOf43
  v22 := Try.zeroValue43
  t25 := Try.underlying80
  a25 := Try.isAgg80
  z25 := Try.sizeOf80
  v25 := Try.zeroValue80
  t39 := Try.underlying112
  a39 := Try.isAgg112
  z39 := Try.sizeOf112
  v39 := Try.zeroValue112
  t45 := Try.underlying122
  a45 := Try.isAgg122
  z45 := Try.sizeOf122
  v45 := Try.zeroValue122
  t46 := Try.underlying123
  a46 := Try.isAgg123
  z46 := Try.sizeOf123
  v46 := Try.zeroValue123
  t50 := Try.underlying127
  a50 := Try.isAgg127
  z50 := Try.sizeOf127
  v50 := Try.zeroValue127
  t53 := Try.underlying130
  a53 := Try.isAgg130
  z53 := Try.sizeOf130
  v53 := Try.zeroValue130
  t55 := Try.underlying132
  a55 := Try.isAgg132
  z55 := Try.sizeOf132
  v55 := Try.zeroValue132
  t66 := Try.underlying136
  a66 := Try.isAgg136
  z66 := Try.sizeOf136
  v66 := Try.zeroValue136
  t70 := Try.underlying140
  a70 := Try.isAgg140
  z70 := Try.sizeOf140
  v70 := Try.zeroValue140
  t76 := Try.underlying148
  a76 := Try.isAgg148
  z76 := Try.sizeOf148
  v76 := Try.zeroValue148
  t77 := Try.underlying149
  a77 := Try.isAgg149
  z77 := Try.sizeOf149
  v77 := Try.zeroValue149
def layLen_ren : Go.Shelf.Ren := ⟨fun x => match x with | 125 => 70 | 128 => 86 | 129 => 87 | n => n, fun x => match x with | 46 => 112 | 3 => 3 | 51 => 130 | 53 => 132 | 4 => 4 | 5 => 5 | 9 => 9 | n => n, fun x => x⟩
set_option maxRecDepth 100000 in
theorem layLen : Lays.n125 Try.prog layLen_ren where
  mixed := by kernel_rfl
  f125 := Try.func70.trans (congrArg some (by kernel_rfl))
  f128 := Try.func86.trans (congrArg some (by kernel_rfl))
  f129 := Try.func87.trans (congrArg some (by kernel_rfl))
  t3 := Try.underlying3
  a3 := Try.isAgg3
  z3 := Try.sizeOf3
  v3 := Try.zeroValue3
  t4 := Try.underlying4
  a4 := Try.isAgg4
  z4 := Try.sizeOf4
  v4 := Try.zeroValue4
  t5 := Try.underlying5
  a5 := Try.isAgg5
  z5 := Try.sizeOf5
  v5 := Try.zeroValue5
  t9 := Try.underlying9
  a9 := Try.isAgg9
  z9 := Try.sizeOf9
  v9 := Try.zeroValue9
  t46 := Try.underlying112
  a46 := Try.isAgg112
  z46 := Try.sizeOf112
  v46 := Try.zeroValue112
  t51 := Try.underlying130
  a51 := Try.isAgg130
  z51 := Try.sizeOf130
  v51 := Try.zeroValue130
  t53 := Try.underlying132
  a53 := Try.isAgg132
  z53 := Try.sizeOf132
  v53 := Try.zeroValue132
def layGrow_ren : Go.Shelf.Ren := ⟨fun x => match x with | 4 => 67 | n => n, fun x => match x with | 22 => 43 | 25 => 54 | n => n, fun x => x⟩
set_option maxRecDepth 100000 in
theorem layGrow : Lays8.n4 Try.prog layGrow_ren where
  mixed := by kernel_rfl
  f4 := ⟨"slices.Grow[[]crossband/api.CurlChange,crossband/api.CurlChange]", by decide, Try.func67.trans (congrArg some (by kernel_rfl))⟩
  t0 := Try.underlying0
  a0 := Try.isAgg0
  z0 := Try.sizeOf0
  v0 := Try.zeroValue0
  t3 := Try.underlying3
  a3 := Try.isAgg3
  z3 := Try.sizeOf3
  v3 := Try.zeroValue3
  t4 := Try.underlying4
  a4 := Try.isAgg4
  z4 := Try.sizeOf4
  v4 := Try.zeroValue4
  t9 := Try.underlying9
  a9 := Try.isAgg9
  z9 := Try.sizeOf9
  v9 := Try.zeroValue9
  t20 := Try.underlying20
  a20 := Try.isAgg20
  z20 := Try.sizeOf20
  v20 := Try.zeroValue20
  t22 := Try.underlying43
  a22 := Try.isAgg43
  z22 := Try.sizeOf43
  v22 := Try.zeroValue43
end Go.Proofs.Ytehfhbdhdbpfpaa.Own
end
section
namespace Go.Proofs.Ytehfhbdhdbpfpaa.Own
open Go.RowKit Go.Shelf Go.Proofs.YtehfhbdhdbpfpaaW.PrintWords Go.Proofs.YtehfhbdhdbpfpaaW.PrintLast Go.Proofs.YtehfhbdhdbpfpaaW.PrintMore Go.Proofs.Ytehfhbdhdbpfpaa.Print Go.Proofs.Ytehfhbdhdbpfpaa.Spec
set_option linter.unusedVariables false
set_option linter.unusedSimpArgs false
abbrev ChOwn (W : World) (base : Nat) (v : Value) (l : List Ch) : Prop := Kd.R k54 54 W base (fun _ => True) v l
theorem zeros_size (z : Array Value) (n : Nat) : (Builtin.zeroCells z n).size = n * z.size := by
  unfold Builtin.zeroCells
  induction n with
  | zero => simp
  | succ n ih => simp [Array.replicate_succ, Array.flatten_push, ih, Nat.succ_mul]
theorem grow_calls (n : Nat) (w : World) (hn : n ≤ 1000) :
    Calls Try.prog 67 #[.slice none 0 0, .int .i64 n] w fun e w' => ∃ v, e = .returned v ∧ ChOwn w' w.heap.size v [] ∧ Below w.heap.size w w' := by
  by_cases h0 : n = 0
  · subst h0
    refine (Any8.slices_Grow_room layGrow none 0 0 0 w (by omega) (by omega) (by omega) (by omega)).mono ?_
    rintro e w' ⟨rfl, rfl⟩
    exact ⟨_, rfl, Kd.R_nil _ _ _ _ _, Below.refl _ _⟩
  · obtain ⟨i0, hi, hz0, hz1, hz2⟩ := info_parts info54
    refine (Any8.slices_Grow_grow layGrow i0 _ hi hz0 (by omega) none 0 0 n [] w (by omega) (by omega) (by rw [hz2]; omega) (by omega) (by simp) (fun _ => rfl) (by intro a h; cases h)).mono ?_
    rintro e w' ⟨rfl, rfl⟩
    have hG1 := grownCap_ge w (0 + n) 0 (layGrow_ren.t 25)
    have hG2 := grownCap_le_maxLen w (0 + n) 0 (layGrow_ren.t 25) (by unfold maxLen; omega)
    obtain ⟨G, hG⟩ : ∃ G, grownCap w (0 + n) 0 (layGrow_ren.t 25) = G := ⟨_, rfl⟩
    rw [hG] at hG1 hG2 ⊢
    refine ⟨_, rfl, ⟨fun _ _ => trivial, [], ⟨by simp, .inr ⟨w.heap.size, G, _, rfl, Nat.le_refl _, World.alloc_heap_new w.drew _, Nat.zero_le _, hG2, ?_, by simp⟩⟩, Reps.none _ _⟩, ba (b0 w).drew _⟩
    have hz : (Value.cells (.agg #[(.int .i64 0), (.int .i64 0), (.int .i64 0)])).size = 3 := by decide
    have hs3 : k54.sz = 3 := rfl
    rw [hs3]
    simp only [Array.size_append, zeros_size, hz]
    simp
    omega
set_option maxRecDepth 100000 in
set_option maxHeartbeats 1600000 in
theorem concat_calls (g cp : Nat) (A1 A2 : Option Addr) (c1 c2 : Nat) (l1 l2 : List Ch) (w : World) (h0 : w.cell? ⟨g, 0, none⟩ = some (.slice A1 l1.length c1)) (h1 : w.cell? ⟨g, 1, none⟩ = some (.slice A2 l2.length c2))
    (hr1 : Kd.C k54 w A1 l1.length l1) (hr2 : Kd.C k54 w A2 l2.length l2) (hl1 : l1.length ≤ 7) (hl2 : l2.length ≤ 7) :
    Calls Try.prog 47 #[.slice (some ⟨g, 0, none⟩) 2 2] w fun e w' => ∃ v, e = .returned v ∧ ChOwn w' w.heap.size v (l1 ++ l2) ∧ Below w.heap.size w w' := by
  have HR1 := Lib.hid hr1
  have HR2 := Lib.hid hr2
  have HC0 := Lib.hid h0
  have HC1 := Lib.hid h1
  clear hr1 hr2
  go_enter Try.func47, Try.ntmps47
  go_wp2
  go_loop [3, 11] (fun s i => (i = .int .i64 0 ∧ s = .int .i64 0) ∨ (i = .int .i64 1 ∧ s = .int .i64 (l1.length : Int)) ∨ (i = .int .i64 2 ∧ s = .int .i64 ((l1.length + l2.length : Nat) : Int))) (fun _ i => 2 - (intOf i).toNat)
  case atStart => exact .inl ⟨rfl, rfl⟩
  case round =>
    rcases hrel with ⟨rfl, rfl⟩ | ⟨rfl, rfl⟩ | ⟨rfl, rfl⟩
    · go_wp2
      go_round
      case rel => exact .inr (.inl ⟨rfl, rfl⟩)
      case measure => simp [intOf]
    · have hneg : ¬ ((l1.length : Int) + (l2.length : Int) < 0) := by omega
      go_wp2
      go_round
      case rel => exact .inr (.inr ⟨rfl, by simp⟩)
      case measure => simp [intOf]
    · go_wp2_with fail
      refine (grow_calls (l1.length + l2.length) w (by omega)).mono ?_
      rintro e w1 ⟨v, rfl, hv, hb⟩
      have HV := Lib.hid hv
      have HB := Lib.hid hb
      clear hv hb h0 h1
      go_wp2_with fail
      go_loopw [6, 27] (fun u i wr => Hid (Below w.heap.size w wr) ∧ ((i = .int .i64 0 ∧ Hid (ChOwn wr w.heap.size u [])) ∨ (i = .int .i64 1 ∧ Hid (ChOwn wr w.heap.size u l1)) ∨ (i = .int .i64 2 ∧ Hid (ChOwn wr w.heap.size u (l1 ++ l2))))) (fun _ i _ => 2 - (intOf i).toNat)
      case atStart => exact ⟨HB, .inl ⟨rfl, HV⟩⟩
      case round =>
        obtain ⟨HW, hrel⟩ := hrel
        have hws : w.heap.size ≤ wr.heap.size := HW.out.size
        clear HV HB
        rcases hrel with ⟨rfl, HU⟩ | ⟨rfl, HU⟩ | ⟨rfl, HU⟩
        · have hc0 : wr.cell? ⟨g, 0, none⟩ = some (.slice A1 l1.length c1) := (HW.out.cell (World.block_lt_of_cell? w _ HC0.out)).trans HC0.out
          have HRD := Lib.hid (Kd.C_below HR1.out HW.out)
          go_wp2_with ((with_reducible refine gate_builtin (b := .append) (xs := #[.tmp 31, .tmp 32]) rfl ?_); at_builtin; refine Kd.R_append_rows k54 (w0 := wr) w.heap.size rfl (.tmp 31) (.tmp 32) 43 54 (.agg #[(.int .i64 0), (.int .i64 0), (.int .i64 0)]) 24 rfl Try.underlying43 info54 rfl (by decide) (by omega) u6 [] l1 A1 l1.length c1 (fun _ => True) (fun _ => False) (by rfl) (by rfl) HU.out HRD.out (fun x cs h => by rw [k54_open h]; exact k54_mkM _ _ _ x) (fun _ h => h.elim) (fun _ _ => trivial) (Below.refl _ wr) hws (by simp; omega) ?_; intro v1 w4 ho hb hg hat; have HR4 := Lib.hid ho; have HB4 := Lib.hid hb; clear ho hb hg hat)
          go_roundw
          case rel => exact ⟨Lib.hid (HW.out.trans HB4.out), .inr (.inl ⟨rfl, by simpa using HR4⟩)⟩
          case measure => simp [intOf]
        · have hc0 : wr.cell? ⟨g, 1, none⟩ = some (.slice A2 l2.length c2) := (HW.out.cell (World.block_lt_of_cell? w _ HC1.out)).trans HC1.out
          have HRD := Lib.hid (Kd.C_below HR2.out HW.out)
          go_wp2_with ((with_reducible refine gate_builtin (b := .append) (xs := #[.tmp 31, .tmp 32]) rfl ?_); at_builtin; refine Kd.R_append_rows k54 (w0 := wr) w.heap.size rfl (.tmp 31) (.tmp 32) 43 54 (.agg #[(.int .i64 0), (.int .i64 0), (.int .i64 0)]) 24 rfl Try.underlying43 info54 rfl (by decide) (by omega) u6 l1 l2 A2 l2.length c2 (fun _ => True) (fun _ => False) (by rfl) (by rfl) HU.out HRD.out (fun x cs h => by rw [k54_open h]; exact k54_mkM _ _ _ x) (fun _ h => h.elim) (fun _ _ => trivial) (Below.refl _ wr) hws (by omega) ?_; intro v1 w4 ho hb hg hat; have HR4 := Lib.hid ho; have HB4 := Lib.hid hb; clear ho hb hg hat)
          go_roundw
          case rel => exact ⟨Lib.hid (HW.out.trans HB4.out), .inr (.inr ⟨rfl, HR4⟩)⟩
          case measure => simp [intOf]
        · go_wp2
          go_ret
          exact ⟨_, rfl, HU.out, HW.out⟩
end Go.Proofs.Ytehfhbdhdbpfpaa.Own
end
