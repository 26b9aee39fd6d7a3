/- Parts of a proof: M6. No condition. -/
import Derived.Test.YtehfhbdhdbpfpaaYPan23
namespace Go.Proofs.Ytehfhbdhdbpfpaa.Print
end Go.Proofs.Ytehfhbdhdbpfpaa.Print
namespace Go.Proofs.Ytehfhbdhdbpfpaa.Spec
end Go.Proofs.Ytehfhbdhdbpfpaa.Spec
namespace Go.Proofs.YtehfhbdhdbpfpaaW.PrintLast
end Go.Proofs.YtehfhbdhdbpfpaaW.PrintLast
namespace Go.Proofs.YtehfhbdhdbpfpaaW.PrintMore
end Go.Proofs.YtehfhbdhdbpfpaaW.PrintMore
namespace Go.Proofs.YtehfhbdhdbpfpaaW.PrintWords
end Go.Proofs.YtehfhbdhdbpfpaaW.PrintWords
set_option linter.unusedVariables false
set_option linter.unusedSimpArgs false
namespace Go.Proofs.Ytehfhbdhdbpfpaa.Own
open Go.RowKit Go.Shelf Go.Proofs.YtehfhbdhdbpfpaaW.PrintWords Go.Proofs.YtehfhbdhdbpfpaaW.PrintLast Go.Proofs.YtehfhbdhdbpfpaaW.PrintMore Go.Proofs.Ytehfhbdhdbpfpaa.Print Go.Proofs.Ytehfhbdhdbpfpaa.Spec
set_option linter.unusedVariables false
set_option linter.unusedSimpArgs false
def PressM (w : World) (pb mb : Nat) (A : Option Addr) (c : Nat) (l : List Sh) (lo hi : Int) (Bd : Nat → Prop) : Prop :=
  PressIn w pb A c l lo hi ∧ w.cell? ⟨pb, 3, none⟩ = some (.map (some mb)) ∧ CacheOk w mb (sheetAt l lo hi) Bd
variable {Bd : Nat → Prop}
theorem cell_ks {w w' : World} {mb : Nat} {es : Array MapEntry} {clock : Nat} (hm : w.heap[mb]? = some (.map es clock)) (hk : KS (fun k => k = mb) w w') {p : Addr} {v : Value} (hc : w.cell? p = some v) : w'.cell? p = some v := by
  have hne : p.block ≠ mb := by
    intro e
    unfold World.cell? at hc
    rw [e, hm] at hc
    simp at hc
  exact hk.cell hc hne
theorem reads_ks {α : Type} {R R' : α → List Value → Prop} {size : Nat} {w w' : World} {mb : Nat} {es : Array MapEntry} {clock : Nat} (hm : w.heap[mb]? = some (.map es clock)) (hk : KS (fun k => k = mb) w w') {A : Option Addr} {n : Nat} {ps : List α}
    (h : ReadsRow R size w A n ps) (hR : ∀ p c, R p c → R' p c) : ReadsRow R' size w' A n ps :=
  ⟨h.1, h.2.1, fun hn => by
    obtain ⟨ad, e, hc⟩ := h.2.2 hn
    refine ⟨ad, e, fun j p hj => ?_⟩
    obtain ⟨c, hs, hr, hcell⟩ := hc j p hj
    exact ⟨c, hs, hR _ _ hr, fun i u hu => cell_ks hm hk (hcell i u hu)⟩⟩
theorem C_ks_sh {w w' : World} {mb : Nat} {es : Array MapEntry} {clock : Nat} (hm : w.heap[mb]? = some (.map es clock)) (hk : KS (fun k => k = mb) w w') {A : Option Addr} {n : Nat} {l : List Sh} (h : Kd.C k52 w A n l) : Kd.C k52 w' A n l :=
  reads_ks hm hk h (fun p c hc => by rw [k52_open hc]; exact k52_mk w' p)
theorem C_ks_int {w w' : World} {mb : Nat} {es : Array MapEntry} {clock : Nat} (hm : w.heap[mb]? = some (.map es clock)) (hk : KS (fun k => k = mb) w w') {A : Option Addr} {n : Nat} {l : List Int} (h : Kd.C (Kd.int .i64) w A n l) : Kd.C (Kd.int .i64) w' A n l :=
  reads_ks hm hk h (fun p c hc => hc)
theorem PressIn.ks {w w' : World} {mb : Nat} {es : Array MapEntry} {clock : Nat} (hm : w.heap[mb]? = some (.map es clock)) (hk : KS (fun k => k = mb) w w') {pb : Nat} {A : Option Addr} {c : Nat} {l : List Sh} {lo hi : Int} (h : PressIn w pb A c l lo hi) : PressIn w' pb A c l lo hi :=
  ⟨cell_ks hm hk h.1, cell_ks hm hk h.2.1, cell_ks hm hk h.2.2.1, C_ks_sh hm hk h.2.2.2⟩
theorem CacheOk.block {w : World} {mb : Nat} {H : Int → Int × Int → Option Sh} (h : CacheOk w mb H Bd) : ∃ es clock, w.heap[mb]? = some (.map es clock) := by
  obtain ⟨G, ⟨es, clock, hb, _⟩, _⟩ := h
  exact ⟨es, clock, hb⟩
theorem PressM.below {w w' : World} {pb mb : Nat} {A : Option Addr} {c : Nat} {l : List Sh} {lo hi : Int} (h : PressM w pb mb A c l lo hi Bd) (hb : Below w.heap.size w w') : PressM w' pb mb A c l lo hi Bd :=
  ⟨h.1.below hb, (hb.cell (World.block_lt_of_cell? w _ h.2.1)).trans h.2.1, h.2.2.below hb⟩
theorem PressM.ks {w w' : World} {pb mb : Nat} {A : Option Addr} {c : Nat} {l : List Sh} {lo hi : Int} (h : PressM w pb mb A c l lo hi Bd) (hk : KS (fun k => k = mb) w w') (hc : CacheOk w' mb (sheetAt l lo hi) Bd) : PressM w' pb mb A c l lo hi Bd := by
  obtain ⟨es, clock, hm⟩ := h.2.2.block
  exact ⟨h.1.ks hm hk, cell_ks hm hk h.2.1, hc⟩
theorem R_one_ch (W : World) (base : Nat) (hb : base ≤ W.heap.size) (x : Ch) :
    Kd.R k54 54 (W.alloc (.cells #[.int .i64 x.f0, .int .i64 x.f1.f0, .int .i64 x.f1.f1] 54)) base (fun _ => True) (.slice (some ⟨W.heap.size, 0, none⟩) 1 1) [x] :=
  ⟨fun _ _ => trivial, OwnRow.lit W base (inner := [.int .i64 x.f0, .int .i64 x.f1.f0, .int .i64 x.f1.f1]) (Reps.snoc (Reps.none _ _) (k54_mkM _ _ _ x) rfl) hb (by simp)⟩
def solveAns (l : List Sh) (lo hi : Int) (o : List Int) (ac i : Int) (Bd : Nat → Prop) (w : World) (mb : Nat) (e : Ending) (w' : World) : Prop :=
  ∃ v, e = .returned (.tuple #[v, .bool (solve1 l lo hi o ac i).isSome]) ∧ KS (fun k => k = mb) w w' ∧ CacheOk w' mb (sheetAt l lo hi) Bd ∧
    match solve1 l lo hi o ac i with
    | none => v = .slice none 0 0
    | some s => Kd.R k54 54 w' w.heap.size (fun _ => True) v [⟨rd o i, s⟩]
set_option maxRecDepth 100000 in
set_option maxHeartbeats 4000000 in
theorem solve_some (A : Option Addr) (c : Nat) (l : List Sh) (lo hi : Int) (pb mb : Nat) (A1 : Option Addr) (c1 : Nat) (o : List Int) (ac : Int) (i g cl : Nat) (w : World) (hp : PressM w pb mb A c l lo hi Bd) (hr1 : Kd.C (Kd.int .i64) w A1 o.length o) (hg : Plain.Good l) (hord : isOrd l.length o = true) (hlo : 0 ≤ lo ∧ lo ≤ 50)
    (hio : i < o.length) (hgi : w.cell? ⟨g, 0, none⟩ = some (.int .i64 (i : Int))) (hcl : 1 ≤ cl) (hBd : ∀ k, Bd k → k < w.heap.size) :
    Calls Try.prog 53 #[.pointer (some ⟨pb, 0, none⟩), .slice A1 o.length c1, .int .i64 ac, .slice (some ⟨g, 0, none⟩) 1 cl] w (solveAns l lo hi o ac (i : Int) Bd w mb) := by
  have hgl := World.block_lt_of_cell? w _ hgi
  have HBD := Lib.hid hBd
  clear hBd
  have HP := Lib.hid hp
  have HR1 := Lib.hid hr1
  have HG := Lib.hid hg
  have HO := Lib.hid hord
  have HGI := Lib.hid hgi
  have hn7 := hg.1
  have hol := Plain.ord_length hord
  have hi7 : i < 7 := by omega
  have HOL := Lib.hid hol
  clear hp hr1 hg hord hol
  go_enter Try.func53, Try.ntmps53
  go_wp2_with fail
  refine (sums_calls A c l lo hi pb A1 c1 o ac (some (i : Int)) (some ⟨g, 0, none⟩) cl w HP.out.1 HR1.out (C_one HGI.out) hcl HG.out HO.out).mono ?_
  rintro e w2 ⟨rfl, hb2⟩
  obtain ⟨hsp, hsm⟩ := sums_bd HG.out HO.out ac (some (i : Int))
  obtain ⟨p0, hp0⟩ : ∃ q, sumP l o ac (some (i : Int)) = q := ⟨_, rfl⟩
  obtain ⟨p1, hp1⟩ : ∃ q, sumM l o ac (some (i : Int)) = q := ⟨_, rfl⟩
  have HSV := Lib.hid (show solve1 l lo hi o ac (i : Int) = sheetAt l lo hi (place l.length i) (if lo = hi then (-p0 - p1 * lo, 0) else (-p0, -p1)) by unfold solve1; rw [hp0, hp1])
  rw [hp0] at hsp
  rw [hp1] at hsm
  rw [hp0, hp1]
  clear hp0 hp1
  obtain ⟨w3, hw3⟩ : ∃ w3, w2.alloc (.cells #[.int .i64 p0, .int .i64 p1] 102) = w3 := ⟨_, rfl⟩
  have hb3 : Below w2.heap.size w2 w3 := by rw [← hw3]; exact ba (b0 w2) _
  have HS3 := Lib.hid (show w3.heap[w2.heap.size]? = some (.cells #[.int .i64 p0, .int .i64 p1] 102 (0, 0)) by rw [← hw3]; exact World.alloc_heap_new w2 _)
  have HB3 := Lib.hid (bt hb2 hb3)
  have hc1 := (HP.out.1.below HB3.out).2.1
  have hc2 := (HP.out.1.below HB3.out).2.2.1
  clear hb2 hb3 hgi
  go_wp2_with fail
  go_quiet (fail)
  obtain ⟨w4, hw4⟩ : ∃ w4, w3.drewN nq = w4 := ⟨_, rfl⟩
  have HB4 := Lib.hid (show Below w.heap.size w w4 by rw [← hw4]; exact below_drewN nq HB3.out)
  have HS4 := Lib.hid (show w4.heap[w2.heap.size]? = some (.cells #[.int .i64 p0, .int .i64 p1] 102 (0, 0)) by rw [← hw4]; exact HS3.out)
  have HP4 := Lib.hid (HP.out.below HB4.out)
  have hd0 := HP4.out.1.1
  have hd3 := HP4.out.2.1
  have hgi4 : w4.cell? ⟨g, 0, none⟩ = some (.int .i64 (i : Int)) := (HB4.out.cell (p := ⟨g, 0, none⟩) hgl).trans HGI.out
  rw [hw4]
  clear hc1 hc2 hw3 hw4
  have hpx3 : -3 ≤ place l.length (i : Int) ∧ place l.length (i : Int) ≤ 3 := by have := HOL.out; exact Plain.place_bd hn7 (by omega)
  obtain ⟨G, hcache, hmaps⟩ := HP4.out.2.2
  have HMAPS := Lib.hid hmaps
  have HCA := Lib.hid hcache
  have hlk : ∀ n, (Instr.lookup 82 (.map (some mb)) (.int .i64 (place l.length (i : Int))) true).run Try.prog (w4.drewN n) = .ok (.tuple #[.map (G (place l.length (i : Int))), .bool (G (place l.length (i : Int))).isSome]) (w4.drewN n) := fun n => (HCA.out.keep (W' := w4.drewN n) rfl).lookup _
  clear hmaps hcache
  have hd0' : ∀ n, (w4.drewN n).cell? ⟨pb, 0, none⟩ = some (.slice A l.length c) := fun n => hd0
  cases hG : G (place l.length (i : Int)) with
  | some r =>
    rw [hG] at hlk
    go_wp2_with fail
    go_quiet ((go_at_call 68; refine Calls.quiet_of_same ((place_calls A l.length c pb (i : Int) _ hn7 (by omega) (by omega) (hd0' _)).mono (fun e w' h => ⟨h.1, h.2.symm⟩))))
    obtain ⟨w5, hw5⟩ : ∃ w5, w4.drewN nq = w5 := ⟨_, rfl⟩
    have hb5 : Below w4.heap.size w4 w5 := by rw [← hw5]; exact below_drewN nq (b0 w4)
    have HK5 := Lib.hid (show KS (fun k => k = mb) w w5 from KS.of_below (bt HB4.out hb5) _)
    have HS5 := Lib.hid (blk_below HS4.out hb5)
    have HP5 := Lib.hid (HP4.out.below hb5)
    have HR5 := Lib.hid (show MapIs w5 r (sheetAt l lo hi (place l.length i)) from (HMAPS.out _ _ hG).2.keep (hb5.block _ (HMAPS.out _ _ hG).2.lt))
    rw [hw5]
    clear hb5 hw5 hlk hd0 hd3 hgi4 hd0'
    have hS5 := HS5.out
    have hd1 := HP5.out.1.2.1
    have hk0 : w5.cell? ⟨w2.heap.size, 0, none⟩ = some (.int .i64 p0) := blk_cell hS5 0
    have hk1 : w5.cell? ⟨w2.heap.size, 1, none⟩ = some (.int .i64 p1) := blk_cell hS5 1
    have hm5 := Plain.mul_bd2 (a := p1) (b := lo) hsm.1 hsm.2 hlo.1 hlo.2
    clear hS5
    obtain ⟨w6, hw6⟩ : ∃ w6, w5.alloc (.cells #[.int .i64 (-p0), .int .i64 (-p1)] 102) = w6 := ⟨_, rfl⟩
    have hb6 : Below w5.heap.size w5 w6 := by rw [← hw6]; exact ba (b0 w5) _
    have HS6 := Lib.hid (show w6.heap[w5.heap.size]? = some (.cells #[.int .i64 (-p0), .int .i64 (-p1)] 102 (0, 0)) by rw [← hw6]; exact World.alloc_heap_new w5 _)
    have HB6 := Lib.hid hb6
    have hl0 : w6.cell? ⟨w2.heap.size, 0, none⟩ = some (.int .i64 p0) := (hb6.cell (by show w2.heap.size < _; exact blk_lt HS5.out)).trans hk0
    have hl1 : w6.cell? ⟨w2.heap.size, 1, none⟩ = some (.int .i64 p1) := (hb6.cell (by show w2.heap.size < _; exact blk_lt HS5.out)).trans hk1
    have he1 := (HP5.out.below hb6).1.2.1
    clear hb6
    cases hlh : (lo == hi)
    · have HKEY := Lib.hid (show solve1 l lo hi o ac (i : Int) = sheetAt l lo hi (place l.length i) (-p0, -p1) by rw [HSV.out, if_neg (by simpa using hlh)])
      have hg0 : w6.cell? ⟨w5.heap.size, 0, none⟩ = some (.int .i64 (-p0)) := blk_cell HS6.out 0
      have hg1 : w6.cell? ⟨w5.heap.size, 1, none⟩ = some (.int .i64 (-p1)) := blk_cell HS6.out 1
      have HR6 := Lib.hid (HR5.out.keep (HB6.out.block _ HR5.out.lt))
      have hlk6 := HR6.out.lookup (-p0, -p1)
      simp only [keyV] at hlk6
      cases hF : sheetAt l lo hi (place l.length i) (-p0, -p1) with
      | none =>
        rw [hF] at hlk6
        simp only [shV] at hlk6
        have HF := Lib.hid hF
        clear hF
        go_wp2_with fail
        go_ret2
        exact ⟨_, by rw [HKEY.out, HF.out]; rfl, (HK5.out.after HB6.out).alloc _, (HP5.out.2.2.below HB6.out).below (ba (b0 w6) _), by rw [HKEY.out, HF.out]; rfl⟩
      | some s =>
        rw [hF] at hlk6
        simp only [shV] at hlk6
        have HF := Lib.hid hF
        clear hF
        obtain ⟨w7, hw7⟩ : ∃ w7, w6.alloc (.cells #[.int .i64 s.f0, .int .i64 s.f1] 52) = w7 := ⟨_, rfl⟩
        have hb7 : Below w6.heap.size w6 w7 := by rw [← hw7]; exact ba (b0 w6) _
        have HS7 := Lib.hid (show w7.heap[w6.heap.size]? = some (.cells #[.int .i64 s.f0, .int .i64 s.f1] 52 (0, 0)) by rw [← hw7]; exact World.alloc_heap_new w6 _)
        have HK7 := Lib.hid ((HK5.out.after HB6.out).after hb7)
        have HP7 := Lib.hid ((HP5.out.below HB6.out).below hb7)
        obtain ⟨es0, ck0, hmb0⟩ := HP.out.2.2.block
        obtain ⟨ad1, rfl, hco⟩ := C_cell (C_ks_int hmb0 HK7.out HR1.out) i hio
        have hgi7 : w7.cell? ⟨g, 0, none⟩ = some (.int .i64 (i : Int)) := cell_ks hmb0 HK7.out HGI.out
        have hs0 : w7.cell? ⟨w6.heap.size, 0, none⟩ = some (.int .i64 s.f0) := blk_cell HS7.out 0
        have hs1 : w7.cell? ⟨w6.heap.size, 1, none⟩ = some (.int .i64 s.f1) := blk_cell HS7.out 1
        clear hb7 hmb0
        go_wp2_with fail
        go_region
        have hro : rd o (i : Int) = o[i] := Plain.rd_get hio
        have HRO := Lib.hid hro
        have hwb : w.heap.size ≤ w7.heap.size := HK7.out.size
        clear hro
        go_wp2_with fail
        go_ret2
        exact ⟨_, by rw [HKEY.out, HF.out]; rfl, (HK7.out.alloc _).drew, HP7.out.2.2.below ((ba (b0 w7) _).drew), by
          rw [HKEY.out, HF.out]
          show Kd.R _ _ _ _ _ _ [(⟨rd o (i : Int), s⟩ : Ch)]
          rw [HRO.out]
          exact Kd.R_drew (R_one_ch w7 w.heap.size hwb ⟨o[i], s⟩)⟩
    · have HKEY := Lib.hid (show solve1 l lo hi o ac (i : Int) = sheetAt l lo hi (place l.length i) (-p0 - p1 * lo, 0) by rw [HSV.out, if_pos (by simpa using hlh)])
      have hq0 : w6.cell? ⟨w5.heap.size, 0, none⟩ = some (.int .i64 (-p0)) := blk_cell HS6.out 0
      have hq1 : w6.cell? ⟨w5.heap.size, 1, none⟩ = some (.int .i64 (-p1)) := blk_cell HS6.out 1
      have hqf0 := blk_frozen HS6.out 0
      have hqf1 := blk_frozen HS6.out 1
      go_wp2_with fail
      go_region
      obtain ⟨w9, hw9⟩ : ∃ w9, ((w6.setCell ⟨w5.heap.size, 0, none⟩ (.int .i64 (-p0 - p1 * lo))).setCell ⟨w5.heap.size, 1, none⟩ (.int .i64 0)).drew = w9 := ⟨_, rfl⟩
      have HS9 := Lib.hid (show w9.heap[w5.heap.size]? = some (.cells #[.int .i64 (-p0 - p1 * lo), .int .i64 0] 102 (0, 0)) by rw [← hw9]; exact blk_put (blk_put HS6.out 0 _ rfl) 1 _ rfl)
      have HB9 := Lib.hid (show Below w5.heap.size w5 w9 by rw [← hw9]; exact ((HB6.out.setCell (p := ⟨w5.heap.size, 0, none⟩) (Nat.le_refl _) _).setCell (p := ⟨w5.heap.size, 1, none⟩) (Nat.le_refl _) _).drew)
      rw [hw9]
      clear hw9 hq0 hq1 hqf0 hqf1 hl0 hl1 he1
      have hg0 : w9.cell? ⟨w5.heap.size, 0, none⟩ = some (.int .i64 (-p0 - p1 * lo)) := blk_cell HS9.out 0
      have hg1 : w9.cell? ⟨w5.heap.size, 1, none⟩ = some (.int .i64 0) := blk_cell HS9.out 1
      have HR6 := Lib.hid (HR5.out.keep (HB9.out.block _ HR5.out.lt))
      have hlk6 := HR6.out.lookup (-p0 - p1 * lo, 0)
      simp only [keyV] at hlk6
      cases hF : sheetAt l lo hi (place l.length i) (-p0 - p1 * lo, 0) with
      | none =>
        rw [hF] at hlk6
        simp only [shV] at hlk6
        have HF := Lib.hid hF
        clear hF
        go_wp2_with fail
        go_ret2
        exact ⟨_, by rw [HKEY.out, HF.out]; rfl, (HK5.out.after HB9.out).alloc _, (HP5.out.2.2.below HB9.out).below (ba (b0 w9) _), by rw [HKEY.out, HF.out]; rfl⟩
      | some s =>
        rw [hF] at hlk6
        simp only [shV] at hlk6
        have HF := Lib.hid hF
        clear hF
        obtain ⟨w7, hw7⟩ : ∃ w7, w9.alloc (.cells #[.int .i64 s.f0, .int .i64 s.f1] 52) = w7 := ⟨_, rfl⟩
        have hb7 : Below w9.heap.size w9 w7 := by rw [← hw7]; exact ba (b0 w9) _
        have HS7 := Lib.hid (show w7.heap[w9.heap.size]? = some (.cells #[.int .i64 s.f0, .int .i64 s.f1] 52 (0, 0)) by rw [← hw7]; exact World.alloc_heap_new w9 _)
        have HK7 := Lib.hid ((HK5.out.after HB9.out).after hb7)
        have HP7 := Lib.hid ((HP5.out.below HB9.out).below hb7)
        obtain ⟨es0, ck0, hmb0⟩ := HP.out.2.2.block
        obtain ⟨ad1, rfl, hco⟩ := C_cell (C_ks_int hmb0 HK7.out HR1.out) i hio
        have hgi7 : w7.cell? ⟨g, 0, none⟩ = some (.int .i64 (i : Int)) := cell_ks hmb0 HK7.out HGI.out
        have hs0 : w7.cell? ⟨w9.heap.size, 0, none⟩ = some (.int .i64 s.f0) := blk_cell HS7.out 0
        have hs1 : w7.cell? ⟨w9.heap.size, 1, none⟩ = some (.int .i64 s.f1) := blk_cell HS7.out 1
        clear hb7 hmb0
        go_wp2_with fail
        go_region
        have hro : rd o (i : Int) = o[i] := Plain.rd_get hio
        have HRO := Lib.hid hro
        have hwb : w.heap.size ≤ w7.heap.size := HK7.out.size
        clear hro
        go_wp2_with fail
        go_ret2
        exact ⟨_, by rw [HKEY.out, HF.out]; rfl, (HK7.out.alloc _).drew, HP7.out.2.2.below ((ba (b0 w7) _).drew), by
          rw [HKEY.out, HF.out]
          show Kd.R _ _ _ _ _ _ [(⟨rd o (i : Int), s⟩ : Ch)]
          rw [HRO.out]
          exact Kd.R_drew (R_one_ch w7 w.heap.size hwb ⟨o[i], s⟩)⟩
  | none =>
    rw [hG] at hlk
    go_wp2_with fail
    go_quiet ((go_at_call 68; refine Calls.quiet_of_same ((place_calls A l.length c pb (i : Int) _ hn7 (by omega) (by omega) (hd0' _)).mono (fun e w' h => ⟨h.1, h.2.symm⟩))))
    obtain ⟨w0, hw0⟩ : ∃ w0, w4.drewN nq = w0 := ⟨_, rfl⟩
    have hb0 : Below w4.heap.size w4 w0 := by rw [← hw0]; exact below_drewN nq (b0 w4)
    have HB0 := Lib.hid (bt HB4.out hb0)
    have HS0 := Lib.hid (blk_below HS4.out hb0)
    have HP0 := Lib.hid (HP4.out.below hb0)
    have HC0 := Lib.hid (HCA.out.keep (hb0.block _ HCA.out.lt))
    have HM0 := Lib.hid (show ∀ x r, G x = some r → (r ≠ mb ∧ ¬ Bd r) ∧ MapIs w0 r (sheetAt l lo hi x) from fun x r hx => ⟨(HMAPS.out x r hx).1, (HMAPS.out x r hx).2.keep (hb0.block _ (HMAPS.out x r hx).2.lt)⟩)
    have hd00 := HP0.out.1.1
    have hgi0 : w0.cell? ⟨g, 0, none⟩ = some (.int .i64 (i : Int)) := (HB0.out.cell (p := ⟨g, 0, none⟩) hgl).trans HGI.out
    rw [hw0]
    clear hb0 hw0 hlk hd0 hd3 hgi4 hd0'
    go_wp2_with fail
    refine (place_calls A l.length c pb (i : Int) w0 hn7 (by omega) (by omega) hd00).mono ?_
    rintro e w0' ⟨rfl, rfl⟩
    go_wp2_with fail
    refine (sheets_calls A c l lo hi pb (place l.length (i : Int)) w0 HP0.out.1 HG.out hlo hpx3).mono ?_
    rintro e w8 ⟨r, rfl, hr8, hmp8, hb8⟩
    have HP8 := Lib.hid (HP0.out.below hb8)
    have HS8 := Lib.hid (blk_below HS0.out hb8)
    have HB8 := Lib.hid (bt HB0.out hb8)
    have HC8 := Lib.hid (HC0.out.keep (hb8.block _ HC0.out.lt))
    have HM8 := Lib.hid (show ∀ x r, G x = some r → (r ≠ mb ∧ ¬ Bd r) ∧ MapIs w8 r (sheetAt l lo hi x) from fun x r hx => ⟨(HM0.out x r hx).1, (HM0.out x r hx).2.keep (hb8.block _ (HM0.out x r hx).2.lt)⟩)
    have HMP8 := Lib.hid hmp8
    have hrmb : r ≠ mb := by have := HC0.out.lt; omega
    have hd08 := HP8.out.1.1
    have hd38 := HP8.out.2.1
    have hgi8 : w8.cell? ⟨g, 0, none⟩ = some (.int .i64 (i : Int)) := (HB8.out.cell (p := ⟨g, 0, none⟩) hgl).trans HGI.out
    clear hb8 hmp8 hd00 hgi0
    go_wp2_with fail
    go_still_tail 10, (by kernel_rfl)
    still_call ((place_calls A l.length c pb (i : Int) w8.drew hn7 (by omega) (by omega) hd08).mono (fun e w' h => ⟨h.1, h.2.symm⟩))
    repeat still_step
    try refine wpStill_nil ?_
    change wpList _ _ _ _ _ w8.drew
    obtain ⟨w5, hup, hca5, hk5⟩ := (HC8.out.keep (W' := w8.drew) rfl).insert (place l.length (i : Int)) r hG
    have HK5 := Lib.hid (show KS (fun k => k = mb) w w5 from (KS.of_below HB8.out.drew _).trans hk5)
    have hkb : ∀ k, k < w8.heap.size → k ≠ mb → w5.heap[k]? = w8.heap[k]? := fun k h1 h2 => hk5.block k h1 h2
    have hms5 : w2.heap.size ≠ mb := by
      intro e
      obtain ⟨es, ck, hm, _⟩ := HC8.out
      have := HS8.out
      rw [e, hm] at this
      cases this
    have HS5 := Lib.hid (show w5.heap[w2.heap.size]? = some (.cells #[.int .i64 p0, .int .i64 p1] 102 (0, 0)) from (hkb _ (blk_lt HS8.out) hms5).trans HS8.out)
    have HR5 := Lib.hid (show MapIs w5 r (sheetAt l lo hi (place l.length i)) from HMP8.out.keep (hkb _ HMP8.out.lt hrmb))
    have hok5 : CacheOk w5 mb (sheetAt l lo hi) Bd := ⟨_, hca5, fun x r' hx => by
      by_cases e : x = place l.length (i : Int)
      · subst e
        simp at hx
        subst hx
        exact ⟨⟨hrmb, fun h => by have := HBD.out _ h; have := HB0.out.size; omega⟩, HR5.out⟩
      · simp [e] at hx
        exact ⟨(HM8.out x r' hx).1, (HM8.out x r' hx).2.keep (hkb _ (HM8.out x r' hx).2.lt (HM8.out x r' hx).1.1)⟩⟩
    have HP5 := Lib.hid ((HP8.out.below (show Below w8.heap.size w8 w8.drew from (b0 w8).drew)).ks hk5 hok5)
    clear hca5 hk5 hkb hok5 hd08 hd38 hgi8
    have hS5 := HS5.out
    have hd1 := HP5.out.1.2.1
    have hk0 : w5.cell? ⟨w2.heap.size, 0, none⟩ = some (.int .i64 p0) := blk_cell hS5 0
    have hk1 : w5.cell? ⟨w2.heap.size, 1, none⟩ = some (.int .i64 p1) := blk_cell hS5 1
    have hm5 := Plain.mul_bd2 (a := p1) (b := lo) hsm.1 hsm.2 hlo.1 hlo.2
    clear hS5
    obtain ⟨w6, hw6⟩ : ∃ w6, w5.alloc (.cells #[.int .i64 (-p0), .int .i64 (-p1)] 102) = w6 := ⟨_, rfl⟩
    have hb6 : Below w5.heap.size w5 w6 := by rw [← hw6]; exact ba (b0 w5) _
    have HS6 := Lib.hid (show w6.heap[w5.heap.size]? = some (.cells #[.int .i64 (-p0), .int .i64 (-p1)] 102 (0, 0)) by rw [← hw6]; exact World.alloc_heap_new w5 _)
    have HB6 := Lib.hid hb6
    have hl0 : w6.cell? ⟨w2.heap.size, 0, none⟩ = some (.int .i64 p0) := (hb6.cell (by show w2.heap.size < _; exact blk_lt HS5.out)).trans hk0
    have hl1 : w6.cell? ⟨w2.heap.size, 1, none⟩ = some (.int .i64 p1) := (hb6.cell (by show w2.heap.size < _; exact blk_lt HS5.out)).trans hk1
    have he1 := (HP5.out.below hb6).1.2.1
    clear hb6
    cases hlh : (lo == hi)
    · have HKEY := Lib.hid (show solve1 l lo hi o ac (i : Int) = sheetAt l lo hi (place l.length i) (-p0, -p1) by rw [HSV.out, if_neg (by simpa using hlh)])
      have hg0 : w6.cell? ⟨w5.heap.size, 0, none⟩ = some (.int .i64 (-p0)) := blk_cell HS6.out 0
      have hg1 : w6.cell? ⟨w5.heap.size, 1, none⟩ = some (.int .i64 (-p1)) := blk_cell HS6.out 1
      have HR6 := Lib.hid (HR5.out.keep (HB6.out.block _ HR5.out.lt))
      have hlk6 := HR6.out.lookup (-p0, -p1)
      simp only [keyV] at hlk6
      cases hF : sheetAt l lo hi (place l.length i) (-p0, -p1) with
      | none =>
        rw [hF] at hlk6
        simp only [shV] at hlk6
        have HF := Lib.hid hF
        clear hF
        go_wp2_with fail
        go_ret2
        exact ⟨_, by rw [HKEY.out, HF.out]; rfl, (HK5.out.after HB6.out).alloc _, (HP5.out.2.2.below HB6.out).below (ba (b0 w6) _), by rw [HKEY.out, HF.out]; rfl⟩
      | some s =>
        rw [hF] at hlk6
        simp only [shV] at hlk6
        have HF := Lib.hid hF
        clear hF
        obtain ⟨w7, hw7⟩ : ∃ w7, w6.alloc (.cells #[.int .i64 s.f0, .int .i64 s.f1] 52) = w7 := ⟨_, rfl⟩
        have hb7 : Below w6.heap.size w6 w7 := by rw [← hw7]; exact ba (b0 w6) _
        have HS7 := Lib.hid (show w7.heap[w6.heap.size]? = some (.cells #[.int .i64 s.f0, .int .i64 s.f1] 52 (0, 0)) by rw [← hw7]; exact World.alloc_heap_new w6 _)
        have HK7 := Lib.hid ((HK5.out.after HB6.out).after hb7)
        have HP7 := Lib.hid ((HP5.out.below HB6.out).below hb7)
        obtain ⟨es0, ck0, hmb0⟩ := HP.out.2.2.block
        obtain ⟨ad1, rfl, hco⟩ := C_cell (C_ks_int hmb0 HK7.out HR1.out) i hio
        have hgi7 : w7.cell? ⟨g, 0, none⟩ = some (.int .i64 (i : Int)) := cell_ks hmb0 HK7.out HGI.out
        have hs0 : w7.cell? ⟨w6.heap.size, 0, none⟩ = some (.int .i64 s.f0) := blk_cell HS7.out 0
        have hs1 : w7.cell? ⟨w6.heap.size, 1, none⟩ = some (.int .i64 s.f1) := blk_cell HS7.out 1
        clear hb7 hmb0
        go_wp2_with fail
        go_region
        have hro : rd o (i : Int) = o[i] := Plain.rd_get hio
        have HRO := Lib.hid hro
        have hwb : w.heap.size ≤ w7.heap.size := HK7.out.size
        clear hro
        go_wp2_with fail
        go_ret2
        exact ⟨_, by rw [HKEY.out, HF.out]; rfl, (HK7.out.alloc _).drew, HP7.out.2.2.below ((ba (b0 w7) _).drew), by
          rw [HKEY.out, HF.out]
          show Kd.R _ _ _ _ _ _ [(⟨rd o (i : Int), s⟩ : Ch)]
          rw [HRO.out]
          exact Kd.R_drew (R_one_ch w7 w.heap.size hwb ⟨o[i], s⟩)⟩
    · have HKEY := Lib.hid (show solve1 l lo hi o ac (i : Int) = sheetAt l lo hi (place l.length i) (-p0 - p1 * lo, 0) by rw [HSV.out, if_pos (by simpa using hlh)])
      have hq0 : w6.cell? ⟨w5.heap.size, 0, none⟩ = some (.int .i64 (-p0)) := blk_cell HS6.out 0
      have hq1 : w6.cell? ⟨w5.heap.size, 1, none⟩ = some (.int .i64 (-p1)) := blk_cell HS6.out 1
      have hqf0 := blk_frozen HS6.out 0
      have hqf1 := blk_frozen HS6.out 1
      go_wp2_with fail
      go_region
      obtain ⟨w9, hw9⟩ : ∃ w9, ((w6.setCell ⟨w5.heap.size, 0, none⟩ (.int .i64 (-p0 - p1 * lo))).setCell ⟨w5.heap.size, 1, none⟩ (.int .i64 0)).drew = w9 := ⟨_, rfl⟩
      have HS9 := Lib.hid (show w9.heap[w5.heap.size]? = some (.cells #[.int .i64 (-p0 - p1 * lo), .int .i64 0] 102 (0, 0)) by rw [← hw9]; exact blk_put (blk_put HS6.out 0 _ rfl) 1 _ rfl)
      have HB9 := Lib.hid (show Below w5.heap.size w5 w9 by rw [← hw9]; exact ((HB6.out.setCell (p := ⟨w5.heap.size, 0, none⟩) (Nat.le_refl _) _).setCell (p := ⟨w5.heap.size, 1, none⟩) (Nat.le_refl _) _).drew)
      rw [hw9]
      clear hw9 hq0 hq1 hqf0 hqf1 hl0 hl1 he1
      have hg0 : w9.cell? ⟨w5.heap.size, 0, none⟩ = some (.int .i64 (-p0 - p1 * lo)) := blk_cell HS9.out 0
      have hg1 : w9.cell? ⟨w5.heap.size, 1, none⟩ = some (.int .i64 0) := blk_cell HS9.out 1
      have HR6 := Lib.hid (HR5.out.keep (HB9.out.block _ HR5.out.lt))
      have hlk6 := HR6.out.lookup (-p0 - p1 * lo, 0)
      simp only [keyV] at hlk6
      cases hF : sheetAt l lo hi (place l.length i) (-p0 - p1 * lo, 0) with
      | none =>
        rw [hF] at hlk6
        simp only [shV] at hlk6
        have HF := Lib.hid hF
        clear hF
        go_wp2_with fail
        go_ret2
        exact ⟨_, by rw [HKEY.out, HF.out]; rfl, (HK5.out.after HB9.out).alloc _, (HP5.out.2.2.below HB9.out).below (ba (b0 w9) _), by rw [HKEY.out, HF.out]; rfl⟩
      | some s =>
        rw [hF] at hlk6
        simp only [shV] at hlk6
        have HF := Lib.hid hF
        clear hF
        obtain ⟨w7, hw7⟩ : ∃ w7, w9.alloc (.cells #[.int .i64 s.f0, .int .i64 s.f1] 52) = w7 := ⟨_, rfl⟩
        have hb7 : Below w9.heap.size w9 w7 := by rw [← hw7]; exact ba (b0 w9) _
        have HS7 := Lib.hid (show w7.heap[w9.heap.size]? = some (.cells #[.int .i64 s.f0, .int .i64 s.f1] 52 (0, 0)) by rw [← hw7]; exact World.alloc_heap_new w9 _)
        have HK7 := Lib.hid ((HK5.out.after HB9.out).after hb7)
        have HP7 := Lib.hid ((HP5.out.below HB9.out).below hb7)
        obtain ⟨es0, ck0, hmb0⟩ := HP.out.2.2.block
        obtain ⟨ad1, rfl, hco⟩ := C_cell (C_ks_int hmb0 HK7.out HR1.out) i hio
        have hgi7 : w7.cell? ⟨g, 0, none⟩ = some (.int .i64 (i : Int)) := cell_ks hmb0 HK7.out HGI.out
        have hs0 : w7.cell? ⟨w9.heap.size, 0, none⟩ = some (.int .i64 s.f0) := blk_cell HS7.out 0
        have hs1 : w7.cell? ⟨w9.heap.size, 1, none⟩ = some (.int .i64 s.f1) := blk_cell HS7.out 1
        clear hb7 hmb0
        go_wp2_with fail
        go_region
        have hro : rd o (i : Int) = o[i] := Plain.rd_get hio
        have HRO := Lib.hid hro
        have hwb : w.heap.size ≤ w7.heap.size := HK7.out.size
        clear hro
        go_wp2_with fail
        go_ret2
        exact ⟨_, by rw [HKEY.out, HF.out]; rfl, (HK7.out.alloc _).drew, HP7.out.2.2.below ((ba (b0 w7) _).drew), by
          rw [HKEY.out, HF.out]
          show Kd.R _ _ _ _ _ _ [(⟨rd o (i : Int), s⟩ : Ch)]
          rw [HRO.out]
          exact Kd.R_drew (R_one_ch w7 w.heap.size hwb ⟨o[i], s⟩)⟩
end Go.Proofs.Ytehfhbdhdbpfpaa.Own
