/- What is proved here: contracts of the program's functions and plain lemmas that the claim's last text uses, in parts: part.bodied; part.bodied, whole. -/
import Derived.Test.YthmfifcogokpoaaDoorM05
import Derived.Test.YthmfifcogokpoaaDoorM03
set_option linter.unusedVariables false
set_option linter.unusedSimpArgs false
namespace Go.Proofs.YthmfifcogokpoaaDoor
open Go.RowKit

theorem elemBytes : Tryd.prog.underlying 26 = some (.slice (Tryd.prog.elem 26)) := by
  rw [show Tryd.prog.elem 26 = 5 from by kernel_rfl]
  exact Tryd.underlying26
/-- 's[k:]' of bytes that are read. -/
theorem Rd.cut {w : World} {A : Option Addr} {c : Nat} {l : List UInt8} (h : Rd w 1 A l.length c (bys l)) (k : Nat) (hk : k ≤ l.length) :
    ∃ A1 c1, (∀ W, (Instr.slice 26 (.slice A l.length c) (some (.int .i64 k)) none none).run Tryd.prog W = .ok (.slice A1 (l.drop k).length c1) W) ∧ Rd w 1 A1 (l.drop k).length c1 (bys (l.drop k)) := by
  have hd := h.drop (k := k) hk
  have hx : (bys l).drop (k * 1) = bys (l.drop k) := by simp [bys]
  have hl : (l.drop k).length = l.length - k := by simp
  rw [hx] at hd
  rw [hl]
  refine ⟨_, _, fun W => ?_, hd⟩
  rw [run_slice_l W _ A _ _ elemBytes .i64 k (by omega) (by omega)]
  simp only [Int.toNat_natCast]
  have hs : (sizeOf (Tryd.prog.elem 26)).run Tryd.prog W = .ok 1 W := by kernel_rfl
  rw [hs]
  rfl
theorem Rd.upto {w : World} {A : Option Addr} {c : Nat} {l : List UInt8} (h : Rd w 1 A l.length c (bys l)) (k : Nat) (hk : k ≤ l.length) :
    ∃ A1 c1, (∀ W, (Instr.slice 26 (.slice A l.length c) none (some (.int .i64 k)) none).run Tryd.prog W = .ok (.slice A1 (l.take k).length c1) W) ∧ Rd w 1 A1 (l.take k).length c1 (bys (l.take k)) := by
  have hd := h.take (k := k) hk
  have hx : (bys l).take (k * 1) = bys (l.take k) := by simp [bys, List.map_take]
  have hl : (l.take k).length = k := by rw [List.length_take]; omega
  have hle := h.le
  rw [hx] at hd
  rw [hl]
  refine ⟨A, c, fun W => ?_, hd⟩
  rw [run_slice_h W _ A _ _ elemBytes .i64 k (by omega) (by omega)]
  simp only [Int.toNat_natCast]
  have hs : (sizeOf (Tryd.prog.elem 26)).run Tryd.prog W = .ok 1 W := by kernel_rfl
  rw [hs]
  simp only [Result.andThen, sliced, Nat.zero_mul, Nat.sub_zero]
  cases A with
  | none => simp
  | some a =>
    have : a.add 0 = a := by unfold Addr.add; simp
    simp [this]

noncomputable def bodBody : Code := ((Tryd.f39.body.bind firstScope).getD .skip)

def bodRest (p : PartS) (pad : Nat) (b : List UInt8) : PartS × Fault :=
  if b.length < pad then connS 1 else ({ p with data := b.take (b.length - pad) }, noFault)
def bodPrio (kind flags : Nat) (p : PartS) (pad : Nat) (b : List UInt8) : PartS × Fault :=
  if kind = 0 ∨ flags &&& 32 = 0 then bodRest p pad b
  else if b.length < 5 then connS 6 else bodRest p pad (b.drop 5)
def bodPart (kind flags pad : Nat) : PartS := { noPart with pad := pad, fin := decide (0 < flags &&& 1), whole := decide (kind = 1) && decide (0 < flags &&& 4) }
def bodiedS (f : FrameS) : PartS × Fault :=
  if f.stream = 0 then connS 1
  else if f.flags &&& 8 = 0 then bodPrio f.kind f.flags (bodPart f.kind f.flags 0) 0 f.body
  else if f.body.length = 0 then connS 6
  else bodPrio f.kind f.flags (bodPart f.kind f.flags ((f.body.getD 0 0).toNat + 1)) (f.body.getD 0 0).toNat (f.body.drop 1)

/-- Memory at the labels. -/
structure BodM (w W : World) (kind flags stream : Nat) (x : Value) (pad : Nat) (e h : Bool) : Prop where
  below : Below w.heap.size w W
  size : w.heap.size + 4 ≤ W.heap.size
  b0 : Blk W w.heap.size 29 [.int .i64 kind, .int .i64 flags, .int .i64 stream, x]
  b1 : Blk W (w.heap.size + 1) 82 [.slice none 0 0, .int .i64 0, .int .i64 0, .int .i64 0, .int .i64 0, .slice none 0 0, .bool false, .bool false, .bool false]
  b2 : Blk W (w.heap.size + 2) 84 [.bool false, .bool false, .int .i64 0]
  b3 : Blk W (w.heap.size + 3) 82 [.slice none 0 0, .int .i64 pad, .int .i64 0, .int .i64 0, .int .i64 0, .slice none 0 0, .bool e, .bool false, .bool h]

set_option maxRecDepth 100000 in
set_option maxHeartbeats 1000000 in
theorem bod_rest (w W : World) (kind flags stream : Nat) (x : Value) (padv pad : Nat) (ee h : Bool) (hm : BodM w W kind flags stream x padv ee h) (l : List UInt8) (A : Option Addr) (c : Nat) (hr : Rd W 1 A l.length c (bys l)) (hl : l.length ≤ 1000000000000) (hpad : pad < 256) (jumps : Nat) (u0 u7 u8 u9 u10 u11 u12 u13 u14 u15 u16 u17 u18 u19 u20 u21 u22 u23 u24 u25 u26 u27 u28 u29 u30 u31 u32 u33 u34 u35 u36 u37 u38 u39 u40 u41 u42 u43 u44 u45 u46 u47 u48 u49 u50 u51 u52 u53 u54 u55 u56 u57 u58 u59 u60 u61 u62 u63 u64 u65 u66 u67 u68 u69 u70 u71 u72 u73 u74 u75 u76 u77 u78 u79 u80 u81 : Value) :
    Lab Tryd.prog bodBody (bodyPost Tryd.prog Tryd.f39 (PartQ (bodRest { noPart with pad := padv, fin := ee, whole := h } pad l) w)) (jumps + 1) 1
      ⟨#[u0, .pointer (some ⟨w.heap.size, 0, none⟩), .pointer (some ⟨w.heap.size + 1, 0, none⟩), .pointer (some ⟨w.heap.size + 2, 0, none⟩), .pointer (some ⟨w.heap.size + 3, 0, none⟩), .slice A l.length c, .int .i64 pad, u7, u8, u9, u10, u11, u12, u13, u14, u15, u16, u17, u18, u19, u20, u21, u22, u23, u24, u25, u26, u27, u28, u29, u30, u31, u32, u33, u34, u35, u36, u37, u38, u39, u40, u41, u42, u43, u44, u45, u46, u47, u48, u49, u50, u51, u52, u53, u54, u55, u56, u57, u58, u59, u60, u61, u62, u63, u64, u65, u66, u67, u68, u69, u70, u71, u72, u73, u74, u75, u76, u77, u78, u79, u80, u81], []⟩ W := by
  unfold bodRest connS
  obtain ⟨hbel, hsz, b0, b1, b2, b3⟩ := hm
  have n1 : w.heap.size + 1 < W.heap.size := by omega
  have n2 : w.heap.size + 2 < W.heap.size := by omega
  have n3 : w.heap.size + 3 < W.heap.size := by omega
  have c1 := b1.cells
  have c2 := b2.cells
  have c3 := b3.cells
  simp only [Cells, Nat.zero_add, Nat.reduceAdd] at c1 c2 c3
  clear b0 b1 b2 b3
  refine ⟨by kernel_rfl, ?_⟩
  show Code.wp _ _ _ _ _
  by_cases hp : l.length < pad
  · rw [if_pos hp]
    have t1 : decide (l.length < pad) = true := decide_eq_true (by omega)
    clear hp hr
    go_wp2_with (first | (go_at_call 41; refine (partConn_any _ _).mono ?_; rintro e w' ⟨rfl, hb⟩; obtain ⟨hc1, hf1⟩ := bcell hb; have hz := hb.size; replace hb : Below w.heap.size w w' := bcall hb (by (focus repeat' (first | (with_reducible exact Below.refl _ _) | (with_reducible assumption) | (with_reducible refine Below.alloc ?_ ?_ _) | (with_reducible refine Below.drew ?_) | (with_reducible refine below_drewN ?_ _) | (with_reducible refine Below.setCell ?_ ?_ _) | (with_reducible refine Below.frame ?_ _) | go_size)))))
    refine bodyPost_ret (v := .tuple #[nilPart, (⟨true, true, 1⟩ : Fault).v]) (by (simp [results, Tryd.results39, go_sem, hc1, hz, c1, c2, c3, n1, n2, n3, Fault.v]; try omega)) rfl ?_
    exact PartQ.plain (p := noPart) (x := ⟨true, true, 1⟩) (by (focus repeat' (first | (with_reducible exact Below.refl _ _) | (with_reducible assumption) | (with_reducible refine Below.alloc ?_ ?_ _) | (with_reducible refine Below.drew ?_) | (with_reducible refine below_drewN ?_ _) | (with_reducible refine Below.setCell ?_ ?_ _) | (with_reducible refine Below.frame ?_ _) | go_size))) rfl rfl
  · rw [if_neg hp]
    have t1 : decide (l.length < pad) = false := decide_eq_false (by omega)
    obtain ⟨A1, k1, hs, hr1⟩ := hr.upto (l.length - pad) (by omega)
    have e1 : (((l.length - pad : Nat) : Int)) = (l.length : Int) - (pad : Int) := by omega
    rw [e1] at hs
    have hbig : (l.take (l.length - pad)).length ≤ big := by rw [List.length_take]; simp only [big]; omega
    have h1 := bys_one (l.take (l.length - pad))
    generalize l.take (l.length - pad) = d at *
    have HRQ := Lib.hid hr1
    have HB := Lib.hid hbel
    clear hr hr1 hp e1 hbel
    go_wp2_with (first | (go_at_call 29; refine (bytesClone_any _ _ _ _ _ HRQ.out h1 hbig).mono ?_; rintro e w' ⟨A', c', S', rfl, hrow, hu⟩; have hb2 := hu.below (fun _ h => h.elim) (Nat.le_refl _); obtain ⟨hc1, hf1⟩ := bcell hb2; have hz := hb2.size))
    refine bodyPost_ret (v := .tuple #[({ noPart with data := d, pad := padv, fin := ee, whole := h } : PartS).v A' c' none 0, noFault.v]) (by (simp [results, Tryd.results39, go_sem, hc1, hz, c1, c2, c3, n1, n2, n3, noPart, noFault, PartS.v, Fault.v]; try omega)) rfl ?_
    have hb3 : Below w.heap.size w w' := HB.out.trans (hb2.mono HB.out.size)
    refine PartQ.made hrow hu HB.out.size ?_ ?_ rfl
    · ((focus repeat' (first | (with_reducible exact Above.refl _ _) | (with_reducible assumption) | (with_reducible refine Above.setCell ?_ ?_ _) | (with_reducible refine Above.alloc ?_ _) | (with_reducible refine Above.drew ?_) | (with_reducible refine Above.drewN ?_ _) | go_size)))
    · ((focus repeat' (first | (with_reducible exact Below.refl _ _) | (with_reducible assumption) | (with_reducible refine Below.alloc ?_ ?_ _) | (with_reducible refine Below.drew ?_) | (with_reducible refine below_drewN ?_ _) | (with_reducible refine Below.setCell ?_ ?_ _) | (with_reducible refine Below.frame ?_ _) | go_size)))

theorem Lab.step {P : Program} {c : Code} {Q : Exit → Act → World → Prop} {n l : Nat} {a : Act} {w : World} (hf : (findLabel c l).isSome = true) (h : labW P c l (Jumps (Lab P c Q n) Q) a w) : Lab P c Q (n + 1) l a w := ⟨hf, h⟩

theorem andNat (a : Nat) (b : Nat) (ha : a < 1000000) (hb : b < 1000000) : Go.bits .and .i64 (a : Int) (b : Int) = ((a &&& b : Nat) : Int) := i64_and_nat a b (by omega) (by omega)

set_option maxRecDepth 100000 in
set_option maxHeartbeats 1000000 in
theorem bod_prio (w W : World) (kind flags stream : Nat) (hfl : flags < 1000000) (x : Value) (padv pad : Nat) (ee h : Bool) (hm : BodM w W kind flags stream x padv ee h) (l : List UInt8) (A : Option Addr) (c : Nat) (hr : Rd W 1 A l.length c (bys l)) (hl : l.length ≤ 1000000000000) (hpad : pad < 256) (jumps : Nat) (u0 u7 u8 u9 u10 u11 u12 u13 u14 u15 u16 u17 u18 u19 u20 u21 u22 u23 u24 u25 u26 u27 u28 u29 u30 u31 u32 u33 u34 u35 u36 u37 u38 u39 u40 u41 u42 u43 u44 u45 u46 u47 u48 u49 u50 u51 u52 u53 u54 u55 u56 u57 u58 u59 u60 u61 u62 u63 u64 u65 u66 u67 u68 u69 u70 u71 u72 u73 u74 u75 u76 u77 u78 u79 u80 u81 : Value) :
    Lab Tryd.prog bodBody (bodyPost Tryd.prog Tryd.f39 (PartQ (bodPrio kind flags { noPart with pad := padv, fin := ee, whole := h } pad l) w)) (jumps + 2) 0
      ⟨#[u0, .pointer (some ⟨w.heap.size, 0, none⟩), .pointer (some ⟨w.heap.size + 1, 0, none⟩), .pointer (some ⟨w.heap.size + 2, 0, none⟩), .pointer (some ⟨w.heap.size + 3, 0, none⟩), .slice A l.length c, .int .i64 pad, u7, u8, u9, u10, u11, u12, u13, u14, u15, u16, u17, u18, u19, u20, u21, u22, u23, u24, u25, u26, u27, u28, u29, u30, u31, u32, u33, u34, u35, u36, u37, u38, u39, u40, u41, u42, u43, u44, u45, u46, u47, u48, u49, u50, u51, u52, u53, u54, u55, u56, u57, u58, u59, u60, u61, u62, u63, u64, u65, u66, u67, u68, u69, u70, u71, u72, u73, u74, u75, u76, u77, u78, u79, u80, u81], []⟩ W := by
  have HM := Lib.hid hm
  unfold bodPrio connS
  obtain ⟨hbel, hsz, b0, b1, b2, b3⟩ := hm
  have n0 : w.heap.size < W.heap.size := by omega
  have n1 : w.heap.size + 1 < W.heap.size := by omega
  have n2 : w.heap.size + 2 < W.heap.size := by omega
  have n3 : w.heap.size + 3 < W.heap.size := by omega
  have c0 := b0.cells
  have c1 := b1.cells
  have c2 := b2.cells
  have c3 := b3.cells
  simp only [Cells, Nat.zero_add, Nat.reduceAdd] at c0 c1 c2 c3
  clear b0 b1 b2 b3
  have ha : bits .and .i64 (flags : Int) 32 = ((flags &&& 32 : Nat) : Int) := andNat flags 32 hfl (by omega)
  have HREST := Lib.hid (fun l A c hr hl => bod_rest w W kind flags stream x padv pad ee h HM.out l A c hr hl hpad jumps)
  by_cases hp : kind = 0 ∨ flags &&& 32 = 0
  · rw [if_pos hp]
    have HR := Lib.hid hr
    clear hr
    by_cases hk : kind = 0
    · have tk : ((kind : Int) == 0) = true := beq_iff_eq.2 (by omega)
      clear hp hk
      refine Lab.step (by kernel_rfl) ?_
      show Code.wp _ _ _ _ _
      go_wp2
      go_step3
      simp only [Exit.then, Jumps_goto]
      exact HREST.out l A c HR.out hl _ _ _ _ _ _ _ _ _ _ _ _ _ _ _ _ _ _ _ _ _ _ _ _ _ _ _ _ _ _ _ _ _ _ _ _ _ _ _ _ _ _ _ _ _ _ _ _ _ _ _ _ _ _ _ _ _ _ _ _ _ _ _ _ _ _ _ _ _ _ _ _ _ _ _ _
    · have tk : ((kind : Int) == 0) = false := beq_eq_false_iff_ne.2 (by omega)
      have tf : (((flags &&& 32 : Nat) : Int) == 0) = true := beq_iff_eq.2 (by omega)
      clear hp hk
      refine Lab.step (by kernel_rfl) ?_
      show Code.wp _ _ _ _ _
      go_wp2
      go_step3
      simp only [Exit.then, Jumps_goto]
      exact HREST.out l A c HR.out hl _ _ _ _ _ _ _ _ _ _ _ _ _ _ _ _ _ _ _ _ _ _ _ _ _ _ _ _ _ _ _ _ _ _ _ _ _ _ _ _ _ _ _ _ _ _ _ _ _ _ _ _ _ _ _ _ _ _ _ _ _ _ _ _ _ _ _ _ _ _ _ _ _ _ _ _
  · rw [if_neg hp]
    have tk : ((kind : Int) == 0) = false := beq_eq_false_iff_ne.2 (by omega)
    have tf : (((flags &&& 32 : Nat) : Int) == 0) = false := beq_eq_false_iff_ne.2 (by omega)
    clear hp
    by_cases h5 : l.length < 5
    · rw [if_pos h5]
      have t5 : decide ((l.length : Int) < 5) = true := decide_eq_true (by omega)
      clear h5 hr
      refine Lab.step (by kernel_rfl) ?_
      show Code.wp _ _ _ _ _
      go_wp2_with (first | (go_at_call 41; refine (partConn_any _ _).mono ?_; rintro e w' ⟨rfl, hb⟩; obtain ⟨hc1, hf1⟩ := bcell hb; have hz := hb.size; replace hb : Below w.heap.size w w' := bcall hb (by (focus repeat' (first | (with_reducible exact Below.refl _ _) | (with_reducible assumption) | (with_reducible refine Below.alloc ?_ ?_ _) | (with_reducible refine Below.drew ?_) | (with_reducible refine below_drewN ?_ _) | (with_reducible refine Below.setCell ?_ ?_ _) | (with_reducible refine Below.frame ?_ _) | go_size)))))
      refine bodyPost_ret (v := .tuple #[nilPart, (⟨true, true, 6⟩ : Fault).v]) (by (simp [results, Tryd.results39, go_sem, hc1, hz, c1, c2, c3, n1, n2, n3, Fault.v]; try omega)) rfl ?_
      exact PartQ.plain (p := noPart) (x := ⟨true, true, 6⟩) (by (focus repeat' (first | (with_reducible exact Below.refl _ _) | (with_reducible assumption) | (with_reducible refine Below.alloc ?_ ?_ _) | (with_reducible refine Below.drew ?_) | (with_reducible refine below_drewN ?_ _) | (with_reducible refine Below.setCell ?_ ?_ _) | (with_reducible refine Below.frame ?_ _) | go_size))) rfl rfl
    · rw [if_neg h5]
      have t5 : decide ((l.length : Int) < 5) = false := decide_eq_false (by omega)
      obtain ⟨A1, k1, hs, hr1⟩ := hr.cut 5 (by omega)
      rw [show ((5 : Nat) : Int) = 5 from rfl] at hs
      have hl1 : (l.drop 5).length ≤ 1000000000000 := by rw [List.length_drop]; omega
      generalize l.drop 5 = d at *
      clear hr h5 HREST HM
      unfold bodRest connS
      by_cases hp : d.length < pad
      · rw [if_pos hp]
        have t1 : decide (d.length < pad) = true := decide_eq_true (by omega)
        clear hp hr1
        refine Lab.step (by kernel_rfl) ?_
        show Code.wp _ _ _ _ _
        go_wp2
        refine wp_label ?_
        go_wp2_with (first | (go_at_call 41; refine (partConn_any _ _).mono ?_; rintro e w' ⟨rfl, hb⟩; obtain ⟨hc1, hf1⟩ := bcell hb; have hz := hb.size; replace hb : Below w.heap.size w w' := bcall hb (by (focus repeat' (first | (with_reducible exact Below.refl _ _) | (with_reducible assumption) | (with_reducible refine Below.alloc ?_ ?_ _) | (with_reducible refine Below.drew ?_) | (with_reducible refine below_drewN ?_ _) | (with_reducible refine Below.setCell ?_ ?_ _) | (with_reducible refine Below.frame ?_ _) | go_size)))))
        refine bodyPost_ret (v := .tuple #[nilPart, (⟨true, true, 1⟩ : Fault).v]) (by (simp [results, Tryd.results39, go_sem, hc1, hz, c1, c2, c3, n1, n2, n3, Fault.v]; try omega)) rfl ?_
        exact PartQ.plain (p := noPart) (x := ⟨true, true, 1⟩) (by (focus repeat' (first | (with_reducible exact Below.refl _ _) | (with_reducible assumption) | (with_reducible refine Below.alloc ?_ ?_ _) | (with_reducible refine Below.drew ?_) | (with_reducible refine below_drewN ?_ _) | (with_reducible refine Below.setCell ?_ ?_ _) | (with_reducible refine Below.frame ?_ _) | go_size))) rfl rfl
      · rw [if_neg hp]
        have t1 : decide (d.length < pad) = false := decide_eq_false (by omega)
        obtain ⟨A2, k2, hs2, hr2⟩ := hr1.upto (d.length - pad) (by omega)
        have e1 : (((d.length - pad : Nat) : Int)) = (d.length : Int) - (pad : Int) := by omega
        rw [e1] at hs2
        have hbig : (d.take (d.length - pad)).length ≤ big := by rw [List.length_take]; simp only [big]; omega
        have h1 := bys_one (d.take (d.length - pad))
        generalize d.take (d.length - pad) = d2 at *
        have HRQ := Lib.hid hr2
        have HB := Lib.hid hbel
        clear hr1 hr2 hp e1 hbel
        refine Lab.step (by kernel_rfl) ?_
        show Code.wp _ _ _ _ _
        go_wp2
        refine wp_label ?_
        go_wp2_with (first | (go_at_call 29; refine (bytesClone_any _ _ _ _ _ HRQ.out h1 hbig).mono ?_; rintro e w' ⟨A', c', S', rfl, hrow, hu⟩; have hb2 := hu.below (fun _ h => h.elim) (Nat.le_refl _); obtain ⟨hc1, hf1⟩ := bcell hb2; have hz := hb2.size))
        refine bodyPost_ret (v := .tuple #[({ noPart with data := d2, pad := padv, fin := ee, whole := h } : PartS).v A' c' none 0, noFault.v]) (by (simp [results, Tryd.results39, go_sem, hc1, hz, c1, c2, c3, n1, n2, n3, noPart, noFault, PartS.v, Fault.v]; try omega)) rfl ?_
        have hb3 : Below w.heap.size w w' := HB.out.trans (hb2.mono HB.out.size)
        refine PartQ.made hrow hu HB.out.size ?_ ?_ rfl
        · ((focus repeat' (first | (with_reducible exact Above.refl _ _) | (with_reducible assumption) | (with_reducible refine Above.setCell ?_ ?_ _) | (with_reducible refine Above.alloc ?_ _) | (with_reducible refine Above.drew ?_) | (with_reducible refine Above.drewN ?_ _) | go_size)))
        · ((focus repeat' (first | (with_reducible exact Below.refl _ _) | (with_reducible assumption) | (with_reducible refine Below.alloc ?_ ?_ _) | (with_reducible refine Below.drew ?_) | (with_reducible refine below_drewN ?_ _) | (with_reducible refine Below.setCell ?_ ?_ _) | (with_reducible refine Below.frame ?_ _) | go_size)))

end Go.Proofs.YthmfifcogokpoaaDoor
namespace Go.Proofs.YthmfifcogokpoaaDoor
open Go.RowKit

theorem wp_scope_as {P : Program} {Q : Exit → Act → World → Prop} {a : Act} {w : World} {c : Code} (c' : Code) (hc : c' = c) (n : Nat) (h : c.wp P (Jumps (Lab P c' Q n) Q) a w) : (Code.scope c).wp P Q a w := by
  subst hc; exact wp_scope_labels n h

theorem wp_scope_thru {P : Program} {Q : Exit → Act → World → Prop} {a : Act} {w : World} {c : Code} (c' : Code) (hc : c' = c) (n l : Nat) (hf : (findLabel c' l).isSome = true) (h : thruW P l (Lab P c' Q (n + 1) l) c (Jumps (Lab P c' Q n) Q) a w) : (Code.scope c).wp P Q a w := by
  subst hc; exact wp_scope_from n l hf h

theorem Blk.drew {w : World} {b : Nat} {t : TypeId} {cs : List Value} (h : Blk w b t cs) : Blk w.drew b t cs := h
theorem Blk.drewN {w : World} {b : Nat} {t : TypeId} {cs : List Value} (h : Blk w b t cs) (n : Nat) : Blk (w.drewN n) b t cs := h
theorem Blk.push {W : World} {b : Nat} {t : TypeId} {cs : List Value} (hb : b = W.heap.size) : Blk (W.alloc (.cells cs.toArray t)) b t cs := by subst hb; exact Blk.new W t cs

set_option maxRecDepth 100000 in
set_option maxHeartbeats 1000000 in
theorem bodied_any (f : FrameS) (A : Option Addr) (c : Nat) (w : World) (hf : f.Ok) (hr : Rd w 1 A f.body.length c (bys f.body)) :
    Calls Tryd.prog 39 #[f.v A c] w (PartQ (bodiedS f) w) := by
  obtain ⟨kind, flags, stream, l⟩ := f
  obtain ⟨hk, hfl, hst, hl⟩ := hf
  simp only at hk hfl hst hl hr
  simp only [bodiedS, FrameS.v, bodPart]
  unfold connS
  have ha1 : bits .and .i64 (flags : Int) 1 = ((flags &&& 1 : Nat) : Int) := andNat flags 1 hfl (by omega)
  have ha4 : bits .and .i64 (flags : Int) 4 = ((flags &&& 4 : Nat) : Int) := andNat flags 4 hfl (by omega)
  have ha8 : bits .and .i64 (flags : Int) 8 = ((flags &&& 8 : Nat) : Int) := andNat flags 8 hfl (by omega)
  generalize flags &&& 1 = m1 at *
  generalize flags &&& 4 = m4 at *
  generalize flags &&& 8 = m8 at *
  have HP := Lib.hid (fun W x padv pad e h hm l A c hr hl hpad jumps => bod_prio w W kind flags stream hfl x padv pad e h hm l A c hr hl hpad jumps)
  by_cases hs : stream = 0
  · have ts : ((stream : Int) == 0) = true := beq_iff_eq.2 (by omega)
    rw [if_pos hs]
    clear hs hr HP
    by_cases h1 : kind = 1
    all_goals
      first | (have tk : ((kind : Int) == 1) = true := beq_iff_eq.2 (by omega)) | (have tk : ((kind : Int) == 1) = false := beq_eq_false_iff_ne.2 (by omega))
      clear h1
      go_enter Tryd.func39, Tryd.ntmps39
      go_wp2
      refine wp_scope_as bodBody (by kernel_rfl) 0 ?_
      go_wp2_with (first | (go_at_call 41; refine (partConn_any _ _).mono ?_; rintro e w' ⟨rfl, hb⟩; obtain ⟨hc1, hf1⟩ := bcell hb; have hz := hb.size; replace hb : Below w.heap.size w w' := bcall hb (by (focus repeat' (first | (with_reducible exact Below.refl _ _) | (with_reducible assumption) | (with_reducible refine Below.alloc ?_ ?_ _) | (with_reducible refine Below.drew ?_) | (with_reducible refine below_drewN ?_ _) | (with_reducible refine Below.setCell ?_ ?_ _) | (with_reducible refine Below.frame ?_ _) | go_size)))))
      refine bodyPost_ret (v := .tuple #[nilPart, (⟨true, true, 1⟩ : Fault).v]) (by (simp [results, Tryd.results39, go_sem, hc1, hz, Fault.v]; try omega)) rfl ?_
      exact PartQ.plain (p := noPart) (x := ⟨true, true, 1⟩) (by (focus repeat' (first | (with_reducible exact Below.refl _ _) | (with_reducible assumption) | (with_reducible refine Below.alloc ?_ ?_ _) | (with_reducible refine Below.drew ?_) | (with_reducible refine below_drewN ?_ _) | (with_reducible refine Below.setCell ?_ ?_ _) | (with_reducible refine Below.frame ?_ _) | go_size))) rfl rfl
  · have ts : ((stream : Int) == 0) = false := beq_eq_false_iff_ne.2 (by omega)
    rw [if_neg hs]
    clear hs
    have e0 : ∃ q : Bool, ((kind : Int) == 1) = q ∧ decide (kind = 1) = q := ⟨_, rfl, by rw [Bool.eq_iff_iff]; simp; omega⟩
    obtain ⟨q, tk, tq⟩ := e0
    rw [tq]
    clear tq
    by_cases h8 : m8 = 0
    · have tf : ((m8 : Int) == 0) = true := beq_iff_eq.2 (by omega)
      rw [if_pos h8]
      have HR := Lib.hid hr
      clear h8 hr
      cases q
      · rw [Bool.false_and]
        go_enter Tryd.func39, Tryd.ntmps39
        go_wp2
        refine wp_scope_as bodBody (by kernel_rfl) 2 ?_
        go_wp2
        go_step3
        simp only [Exit.then, Jumps_goto]
        exact HP.out _ (.slice A l.length c) 0 0 _ _ ⟨by (focus repeat' (first | (with_reducible exact Below.refl _ _) | (with_reducible assumption) | (with_reducible refine Below.alloc ?_ ?_ _) | (with_reducible refine Below.drew ?_) | (with_reducible refine below_drewN ?_ _) | (with_reducible refine Below.setCell ?_ ?_ _) | (with_reducible refine Below.frame ?_ _) | go_size)), by go_size, (((Blk.push (by simp)).alloc _).alloc _).alloc _, ((Blk.push (by simp)).alloc _).alloc _, (Blk.push (by simp)).alloc _, Blk.push (by simp)⟩ l A c (HR.out.grow (by omega) (by (focus repeat' (first | (with_reducible exact Below.refl _ _) | (with_reducible assumption) | (with_reducible refine Below.alloc ?_ ?_ _) | (with_reducible refine Below.drew ?_) | (with_reducible refine below_drewN ?_ _) | (with_reducible refine Below.setCell ?_ ?_ _) | (with_reducible refine Below.frame ?_ _) | go_size)))) hl (by omega) 0 _ _ _ _ _ _ _ _ _ _ _ _ _ _ _ _ _ _ _ _ _ _ _ _ _ _ _ _ _ _ _ _ _ _ _ _ _ _ _ _ _ _ _ _ _ _ _ _ _ _ _ _ _ _ _ _ _ _ _ _ _ _ _ _ _ _ _ _ _ _ _ _ _ _ _ _
      · rw [Bool.true_and]
        go_enter Tryd.func39, Tryd.ntmps39
        go_wp2
        refine wp_scope_as bodBody (by kernel_rfl) 2 ?_
        go_wp2
        go_step3
        simp only [Exit.then, Jumps_goto]
        exact HP.out _ (.slice A l.length c) 0 0 _ _ ⟨by (focus repeat' (first | (with_reducible exact Below.refl _ _) | (with_reducible assumption) | (with_reducible refine Below.alloc ?_ ?_ _) | (with_reducible refine Below.drew ?_) | (with_reducible refine below_drewN ?_ _) | (with_reducible refine Below.setCell ?_ ?_ _) | (with_reducible refine Below.frame ?_ _) | go_size)), by go_size, (((Blk.push (by simp)).alloc _).alloc _).alloc _, ((Blk.push (by simp)).alloc _).alloc _, (Blk.push (by simp)).alloc _, Blk.push (by simp)⟩ l A c (HR.out.grow (by omega) (by (focus repeat' (first | (with_reducible exact Below.refl _ _) | (with_reducible assumption) | (with_reducible refine Below.alloc ?_ ?_ _) | (with_reducible refine Below.drew ?_) | (with_reducible refine below_drewN ?_ _) | (with_reducible refine Below.setCell ?_ ?_ _) | (with_reducible refine Below.frame ?_ _) | go_size)))) hl (by omega) 0 _ _ _ _ _ _ _ _ _ _ _ _ _ _ _ _ _ _ _ _ _ _ _ _ _ _ _ _ _ _ _ _ _ _ _ _ _ _ _ _ _ _ _ _ _ _ _ _ _ _ _ _ _ _ _ _ _ _ _ _ _ _ _ _ _ _ _ _ _ _ _ _ _ _ _ _
    · have tf : ((m8 : Int) == 0) = false := beq_eq_false_iff_ne.2 (by omega)
      rw [if_neg h8]
      clear h8
      by_cases h0 : l.length = 0
      · rw [if_pos h0]
        have t0 : ((l.length : Int) == 0) = true := beq_iff_eq.2 (by omega)
        clear h0 hr HP
        cases q
        all_goals
          go_enter Tryd.func39, Tryd.ntmps39
          go_wp2
          refine wp_scope_as bodBody (by kernel_rfl) 0 ?_
          go_wp2_with (first | (go_at_call 41; refine (partConn_any _ _).mono ?_; rintro e w' ⟨rfl, hb⟩; obtain ⟨hc1, hf1⟩ := bcell hb; have hz := hb.size; replace hb : Below w.heap.size w w' := bcall hb (by (focus repeat' (first | (with_reducible exact Below.refl _ _) | (with_reducible assumption) | (with_reducible refine Below.alloc ?_ ?_ _) | (with_reducible refine Below.drew ?_) | (with_reducible refine below_drewN ?_ _) | (with_reducible refine Below.setCell ?_ ?_ _) | (with_reducible refine Below.frame ?_ _) | go_size)))))
          refine bodyPost_ret (v := .tuple #[nilPart, (⟨true, true, 6⟩ : Fault).v]) (by (simp [results, Tryd.results39, go_sem, hc1, hz, Fault.v]; try omega)) rfl ?_
          exact PartQ.plain (p := noPart) (x := ⟨true, true, 6⟩) (by (focus repeat' (first | (with_reducible exact Below.refl _ _) | (with_reducible assumption) | (with_reducible refine Below.alloc ?_ ?_ _) | (with_reducible refine Below.drew ?_) | (with_reducible refine below_drewN ?_ _) | (with_reducible refine Below.setCell ?_ ?_ _) | (with_reducible refine Below.frame ?_ _) | go_size))) rfl rfl
      · rw [if_neg h0]
        have t0 : ((l.length : Int) == 0) = false := beq_eq_false_iff_ne.2 (by omega)
        obtain ⟨A1, k1, hs, hr1⟩ := hr.cut 1 (by omega)
        rw [show ((1 : Nat) : Int) = 1 from rfl] at hs
        have hl1 : (l.drop 1).length ≤ 1000000000000 := by rw [List.length_drop]; omega
        obtain ⟨ab, ao, hA, hcell⟩ := hr.form (by omega)
        have hc0 := hcell 0 _ (bys_get l 0 (by omega))
        rw [← getD_zero l (by omega)] at hc0
        have hx := (l.getD 0 0).toNat_lt
        unfold by8 at hc0
        generalize (l.getD 0 0).toNat = pad at *
        generalize l.drop 1 = d at *
        simp only [Nat.add_zero] at hc0
        have i0 : (0 : Int) < (l.length : Int) := by omega
        have i1 : 0 < l.length := by omega
        have hab : ab < w.heap.size := World.block_lt_of_cell? _ _ hc0
        have hab1 : ab < w.heap.size + 1 := by omega
        have hab2 : ab < w.heap.size + 1 + 1 := by omega
        have hab3 : ab < w.heap.size + 1 + 1 + 1 := by omega
        have HR := Lib.hid hr1
        subst hA
        clear hr hr1 h0 hcell
        cases q
        · rw [Bool.false_and]
          go_enter Tryd.func39, Tryd.ntmps39
          go_wp2
          refine wp_scope_thru bodBody (by kernel_rfl) 2 0 (by kernel_rfl) ?_
          iterate 8 (show Code.wp _ _ _ _ _; go_wp2)
          show Code.wp _ _ _ _ _
          go_quiet (fail)
          show Code.wp _ _ _ _ _
          go_wp2
          show Lab _ _ _ _ _ _ _
          refine HP.out _ (.slice (some ⟨ab, ao, none⟩) l.length c) (pad + 1) pad _ _ ⟨by (focus repeat' (first | (with_reducible exact Below.refl _ _) | (with_reducible assumption) | (with_reducible refine Below.alloc ?_ ?_ _) | (with_reducible refine Below.drew ?_) | (with_reducible refine below_drewN ?_ _) | (with_reducible refine Below.setCell ?_ ?_ _) | (with_reducible refine Below.frame ?_ _) | go_size)), by go_size, ?_, ?_, ?_, ?_⟩ d A1 k1 (HR.out.grow (by omega) (by (focus repeat' (first | (with_reducible exact Below.refl _ _) | (with_reducible assumption) | (with_reducible refine Below.alloc ?_ ?_ _) | (with_reducible refine Below.drew ?_) | (with_reducible refine below_drewN ?_ _) | (with_reducible refine Below.setCell ?_ ?_ _) | (with_reducible refine Below.frame ?_ _) | go_size)))) hl1 hx 1 _ _ _ _ _ _ _ _ _ _ _ _ _ _ _ _ _ _ _ _ _ _ _ _ _ _ _ _ _ _ _ _ _ _ _ _ _ _ _ _ _ _ _ _ _ _ _ _ _ _ _ _ _ _ _ _ _ _ _ _ _ _ _ _ _ _ _ _ _ _ _ _ _ _ _ _
          · exact (((((Blk.push (by simp)).alloc _).alloc _).alloc _).drewN nq).far (by simp; try omega) _
          · exact ((((Blk.push (by simp)).alloc _).alloc _).drewN nq).far (by simp; try omega) _
          · exact (((Blk.push (by simp)).alloc _).drewN nq).far (by simp; try omega) _
          · exact ((Blk.push (by simp)).drewN nq).set 1 _
        · rw [Bool.true_and]
          go_enter Tryd.func39, Tryd.ntmps39
          go_wp2
          refine wp_scope_thru bodBody (by kernel_rfl) 2 0 (by kernel_rfl) ?_
          iterate 8 (show Code.wp _ _ _ _ _; go_wp2)
          show Code.wp _ _ _ _ _
          go_quiet (fail)
          show Code.wp _ _ _ _ _
          go_wp2
          show Lab _ _ _ _ _ _ _
          refine HP.out _ (.slice (some ⟨ab, ao, none⟩) l.length c) (pad + 1) pad _ _ ⟨by (focus repeat' (first | (with_reducible exact Below.refl _ _) | (with_reducible assumption) | (with_reducible refine Below.alloc ?_ ?_ _) | (with_reducible refine Below.drew ?_) | (with_reducible refine below_drewN ?_ _) | (with_reducible refine Below.setCell ?_ ?_ _) | (with_reducible refine Below.frame ?_ _) | go_size)), by go_size, ?_, ?_, ?_, ?_⟩ d A1 k1 (HR.out.grow (by omega) (by (focus repeat' (first | (with_reducible exact Below.refl _ _) | (with_reducible assumption) | (with_reducible refine Below.alloc ?_ ?_ _) | (with_reducible refine Below.drew ?_) | (with_reducible refine below_drewN ?_ _) | (with_reducible refine Below.setCell ?_ ?_ _) | (with_reducible refine Below.frame ?_ _) | go_size)))) hl1 hx 1 _ _ _ _ _ _ _ _ _ _ _ _ _ _ _ _ _ _ _ _ _ _ _ _ _ _ _ _ _ _ _ _ _ _ _ _ _ _ _ _ _ _ _ _ _ _ _ _ _ _ _ _ _ _ _ _ _ _ _ _ _ _ _ _ _ _ _ _ _ _ _ _ _ _ _ _
          · exact (((((Blk.push (by simp)).alloc _).alloc _).alloc _).drewN nq).far (by simp; try omega) _
          · exact ((((Blk.push (by simp)).alloc _).alloc _).drewN nq).far (by simp; try omega) _
          · exact (((Blk.push (by simp)).alloc _).drewN nq).far (by simp; try omega) _
          · exact ((Blk.push (by simp)).drewN nq).set 1 _
end Go.Proofs.YthmfifcogokpoaaDoor
