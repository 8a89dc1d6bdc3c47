/- What is proved here: contracts of the program's functions and plain lemmas that the claim's last text uses, in parts: package sets: First, Apply; a map from int to pointers whose entries are known in the order in which they were laid: look-up, a new entry, a range over it; parts of the memory side by side, each with what it owns; one part turned, the rest kept. -/
import Derived.Test.YthmfifcogokpoaaDoorM15
import Derived.Maps.RangeRun
set_option linter.unusedVariables false
set_option linter.unusedSimpArgs false
namespace Go.Proofs.YthmfifcogokpoaaDoor
open Go.RowKit
attribute [local go_sem] eqlNilBytes

/-- What holds. -/
structure SetsS where
  table : Int
  push : Int
  streams : Int
  window : Int
  frame : Int
  list : Int
deriving DecidableEq
def SetsS.cells (s : SetsS) : List Value := [.int .i64 s.table, .int .i64 s.push, .int .i64 s.streams, .int .i64 s.window, .int .i64 s.frame, .int .i64 s.list]
def firstS : SetsS := ⟨4096, 1, 2147483647, 65535, 16384, 2147483647⟩
def zeroS : SetsS := ⟨0, 0, 0, 0, 0, 0⟩
def setOne (s : SetsS) (id v : Int) : SetsS :=
  if id = 1 then { s with table := min v 2147483647 } else if id = 2 then { s with push := v } else if id = 3 then { s with streams := min v 2147483647 }
  else if id = 4 then { s with window := v } else if id = 5 then { s with frame := v } else if id = 6 then { s with list := min v 2147483647 } else s
/-- sets.Apply: the settings behind it (none: fault with this code). -/
def applyS : SetsS → List (Nat × Nat) → SetsS × Fault
  | s, [] => (s, noFault)
  | s, x :: r => if wrongS x.1 x.2 ≠ 0 then (zeroS, ⟨true, true, (wrongS x.1 x.2).toNat⟩) else applyS (setOne s x.1 x.2) r

theorem setsFirst_any (w : World) : Calls Tryd.prog 22 #[] w (fun e w' => e = .returned (.agg firstS.cells.toArray) ∧ Below w.heap.size w w') := by
  go_enter Tryd.func22, Tryd.ntmps22
  go_wp2
  refine bodyPost_ret (v := .agg firstS.cells.toArray) (by simp [results, Tryd.results22, go_sem, firstS, SetsS.cells]) rfl ?_
  exact ⟨rfl, by go_grown⟩

theorem setCells_at (l : List (Nat × Nat)) (i : Nat) (h : i < l.length) : (setCells l)[i * 2]? = some (.int .i64 (l[i].1 : Int)) ∧ (setCells l)[i * 2 + 1]? = some (.int .i64 (l[i].2 : Int)) := by
  induction l generalizing i with
  | nil => simp at h
  | cons x r ih =>
    have hs : setCells (x :: r) = .int .i64 (x.1 : Int) :: .int .i64 (x.2 : Int) :: setCells r := by simp [setCells]
    cases i with
    | zero => rw [hs]; simp
    | succ k =>
      have := ih k (by simpa using h)
      rw [hs]
      rw [show (k + 1) * 2 = k * 2 + 1 + 1 from by omega]
      simpa using this

/-- What the loop knows. -/
structure ApM (w W : World) (s : SetsS) : Prop where
  s : Blk W w.heap.size 53 s.cells
  r : Blk W (w.heap.size + 1) 53 zeroS.cells
  x : Blk W (w.heap.size + 1 + 1) 84 [.bool false, .bool false, .int .i64 0]
  below : Below w.heap.size w W

theorem ApM.alloc {w W : World} {s : SetsS} (h : ApM w W s) (o : Obj) : ApM w (W.alloc o) s := ⟨h.s.alloc o, h.r.alloc o, h.x.alloc o, h.below.alloc h.below.size o⟩
theorem ApM.then {w W W' : World} {s : SetsS} (h : ApM w W s) (hb : Below W.heap.size W W') : ApM w W' s := ⟨h.s.below hb h.s.lt, h.r.below hb h.r.lt, h.x.below hb h.x.lt, bcall hb h.below⟩
theorem ApM.set {w W : World} {s s' : SetsS} (h : ApM w W s) (i : Nat) (v : Value) (hv : s.cells.set i v = s'.cells) : ApM w (W.setCell ⟨w.heap.size, i, none⟩ v) s' := ⟨hv ▸ h.s.set i v, h.r.far (by simp) v, h.x.far (by simp; omega) v, h.below.setCell (Nat.le_refl _) v⟩

set_option maxRecDepth 100000 in
set_option maxHeartbeats 1000000 in
theorem apply_any (w : World) (s : SetsS) (A : Option Addr) (c : Nat) (l : List (Nat × Nat)) (hr : Rd w 2 A l.length c (setCells l)) :
    Calls Tryd.prog 50 #[.agg s.cells.toArray, .slice A l.length c] w (fun e w' => e = .returned (.tuple #[.agg (applyS s l).1.cells.toArray, (applyS s l).2.v]) ∧ Below w.heap.size w w') := by
  have hcap : l.length ≤ 9223372036854775807 := by have h5 := hr.le; have h6 := hr.cap; simp only [maxLen] at h6; omega
  have HR := Lib.hid hr
  clear hr
  go_enter Tryd.func50, Tryd.ntmps50
  unfold SetsS.cells
  go_wp2
  go_loopw [11] (fun gv wr => ∃ (k : Nat) (s1 : SetsS), k ≤ l.length ∧ gv = .int .i64 k ∧ applyS s1 (l.drop k) = applyS s l ∧ ApM w wr s1) (fun gv _ => l.length - (intOf gv).toNat)
  case atStart => 
    refine ⟨0, s, Nat.zero_le _, rfl, rfl, ?_, ?_, ?_, by go_grown⟩
    · exact ((Blk.new w _ s.cells).alloc _).alloc _
    · exact (Blk.push (cs := zeroS.cells) (by simp)).alloc _
    · exact Blk.push (cs := [.bool false, .bool false, .int .i64 0]) (by simp)
  case round =>
    obtain ⟨k, s1, hk, rfl, hsame, hM⟩ := hrel
    have HM := Lib.hid hM
    have HSAME := Lib.hid hsame
    have fS := hM.s.frozen
    have fR := hM.r.frozen
    have fX := hM.x.frozen
    have hbel := hM.below
    clear hsame hM
    by_cases hkl : k < l.length
    · have hc : l.drop k = l[k] :: l.drop (k + 1) := List.drop_eq_getElem_cons hkl
      obtain ⟨g, o, hA, hcell⟩ := HR.out.form (by omega)
      obtain ⟨k0, k1⟩ := setCells_at l k hkl
      have d0 := hcell _ _ k0
      have d1 := hcell _ _ k1
      rw [← Nat.add_assoc] at d1
      have hg : g < w.heap.size := World.block_lt_of_cell? _ _ d0
      have d0' := (World.cell?_of_block (HM.out.below.block g hg)).trans d0
      have d1' := (World.cell?_of_block (HM.out.below.block g hg)).trans d1
      have HSAME2 := Lib.hid (show (if wrongS l[k].1 l[k].2 ≠ 0 then (zeroS, ⟨true, true, (wrongS l[k].1 l[k].2).toNat⟩) else applyS (setOne s1 l[k].1 l[k].2) (l.drop (k + 1))) = applyS s l from by rw [← HSAME.out, hc]; rfl)
      have hgr : g < wr.heap.size := Nat.lt_of_lt_of_le hg HM.out.below.size
      subst hA
      clear d0 d1 k0 k1 hcell hc HSAME
      generalize (l[k].1 : Int) = id at *
      generalize (l[k].2 : Int) = v at *
      have t1 : decide (k < l.length) = true := decide_eq_true hkl
      have j0 : (0 : Int) ≤ (k : Int) := by omega
      have j1 : (k : Int) < (l.length : Int) := by omega
      have hltS := HM.out.s.lt
      have hltR := HM.out.r.lt
      have hltX := HM.out.x.lt
      have HW := Lib.hid (fun W => wrong_any W id v)
      generalize hz : wrongS id v = z at *
      by_cases hz0 : z = 0
      · subst hz0
        have HS3 := Lib.hid (show applyS (setOne s1 id v) (l.drop (k + 1)) = applyS s l from by simpa using HSAME2.out)
        clear HSAME2 fS fR fX
        by_cases m1 : id = 1
        · subst m1
          go_wp2_with (go_at_call 62; refine (HW.out _).mono ?_; rintro e w1 ⟨rfl, hb⟩; have hzz := hb.size; have HM2 := Lib.hid ((HM.out.alloc _).then hb); have sc0 := HM2.out.s.cell 0; have sf0 := HM2.out.s.frozen 0; have sc1 := HM2.out.s.cell 1; have sf1 := HM2.out.s.frozen 1; have sc2 := HM2.out.s.cell 2; have sf2 := HM2.out.s.frozen 2; have sc3 := HM2.out.s.cell 3; have sf3 := HM2.out.s.frozen 3; have sc4 := HM2.out.s.cell 4; have sf4 := HM2.out.s.frozen 4; have sc5 := HM2.out.s.cell 5; have sf5 := HM2.out.s.frozen 5; simp only [SetsS.cells, List.getElem?_cons_succ, List.getElem?_cons_zero] at sc0 sc1 sc2 sc3 sc4 sc5; have e70 : w1.cell? ⟨wr.heap.size, 0, none⟩ = some (.int .i64 1) := (World.cell?_of_block (hb.block _ (by simp))).trans (by simp); have e71 : w1.cell? ⟨wr.heap.size, 1, none⟩ = some (.int .i64 v) := (World.cell?_of_block (hb.block _ (by simp))).trans (by simp); clear hb)
          refine ⟨⟨k + 1, setOne s1 1 v, by omega, by go_num, HS3.out, HM2.out.set 0 _ (by simp [setOne, SetsS.cells])⟩, by simp [intOf]; omega⟩
        have n1 : (id == 1) = false := beq_eq_false_iff_ne.2 m1
        by_cases m2 : id = 2
        · subst m2
          go_wp2_with (go_at_call 62; refine (HW.out _).mono ?_; rintro e w1 ⟨rfl, hb⟩; have hzz := hb.size; have HM2 := Lib.hid ((HM.out.alloc _).then hb); have sc0 := HM2.out.s.cell 0; have sf0 := HM2.out.s.frozen 0; have sc1 := HM2.out.s.cell 1; have sf1 := HM2.out.s.frozen 1; have sc2 := HM2.out.s.cell 2; have sf2 := HM2.out.s.frozen 2; have sc3 := HM2.out.s.cell 3; have sf3 := HM2.out.s.frozen 3; have sc4 := HM2.out.s.cell 4; have sf4 := HM2.out.s.frozen 4; have sc5 := HM2.out.s.cell 5; have sf5 := HM2.out.s.frozen 5; simp only [SetsS.cells, List.getElem?_cons_succ, List.getElem?_cons_zero] at sc0 sc1 sc2 sc3 sc4 sc5; have e70 : w1.cell? ⟨wr.heap.size, 0, none⟩ = some (.int .i64 2) := (World.cell?_of_block (hb.block _ (by simp))).trans (by simp); have e71 : w1.cell? ⟨wr.heap.size, 1, none⟩ = some (.int .i64 v) := (World.cell?_of_block (hb.block _ (by simp))).trans (by simp); clear hb)
          refine ⟨⟨k + 1, setOne s1 2 v, by omega, by go_num, HS3.out, HM2.out.set 1 _ (by simp [setOne, SetsS.cells])⟩, by simp [intOf]; omega⟩
        have n2 : (id == 2) = false := beq_eq_false_iff_ne.2 m2
        by_cases m3 : id = 3
        · subst m3
          go_wp2_with (go_at_call 62; refine (HW.out _).mono ?_; rintro e w1 ⟨rfl, hb⟩; have hzz := hb.size; have HM2 := Lib.hid ((HM.out.alloc _).then hb); have sc0 := HM2.out.s.cell 0; have sf0 := HM2.out.s.frozen 0; have sc1 := HM2.out.s.cell 1; have sf1 := HM2.out.s.frozen 1; have sc2 := HM2.out.s.cell 2; have sf2 := HM2.out.s.frozen 2; have sc3 := HM2.out.s.cell 3; have sf3 := HM2.out.s.frozen 3; have sc4 := HM2.out.s.cell 4; have sf4 := HM2.out.s.frozen 4; have sc5 := HM2.out.s.cell 5; have sf5 := HM2.out.s.frozen 5; simp only [SetsS.cells, List.getElem?_cons_succ, List.getElem?_cons_zero] at sc0 sc1 sc2 sc3 sc4 sc5; have e70 : w1.cell? ⟨wr.heap.size, 0, none⟩ = some (.int .i64 3) := (World.cell?_of_block (hb.block _ (by simp))).trans (by simp); have e71 : w1.cell? ⟨wr.heap.size, 1, none⟩ = some (.int .i64 v) := (World.cell?_of_block (hb.block _ (by simp))).trans (by simp); clear hb)
          refine ⟨⟨k + 1, setOne s1 3 v, by omega, by go_num, HS3.out, HM2.out.set 2 _ (by simp [setOne, SetsS.cells])⟩, by simp [intOf]; omega⟩
        have n3 : (id == 3) = false := beq_eq_false_iff_ne.2 m3
        by_cases m4 : id = 4
        · subst m4
          go_wp2_with (go_at_call 62; refine (HW.out _).mono ?_; rintro e w1 ⟨rfl, hb⟩; have hzz := hb.size; have HM2 := Lib.hid ((HM.out.alloc _).then hb); have sc0 := HM2.out.s.cell 0; have sf0 := HM2.out.s.frozen 0; have sc1 := HM2.out.s.cell 1; have sf1 := HM2.out.s.frozen 1; have sc2 := HM2.out.s.cell 2; have sf2 := HM2.out.s.frozen 2; have sc3 := HM2.out.s.cell 3; have sf3 := HM2.out.s.frozen 3; have sc4 := HM2.out.s.cell 4; have sf4 := HM2.out.s.frozen 4; have sc5 := HM2.out.s.cell 5; have sf5 := HM2.out.s.frozen 5; simp only [SetsS.cells, List.getElem?_cons_succ, List.getElem?_cons_zero] at sc0 sc1 sc2 sc3 sc4 sc5; have e70 : w1.cell? ⟨wr.heap.size, 0, none⟩ = some (.int .i64 4) := (World.cell?_of_block (hb.block _ (by simp))).trans (by simp); have e71 : w1.cell? ⟨wr.heap.size, 1, none⟩ = some (.int .i64 v) := (World.cell?_of_block (hb.block _ (by simp))).trans (by simp); clear hb)
          refine ⟨⟨k + 1, setOne s1 4 v, by omega, by go_num, HS3.out, HM2.out.set 3 _ (by simp [setOne, SetsS.cells])⟩, by simp [intOf]; omega⟩
        have n4 : (id == 4) = false := beq_eq_false_iff_ne.2 m4
        by_cases m5 : id = 5
        · subst m5
          go_wp2_with (go_at_call 62; refine (HW.out _).mono ?_; rintro e w1 ⟨rfl, hb⟩; have hzz := hb.size; have HM2 := Lib.hid ((HM.out.alloc _).then hb); have sc0 := HM2.out.s.cell 0; have sf0 := HM2.out.s.frozen 0; have sc1 := HM2.out.s.cell 1; have sf1 := HM2.out.s.frozen 1; have sc2 := HM2.out.s.cell 2; have sf2 := HM2.out.s.frozen 2; have sc3 := HM2.out.s.cell 3; have sf3 := HM2.out.s.frozen 3; have sc4 := HM2.out.s.cell 4; have sf4 := HM2.out.s.frozen 4; have sc5 := HM2.out.s.cell 5; have sf5 := HM2.out.s.frozen 5; simp only [SetsS.cells, List.getElem?_cons_succ, List.getElem?_cons_zero] at sc0 sc1 sc2 sc3 sc4 sc5; have e70 : w1.cell? ⟨wr.heap.size, 0, none⟩ = some (.int .i64 5) := (World.cell?_of_block (hb.block _ (by simp))).trans (by simp); have e71 : w1.cell? ⟨wr.heap.size, 1, none⟩ = some (.int .i64 v) := (World.cell?_of_block (hb.block _ (by simp))).trans (by simp); clear hb)
          refine ⟨⟨k + 1, setOne s1 5 v, by omega, by go_num, HS3.out, HM2.out.set 4 _ (by simp [setOne, SetsS.cells])⟩, by simp [intOf]; omega⟩
        have n5 : (id == 5) = false := beq_eq_false_iff_ne.2 m5
        by_cases m6 : id = 6
        · subst m6
          go_wp2_with (go_at_call 62; refine (HW.out _).mono ?_; rintro e w1 ⟨rfl, hb⟩; have hzz := hb.size; have HM2 := Lib.hid ((HM.out.alloc _).then hb); have sc0 := HM2.out.s.cell 0; have sf0 := HM2.out.s.frozen 0; have sc1 := HM2.out.s.cell 1; have sf1 := HM2.out.s.frozen 1; have sc2 := HM2.out.s.cell 2; have sf2 := HM2.out.s.frozen 2; have sc3 := HM2.out.s.cell 3; have sf3 := HM2.out.s.frozen 3; have sc4 := HM2.out.s.cell 4; have sf4 := HM2.out.s.frozen 4; have sc5 := HM2.out.s.cell 5; have sf5 := HM2.out.s.frozen 5; simp only [SetsS.cells, List.getElem?_cons_succ, List.getElem?_cons_zero] at sc0 sc1 sc2 sc3 sc4 sc5; have e70 : w1.cell? ⟨wr.heap.size, 0, none⟩ = some (.int .i64 6) := (World.cell?_of_block (hb.block _ (by simp))).trans (by simp); have e71 : w1.cell? ⟨wr.heap.size, 1, none⟩ = some (.int .i64 v) := (World.cell?_of_block (hb.block _ (by simp))).trans (by simp); clear hb)
          refine ⟨⟨k + 1, setOne s1 6 v, by omega, by go_num, HS3.out, HM2.out.set 5 _ (by simp [setOne, SetsS.cells])⟩, by simp [intOf]; omega⟩
        have n6 : (id == 6) = false := beq_eq_false_iff_ne.2 m6
        go_wp2_with (go_at_call 62; refine (HW.out _).mono ?_; rintro e w1 ⟨rfl, hb⟩; have hzz := hb.size; have HM2 := Lib.hid ((HM.out.alloc _).then hb); have sc0 := HM2.out.s.cell 0; have sf0 := HM2.out.s.frozen 0; have sc1 := HM2.out.s.cell 1; have sf1 := HM2.out.s.frozen 1; have sc2 := HM2.out.s.cell 2; have sf2 := HM2.out.s.frozen 2; have sc3 := HM2.out.s.cell 3; have sf3 := HM2.out.s.frozen 3; have sc4 := HM2.out.s.cell 4; have sf4 := HM2.out.s.frozen 4; have sc5 := HM2.out.s.cell 5; have sf5 := HM2.out.s.frozen 5; simp only [SetsS.cells, List.getElem?_cons_succ, List.getElem?_cons_zero] at sc0 sc1 sc2 sc3 sc4 sc5; have e70 : w1.cell? ⟨wr.heap.size, 0, none⟩ = some (.int .i64 id) := (World.cell?_of_block (hb.block _ (by simp))).trans (by simp); have e71 : w1.cell? ⟨wr.heap.size, 1, none⟩ = some (.int .i64 v) := (World.cell?_of_block (hb.block _ (by simp))).trans (by simp); clear hb)
        refine ⟨⟨k + 1, s1, by omega, by go_num, by simpa [setOne, m1, m2, m3, m4, m5, m6] using HS3.out, HM2.out⟩, by simp [intOf]; omega⟩
      · have t2 : (z != 0) = true := bne_iff_ne.2 hz0
        have hz1 : 0 ≤ z := by rw [← hz]; unfold wrongS; split <;> (try split) <;> omega
        have HS3 := Lib.hid (show (zeroS, (⟨true, true, (z.toNat : Int)⟩ : Fault)) = applyS s l from by rw [← HSAME2.out, if_pos hz0])
        clear HSAME2
        have fR0 := fR 0
        have fX0 := fX 0
        go_wp2_with (go_at_call 62; refine (HW.out _).mono ?_; rintro e w1 ⟨rfl, hb⟩; have hzz := hb.size; have HM2 := Lib.hid ((HM.out.alloc _).then hb); have rc0 := HM2.out.r.cell 0; have rf0 := HM2.out.r.frozen 0; have rc1 := HM2.out.r.cell 1; have rf1 := HM2.out.r.frozen 1; have rc2 := HM2.out.r.cell 2; have rf2 := HM2.out.r.frozen 2; have rc3 := HM2.out.r.cell 3; have rf3 := HM2.out.r.frozen 3; have rc4 := HM2.out.r.cell 4; have rf4 := HM2.out.r.frozen 4; have rc5 := HM2.out.r.cell 5; have rf5 := HM2.out.r.frozen 5; have xc0 := HM2.out.x.cell 0; have xf0 := HM2.out.x.frozen 0; have xc1 := HM2.out.x.cell 1; have xf1 := HM2.out.x.frozen 1; have xc2 := HM2.out.x.cell 2; have xf2 := HM2.out.x.frozen 2; simp only [zeroS, SetsS.cells, List.getElem?_cons_succ, List.getElem?_cons_zero] at rc0 rc1 rc2 rc3 rc4 rc5 xc0 xc1 xc2; have hbel1 := HM2.out.below; have lR := HM2.out.r.lt; have lX := HM2.out.x.lt; clear hb)
        skip
        show bodyPost Tryd.prog Tryd.f50 _ _ _ _
        refine bodyPost_ret (v := .tuple #[.agg zeroS.cells.toArray, (⟨true, true, (z.toNat : Int)⟩ : Fault).v]) (by simp [results, Tryd.results50, go_sem, zeroS, SetsS.cells, Fault.v, rc0, rc1, rc2, rc3, rc4, rc5, xc0, xc1, xc2]; omega) rfl ?_
        rw [← HS3.out]
        exact ⟨rfl, by go_grown⟩
    · have t1 : decide (k < l.length) = false := decide_eq_false hkl
      have hfin : (s1, noFault) = applyS s l := by rw [← HSAME.out, List.drop_of_length_le (by omega)]; rfl
      have HF := Lib.hid hfin
      have lR := HM.out.r.lt
      have lX := HM.out.x.lt
      have sc0 := HM.out.s.cell 0
      have sf0 := HM.out.s.frozen 0
      have sc1 := HM.out.s.cell 1
      have sf1 := HM.out.s.frozen 1
      have sc2 := HM.out.s.cell 2
      have sf2 := HM.out.s.frozen 2
      have sc3 := HM.out.s.cell 3
      have sf3 := HM.out.s.frozen 3
      have sc4 := HM.out.s.cell 4
      have sf4 := HM.out.s.frozen 4
      have sc5 := HM.out.s.cell 5
      have sf5 := HM.out.s.frozen 5
      simp only [SetsS.cells, List.getElem?_cons_succ, List.getElem?_cons_zero] at sc0 sc1 sc2 sc3 sc4 sc5
      have rc0 := HM.out.r.cell 0
      have rf0 := HM.out.r.frozen 0
      have rc1 := HM.out.r.cell 1
      have rf1 := HM.out.r.frozen 1
      have rc2 := HM.out.r.cell 2
      have rf2 := HM.out.r.frozen 2
      have rc3 := HM.out.r.cell 3
      have rf3 := HM.out.r.frozen 3
      have rc4 := HM.out.r.cell 4
      have rf4 := HM.out.r.frozen 4
      have rc5 := HM.out.r.cell 5
      have rf5 := HM.out.r.frozen 5
      have xc0 := HM.out.x.cell 0
      have xf0 := HM.out.x.frozen 0
      have xc1 := HM.out.x.cell 1
      have xf1 := HM.out.x.frozen 1
      have xc2 := HM.out.x.cell 2
      have xf2 := HM.out.x.frozen 2
      simp only [zeroS, SetsS.cells, List.getElem?_cons_succ, List.getElem?_cons_zero] at rc0 rc1 rc2 rc3 rc4 rc5 xc0 xc1 xc2
      clear fS fR fX hfin HSAME
      go_wp2
      show bodyPost Tryd.prog Tryd.f50 _ _ _ _
      refine bodyPost_ret (v := .tuple #[.agg s1.cells.toArray, noFault.v]) (by simp [results, Tryd.results50, go_sem, SetsS.cells, noFault, Fault.v, rc0, rc1, rc2, rc3, rc4, rc5, xc0, xc1, xc2]) rfl ?_
      rw [← HF.out]
      exact ⟨rfl, by go_grown⟩
end Go.Proofs.YthmfifcogokpoaaDoor
namespace Go.Proofs.YthmfifcogokpoaaDoor
open Go.RowKit
open Go.ChangeMaps (setBlock)

/-- The entries, numbered from n on. -/
def ents : Nat → List (Int × Nat) → List MapEntry
  | _, [] => []
  | n, x :: r => ⟨.int .i64 x.1, .pointer (some ⟨x.2, 0, none⟩), n⟩ :: ents (n + 1) r
/-- Block mb is the map of these. -/
def MapAt (w : World) (mb : Nat) (l : List (Int × Nat)) : Prop := w.heap[mb]? = some (.map (ents 0 l).toArray l.length)
theorem MapAt.lt {w : World} {mb : Nat} {l : List (Int × Nat)} (h : MapAt w mb l) : mb < w.heap.size := heap_lt h
theorem MapAt.keep {w w' : World} {mb : Nat} {l : List (Int × Nat)} (h : MapAt w mb l) (hk : w'.heap[mb]? = w.heap[mb]?) : MapAt w' mb l := hk.trans h
/-- The block behind a key. -/
def lookM (l : List (Int × Nat)) (k : Int) : Option Nat := (l.find? (fun x => x.1 == k)).map (·.2)
def ptrM : Option Nat → Value
  | none => .pointer none
  | some b => .pointer (some ⟨b, 0, none⟩)

theorem ents_find (k : Int) : ∀ (l : List (Int × Nat)) (n j : Nat),
    (lookM l k = none ∧ Instr.findNow (.int .i64) (.int .i64 k) (ents n l) j = some none) ∨ ∃ b i, lookM l k = some b ∧ Instr.findNow (.int .i64) (.int .i64 k) (ents n l) j = some (some (i, .pointer (some ⟨b, 0, none⟩)))
  | [], n, j => .inl ⟨rfl, rfl⟩
  | x :: r, n, j => by
    by_cases h : x.1 = k
    · refine .inr ⟨x.2, j, by simp [lookM, h], ?_⟩
      simp [ents, Instr.findNow, Instr.sameNow, h]
    · have h1 : (k == x.1) = false := beq_eq_false_iff_ne.2 (fun e => h e.symm)
      have h2 : (x.1 == k) = false := beq_eq_false_iff_ne.2 h
      have e1 : lookM (x :: r) k = lookM r k := by simp [lookM, List.find?_cons, h2]
      rcases ents_find k r (n + 1) (j + 1) with ⟨h3, h4⟩ | ⟨b, i, h3, h4⟩
      · exact .inl ⟨by rw [e1]; exact h3, by simp only [ents, Instr.findNow, Instr.sameNow, if_true, h1]; exact h4⟩
      · exact .inr ⟨b, i, by rw [e1]; exact h3, by simp only [ents, Instr.findNow, Instr.sameNow, if_true, h1]; exact h4⟩
theorem ents_snoc (x : Int × Nat) : ∀ (l : List (Int × Nat)) (n : Nat), ents n (l ++ [x]) = ents n l ++ [⟨.int .i64 x.1, .pointer (some ⟨x.2, 0, none⟩), n + l.length⟩]
  | [], n => rfl
  | y :: r, n => by simp only [List.cons_append, ents, ents_snoc x r (n + 1), List.length_cons]; rw [show n + 1 + r.length = n + (r.length + 1) from by omega]
theorem ents_mem {e : MapEntry} : ∀ {l : List (Int × Nat)} {n : Nat}, e ∈ ents n l → ∃ i, ∃ x, l[i]? = some x ∧ e = ⟨.int .i64 x.1, .pointer (some ⟨x.2, 0, none⟩), n + i⟩
  | [], _, h => by cases h
  | x :: r, n, h => by
    rcases List.mem_cons.1 h with h | h
    · exact ⟨0, x, rfl, h⟩
    · obtain ⟨i, y, h1, h2⟩ := ents_mem h
      exact ⟨i + 1, y, by simpa using h1, by rw [h2, show n + 1 + i = n + (i + 1) from by omega]⟩
theorem ents_get : ∀ (l : List (Int × Nat)) (n i : Nat) (x : Int × Nat), l[i]? = some x → (ents n l)[i]? = some ⟨.int .i64 x.1, .pointer (some ⟨x.2, 0, none⟩), n + i⟩
  | [], _, _, _, h => by simp at h
  | y :: r, n, 0, x, h => by simp at h; simp [ents, h]
  | y :: r, n, i + 1, x, h => by
    have h1 := ents_get r (n + 1) i x (by simpa using h)
    rw [show n + 1 + i = n + (i + 1) from by omega] at h1
    simpa [ents] using h1
theorem ents_length : ∀ (l : List (Int × Nat)) (n : Nat), (ents n l).length = l.length
  | [], _ => rfl
  | _ :: r, n => by simp [ents, ents_length r (n + 1)]
theorem ents_born : ∀ (l : List (Int × Nat)) (n : Nat), (ents n l).map (·.born) = List.range' n l.length
  | [], _ => rfl
  | _ :: r, n => by simp [ents, ents_born r (n + 1), List.range'_succ]

theorem run_look (W : World) (mb : Nat) (l : List (Int × Nat)) (h : MapAt W mb l) (k : Int) :
    (Instr.lookup 51 (.map (some mb)) (.int .i64 k) false).run Tryd.prog W = .ok (ptrM (lookM l k)) W := by
  have ht : Tryd.prog.underlying 51 = some (.map 3 68) := by kernel_rfl
  have hk : Tryd.prog.underlying 3 = some (.int .i64) := by kernel_rfl
  have hz : (zeroValue 68).run Tryd.prog W = .ok (.pointer none) W := by kernel_rfl
  have hc : ∀ b, (Instr.checkKey b 10000 3 (.int .i64 k)).run Tryd.prog W = .ok () W := fun b => MapKept.run_checkKey (k := .int .i64 k) hk (by simp [MapKept.IsKey]) b 9999
  rcases ents_find k l 0 0 with ⟨h1, h2⟩ | ⟨b, i, h1, h2⟩
  · simp [Instr.lookup, run_underlying ht, MapKept.run_getObj_map h, hc, MapKept.run_findKey hk h2, Result.andThen, hz, h1, ptrM]
  · simp [Instr.lookup, run_underlying ht, MapKept.run_getObj_map h, hc, MapKept.run_findKey hk h2, Result.andThen, h1, ptrM]

theorem run_lay (W : World) (mb : Nat) (l : List (Int × Nat)) (h : MapAt W mb l) (k : Int) (b : Nat) (hn : lookM l k = none) :
    (Instr.mapUpdate 51 (.map (some mb)) (.int .i64 k) (.pointer (some ⟨b, 0, none⟩))).run Tryd.prog W = .ok () (setBlock W mb (.map (ents 0 (l ++ [(k, b)])).toArray (l ++ [(k, b)]).length)) := by
  have ht : Tryd.prog.underlying 51 = some (.map 3 68) := by kernel_rfl
  have hk : Tryd.prog.underlying 3 = some (.int .i64) := by kernel_rfl
  have hc : ∀ b, (Instr.checkKey b 10000 3 (.int .i64 k)).run Tryd.prog W = .ok () W := fun b => MapKept.run_checkKey (k := .int .i64 k) hk (by simp [MapKept.IsKey]) b 9999
  rcases ents_find k l 0 0 with ⟨h1, h2⟩ | ⟨b, i, h1, h2⟩
  · simp [Instr.mapUpdate, run_underlying ht, MapKept.run_getObj_map h, hc, MapKept.run_findKey hk h2, Result.andThen, MapKept.run_setObj_map _ h, ents_snoc, setBlock]
  · rw [hn] at h1; cases h1
theorem MapAt.laid {W : World} {mb : Nat} {l : List (Int × Nat)} (h : MapAt W mb l) (l' : List (Int × Nat)) : MapAt (setBlock W mb (.map (ents 0 l').toArray l'.length)) mb l' := by
  simp [MapAt, setBlock, h.lt]
theorem run_range (W : World) (mb : Nat) (l : List (Int × Nat)) (h : MapAt W mb l) :
    (Instr.range 51 (.map (some mb))).run Tryd.prog W = .ok (.pointer (some ⟨W.heap.size, 0, none⟩)) (W.alloc (.mapIter (some mb) l.length #[] l.length)) :=
  run_range_map W _ 3 68 mb _ _ (by kernel_rfl) h

/-- A range over it under way: the numbers of those that have come. -/
def RangeAt (w : World) (rb mb : Nat) (l : List (Int × Nat)) (seen : Array Nat) : Prop := w.heap[rb]? = some (.mapIter (some mb) l.length seen l.length)
def leftM (l : List (Int × Nat)) (seen : Array Nat) : Nat := (leftOf (ents 0 l).toArray seen).size
theorem run_next (W : World) (rb mb : Nat) (l : List (Int × Nat)) (seen : Array Nat) (h : MapAt W mb l) (hr : RangeAt W rb mb l seen) (ty : TypeId) :
    ((∀ i, i < l.length → seen.contains i = true) ∧ (Instr.next (.pointer (some ⟨rb, 0, none⟩)) false ty).run Tryd.prog W = .ok (.tuple #[.bool false]) W) ∨
    ∃ i x W1, l[i]? = some x ∧ seen.contains i = false ∧ (W1 = W ∨ W1 = W.drew) ∧ (Instr.next (.pointer (some ⟨rb, 0, none⟩)) false ty).run Tryd.prog W = .ok (.tuple #[.bool true, .int .i64 x.1, .pointer (some ⟨x.2, 0, none⟩)]) (setBlock W1 rb (.mapIter (some mb) l.length (seen.push i) l.length)) ∧
      leftM l (seen.push i) < leftM l seen ∧ ∀ W2, MapAt W2 mb l → RangeAt W2 rb mb l (seen.push i) → (Instr.entry (.pointer (some ⟨rb, 0, none⟩))).run Tryd.prog W2 = .ok (.tuple #[.int .i64 x.1, .pointer (some ⟨x.2, 0, none⟩)]) W2 := by
  have hold : ∀ x ∈ (ents 0 l).toArray.toList, x.born < l.length := fun x hx => by
    obtain ⟨i, y, h1, rfl⟩ := ents_mem (by simpa using hx)
    have := (List.getElem?_eq_some_iff.1 h1).1
    simpa using this
  rcases run_next_at (P := Tryd.prog) W ty rb mb l.length l.length seen (ents 0 l).toArray l.length hr h hold (Nat.le_refl _) with ⟨h0, hrun⟩ | ⟨e, he, W1, hal, hrun⟩
  · refine .inl ⟨fun i hi => ?_, hrun⟩
    have h1 := ents_get l 0 i l[i] (by simp [hi])
    have h2 := all_seen _ seen h0 _ (by simpa using List.mem_of_getElem? h1)
    simpa using h2
  · obtain ⟨hem, hes⟩ := mem_left he
    obtain ⟨i, x, h1, rfl⟩ := ents_mem (by simpa using hem)
    simp only [Nat.zero_add] at *
    refine .inr ⟨i, x, W1, h1, hes, hal, hrun, left_shrinks _ seen _ he, fun W2 h2 h3 => ?_⟩
    exact run_entry_at W2 rb mb l.length seen _ l.length ⟨.int .i64 x.1, .pointer (some ⟨x.2, 0, none⟩), i⟩ h3 h2 hem (by simp only [ents_born]; exact List.nodup_range')
end Go.Proofs.YthmfifcogokpoaaDoor
namespace Go.Proofs.YthmfifcogokpoaaDoor
open Go.RowKit
open Go.ChangeMaps (setBlock)

/-- A statement about blocks that it owns. -/
structure Part where
  p : World → Own → Prop
  keep : ∀ {w w' : World} {S : Own}, p w S → (∀ k, S k → w'.heap[k]? = w.heap[k]?) → p w' S
  lt : ∀ {w : World} {S : Own}, p w S → ∀ k, S k → k < w.heap.size

/-- Side by side. -/
def StarL : List Part → World → Own → Prop
  | [], _, S => ∀ k, ¬ S k
  | p :: r, w, S => ∃ S1 S2, p.p w S1 ∧ StarL r w S2 ∧ Apart S1 S2 ∧ ∀ k, S k ↔ S1 k ∨ S2 k

theorem StarL.keep : ∀ {ps : List Part} {w w' : World} {S : Own}, StarL ps w S → (∀ k, S k → w'.heap[k]? = w.heap[k]?) → StarL ps w' S
  | [], _, _, _, h, _ => h
  | p :: r, _, _, _, h, hk => by
    obtain ⟨S1, S2, h1, h2, h3, h4⟩ := h
    exact ⟨S1, S2, p.keep h1 (fun k hs => hk k ((h4 k).2 (.inl hs))), StarL.keep h2 (fun k hs => hk k ((h4 k).2 (.inr hs))), h3, h4⟩
theorem StarL.lt : ∀ {ps : List Part} {w : World} {S : Own}, StarL ps w S → ∀ k, S k → k < w.heap.size
  | [], _, _, h, k, hs => (h k hs).elim
  | p :: r, _, _, h, k, hs => by
    obtain ⟨S1, S2, h1, h2, h3, h4⟩ := h
    rcases (h4 k).1 hs with h5 | h5
    · exact p.lt h1 k h5
    · exact StarL.lt h2 k h5
theorem StarL.below {ps : List Part} {w w' : World} {S : Own} (h : StarL ps w S) (hb : Below w.heap.size w w') : StarL ps w' S := h.keep fun k hk => hb.block k (h.lt k hk)
theorem StarL.alloc {ps : List Part} {w : World} {S : Own} (h : StarL ps w S) (o : Obj) : StarL ps (w.alloc o) S := h.below ((Below.refl _ _).alloc (Nat.le_refl _) o)
theorem StarL.upd {ps : List Part} {w w' : World} {S T T' : Own} (h : StarL ps w S) (hu : Upd T T' w w') (ha : Apart S T) : StarL ps w' S := h.keep fun k hk => hu.block k (h.lt k hk) (ha k hk)
theorem StarL.iff : ∀ {ps : List Part} {w : World} {S S' : Own}, StarL ps w S → (∀ k, S k ↔ S' k) → StarL ps w S'
  | [], _, _, _, h, hs => fun k hk => h k ((hs k).2 hk)
  | p :: r, _, _, _, h, hs => by
    obtain ⟨S1, S2, h1, h2, h3, h4⟩ := h
    exact ⟨S1, S2, h1, h2, h3, fun k => (hs k).symm.trans (h4 k)⟩

theorem StarL.split : ∀ {ps : List Part} {w : World} {S : Own} {i : Nat} {p : Part}, StarL ps w S → ps[i]? = some p →
    ∃ S1 R, p.p w S1 ∧ Apart S1 R ∧ (∀ k, S k ↔ S1 k ∨ R k) ∧ (∀ k, R k → k < w.heap.size) ∧
      ∀ (w' : World) (S1' : Own) (p' : Part), p'.p w' S1' → Apart S1' R → (∀ k, R k → w'.heap[k]? = w.heap[k]?) → StarL (ps.set i p') w' (or_ S1' R)
  | [], _, _, _, _, _, hi => by simp at hi
  | q :: r, w, S, 0, p, h, hi => by
    simp only [List.getElem?_cons_zero, Option.some.injEq] at hi
    subst hi
    obtain ⟨S1, S2, h1, h2, h3, h4⟩ := h
    exact ⟨S1, S2, h1, h3, h4, h2.lt, fun w' S1' p' hp ha hk => ⟨S1', S2, hp, h2.keep hk, ha, fun k => Iff.rfl⟩⟩
  | q :: r, w, S, i + 1, p, h, hi => by
    obtain ⟨S1, S2, h1, h2, h3, h4⟩ := h
    obtain ⟨T, R, g1, g2, g3, g4, g5⟩ := StarL.split h2 (by simpa using hi)
    refine ⟨T, fun k => S1 k ∨ R k, g1, fun k ht hr => ?_, fun k => ⟨fun hs => ?_, fun hs => ?_⟩, fun k hk => hk.elim (q.lt h1 k) (g4 k), fun w' S1' p' hp ha hk => ?_⟩
    · rcases hr with hr | hr
      · exact h3 k hr ((g3 k).2 (.inl ht))
      · exact g2 k ht hr
    · rcases (h4 k).1 hs with h5 | h5
      · exact .inr (.inl h5)
      · rcases (g3 k).1 h5 with h6 | h6
        · exact .inl h6
        · exact .inr (.inr h6)
    · rcases hs with hs | hs | hs
      · exact (h4 k).2 (.inr ((g3 k).2 (.inl hs)))
      · exact (h4 k).2 (.inl hs)
      · exact (h4 k).2 (.inr ((g3 k).2 (.inr hs)))
    · refine ⟨S1, or_ S1' R, q.keep h1 (fun k hs => hk k (.inl hs)), g5 w' S1' p' hp (fun k ht hr => ha k ht (.inr hr)) (fun k hr => hk k (.inr hr)), fun k hs ht => ?_, fun k => ⟨fun hs => ?_, fun hs => ?_⟩⟩
      · rcases ht with ht | ht
        · exact ha k ht (.inl hs)
        · exact h3 k hs ((g3 k).2 (.inr ht))
      · rcases hs with hs | hs | hs
        · exact .inr (.inl hs)
        · exact .inl hs
        · exact .inr (.inr hs)
      · rcases hs with hs | hs | hs
        · exact .inr (.inl hs)
        · exact .inl hs
        · exact .inr (.inr hs)
/-- One part, and what is to be shown of it to have all again. -/
theorem StarL.focus {ps : List Part} {w : World} {S : Own} (i : Nat) {p : Part} (h : StarL ps w S) (hi : ps[i]? = some p) :
    ∃ S1, p.p w S1 ∧ (∀ k, S1 k → S k) ∧ ∀ (w' : World) (S1' : Own) (p' : Part), p'.p w' S1' → Upd S1 S1' w w' → ∃ S', StarL (ps.set i p') w' S' ∧ Upd S S' w w' := by
  obtain ⟨S1, R, h1, h2, h3, h4, h5⟩ := h.split hi
  refine ⟨S1, h1, fun k hk => (h3 k).2 (.inl hk), fun w' S1' p' hp hu => ?_⟩
  have ha : Apart S1' R := hu.apart h2 h4
  refine ⟨or_ S1' R, h5 w' S1' p' hp ha (fun k hk => hu.block k (h4 k hk) (fun hs => h2 k hs hk)), (hu.wider (R := S) (fun k hk => (h3 k).2 (.inl hk))).holds fun k hk => ?_⟩
  rcases hk with hk | hk
  · exact (hu.own k hk).imp (fun h => (h3 k).2 (.inl h)) id
  · exact .inl ((h3 k).2 (.inr hk))
/-- One more at the end. -/
theorem StarL.push : ∀ {ps : List Part} {w : World} {S T : Own} {p : Part}, StarL ps w S → p.p w T → Apart S T → StarL (ps ++ [p]) w (or_ S T)
  | [], w, S, T, p, h, hp, ha => ⟨T, fun _ => False, hp, fun _ h => h, fun _ _ h => h, fun k => ⟨fun hs => hs.elim (fun h1 => (h k h1).elim) .inl, fun hs => hs.elim .inr False.elim⟩⟩
  | q :: r, w, S, T, p, h, hp, ha => by
    obtain ⟨S1, S2, h1, h2, h3, h4⟩ := h
    refine ⟨S1, or_ S2 T, h1, StarL.push h2 hp (fun k hs ht => ha k ((h4 k).2 (.inr hs)) ht), fun k hs ht => ?_, fun k => ⟨fun hs => ?_, fun hs => ?_⟩⟩
    · rcases ht with ht | ht
      · exact h3 k hs ht
      · exact ha k ((h4 k).2 (.inl hs)) ht
    · rcases hs with hs | hs
      · rcases (h4 k).1 hs with h5 | h5
        · exact .inl h5
        · exact .inr (.inl h5)
      · exact .inr (.inr hs)
    · rcases hs with hs | hs | hs
      · exact .inl ((h4 k).2 (.inl hs))
      · exact .inl ((h4 k).2 (.inr hs))
      · exact .inr hs

/-- Parts as one part. -/
def starP (ps : List Part) : Part := ⟨StarL ps, StarL.keep, StarL.lt⟩
def blkP (b : Nat) (t : TypeId) (cs : List Value) : Part where
  p w S := Blk w b t cs ∧ ∀ k, S k ↔ k = b
  keep h hk := ⟨h.1.keep (hk b ((h.2 b).2 rfl)), h.2⟩
  lt h k hk := by rw [(h.2 k).1 hk]; exact h.1.lt
theorem blkP_set {w : World} {b : Nat} {t : TypeId} {cs : List Value} {S : Own} (h : (blkP b t cs).p w S) (i : Nat) (v : Value) : (blkP b t (cs.set i v)).p (w.setCell ⟨b, i, none⟩ v) S ∧ Upd S S w (w.setCell ⟨b, i, none⟩ v) :=
  ⟨⟨h.1.set i v, h.2⟩, (Upd.refl S w).setCell (.inl ((h.2 b).2 rfl)) v⟩
def parP (b : Nat) (room : Int) (l : List UInt8) : Part := ⟨fun w S => ParserAt w b room l S, ParserAt.loc, ParserAt.lt⟩
def mapP (mb : Nat) (l : List (Int × Nat)) : Part where
  p w S := MapAt w mb l ∧ ∀ k, S k ↔ k = mb
  keep h hk := ⟨h.1.keep (hk mb ((h.2 mb).2 rfl)), h.2⟩
  lt h k hk := by rw [(h.2 k).1 hk]; exact h.1.lt
def rowP (e : TypeId) (size : Nat) (A : Option Addr) (n c : Nat) (xs : List Value) : Part := ⟨fun w S => Row e size A n c xs S w, Row.loc, Row.lt⟩
/-- Blocks of which nothing is known. -/
def junkP : Part := ⟨fun w S => ∀ k, S k → k < w.heap.size, fun h hk k hs => by
  have h1 := hk k hs
  have h2 := h k hs
  rw [Array.getElem?_eq_getElem h2] at h1
  exact heap_lt h1, fun h => h⟩
def decP (dead : Bool) (db : Nat) (tab : List FieldS) (most : Int) : Part := if dead then junkP else ⟨fun w S => DecAt w db tab most S, DecAt.loc, DecAt.lt⟩
end Go.Proofs.YthmfifcogokpoaaDoor
