/- What is proved here: contracts of the program's functions and plain lemmas that the claim's last text uses, in parts: the statement's frames: the bytes of frames, one behind the other; the reference's Settings (of none), Update, Rst, Goaway; the plain laws under the statements: frames that are written are read again; the blocks 0x88 and 0x80; the plain laws under the statements: frames that are written are read again; a Watch as the statements use it; the statement's first; the statement's first answers true. -/
import Derived.Test.YthmfifcogokpoaaDoorM28
import Derived.Deep.LoopGhost
import Derived.Test.YthmfifcogokpoaaDoorM26
set_option linter.unusedVariables false
set_option linter.unusedSimpArgs false
namespace Go.Proofs.YthmfifcogokpoaaDoor
open Go.RowKit

/-- Frames, each with where its body lies. -/
abbrev FrL := List (FrameS × Option Addr × Nat)
def frCells (l : FrL) : List Value := l.flatMap fun x => [.int .i64 x.1.kind, .int .i64 x.1.flags, .int .i64 x.1.stream, .slice x.2.1 x.1.body.length x.2.2]
def allB (l : List FrameS) : List UInt8 := l.flatMap putB
theorem frCells_at (l : FrL) (i : Nat) (h : i < l.length) : (frCells l)[i * 4]? = some (.int .i64 l[i].1.kind) ∧ (frCells l)[i * 4 + 1]? = some (.int .i64 l[i].1.flags) ∧ (frCells l)[i * 4 + 2]? = some (.int .i64 l[i].1.stream) ∧ (frCells l)[i * 4 + 3]? = some (.slice l[i].2.1 l[i].1.body.length l[i].2.2) := by
  induction l generalizing i with
  | nil => simp at h
  | cons x r ih =>
    have hs : frCells (x :: r) = .int .i64 x.1.kind :: .int .i64 x.1.flags :: .int .i64 x.1.stream :: .slice x.2.1 x.1.body.length x.2.2 :: frCells r := by simp [frCells]
    cases i with
    | zero => rw [hs]; simp
    | succ k =>
      have := ih k (by simpa using h)
      rw [hs]
      rw [show (k + 1) * 4 = k * 4 + 1 + 1 + 1 + 1 from by omega]
      simpa using this
theorem frCells_length (l : FrL) : (frCells l).length = l.length * 4 := by
  induction l with
  | nil => rfl
  | cons x r ih => simp [frCells] at *; omega
theorem allB_cons (f : FrameS) (l : List FrameS) : allB (f :: l) = putB f ++ allB l := rfl
theorem putB_length (f : FrameS) : (putB f).length = f.body.length + 9 := by simp [putB, numB_length]; omega

set_option maxRecDepth 100000 in
set_option maxHeartbeats 1000000 in
theorem frames_law (l : FrL) (A : Option Addr) (c : Nat) (w : World) (hr : Rd w 4 A l.length c (frCells l)) (hf : ∀ x ∈ l, x.1.Fits ∧ Rd w 1 x.2.1 x.1.body.length x.2.2 (bys x.1.body) ∧ ∀ k, blockOf x.2.1 = some k → k < w.heap.size)
    (htot : (allB (l.map (·.1))).length ≤ 1000000000) :
    Calls Tryd.prog 10 #[.slice A l.length c] w (OwnSlice w (allB (l.map (·.1)))) := by
  have hcap : l.length ≤ 9223372036854775807 := by have h5 := hr.le; have h6 := hr.cap; simp only [maxLen] at h6; omega
  have HR := Lib.hid hr
  have HF := Lib.hid hf
  have HT := Lib.hid htot
  clear hr hf htot
  go_enter Tryd.func10, Tryd.ntmps10
  go_wp2
  go_loopw [3, 4] (fun o i wr => ∃ (k : Nat) (d : List UInt8) (A1 : Option Addr) (c1 : Nat) (S : Own), k ≤ l.length ∧ i = .int .i64 k ∧ o = .slice A1 d.length c1 ∧ d ++ allB ((l.drop k).map (·.1)) = allB (l.map (·.1)) ∧ Row 5 1 A1 d.length c1 (bys d) S wr ∧ Upd none_ S w wr) (fun _ i _ => l.length - (intOf i).toNat)
  case atStart => exact ⟨0, [], none, 0, none_, Nat.zero_le _, rfl, rfl, rfl, Row.nil _ _ _, Upd.refl _ _⟩
  case round =>
    obtain ⟨k, d, A1, c1, S, hk, rfl, rfl, hsum, hrow, hu⟩ := hrel
    have HSUM := Lib.hid hsum
    have HROW := Lib.hid hrow
    have HU := Lib.hid hu
    clear hsum hrow hu
    by_cases hkl : k < l.length
    · have hc : l.drop k = l[k] :: l.drop (k + 1) := List.drop_eq_getElem_cons hkl
      obtain ⟨g, o, hA, hcell⟩ := HR.out.form (by omega)
      obtain ⟨k0, k1, k2, k3⟩ := frCells_at l k hkl
      have d0 := hcell _ _ k0
      have d1 := hcell _ _ k1
      have d2 := hcell _ _ k2
      have d3 := hcell _ _ k3
      have hg : g < w.heap.size := World.block_lt_of_cell? _ _ d0
      have hold : ∀ q, wr.cell? ⟨g, q, none⟩ = w.cell? ⟨g, q, none⟩ := fun q => HU.out.cell (a := ⟨g, q, none⟩) hg (fun h => h)
      rw [← hold, ← Nat.add_assoc] at d1 d2 d3
      rw [← hold] at d0
      subst hA
      obtain ⟨hfit, hrd, hblk⟩ := HF.out _ (List.getElem_mem hkl)
      have hsum2 : (d ++ putB l[k].1) ++ allB ((l.drop (k + 1)).map (·.1)) = allB (l.map (·.1)) := by
        rw [← HSUM.out, hc, List.map_cons, allB_cons, List.append_assoc]
      have htot2 : d.length + (putB l[k].1).length ≤ 1000000000 := by
        have h1 := HT.out
        rw [← hsum2] at h1
        simp only [List.length_append] at h1
        omega
      have HSUM2 := Lib.hid hsum2
      have HP := Lib.hid (refPut_any l[k].1 hfit l[k].2.1 l[k].2.2 wr (hrd.upd HU.out fun k hk => ⟨hblk k hk, fun h => h⟩) (fun k hk => Nat.lt_of_lt_of_le (hblk k hk) HU.out.size))
      have h63 : d.length + (putB l[k].1).length ≤ maxLen := by simp only [maxLen]; omega
      have hbb : (d.length + (putB l[k].1).length) * 1 ≤ big := by simp only [big]; omega
      clear k0 k1 k2 k3 hcell hc HSUM hold hfit hrd hblk hsum2 htot2
      unfold FrameS.v PutQ at HP
      generalize l[k].1 = f at *
      generalize l[k].2.1 = fA at *
      generalize l[k].2.2 = fc at *
      have t1 : decide (k < l.length) = true := decide_eq_true hkl
      have j0 : (0 : Int) ≤ (k : Int) := by omega
      have j1 : (k : Int) < (l.length : Int) := by omega
      generalize putB f = pb at *
      go_wp2_with (first | (go_at_call 20; refine HP.out.mono ?_; rintro e w1 ⟨A2, c2, S2, rfl, hr2, hu2⟩; have HR2 := Lib.hid hr2; have HU2 := Lib.hid hu2; clear hr2 hu2) | (at_builtin; refine wpList_append (by rfl) _ _ _ _ (by rfl) 5 1 1 tyBytes tyBytes.src A1 d.length c1 (bys d) S (.slice A2 pb.length c2) pb.length (bys pb) (by rfl) (by rfl) (HROW.out.loc fun k hk => HU2.out.block k (HROW.out.lt k hk) (fun h => h)) (Src.of_rd HR2.out.rd (bys_one _)) h63 hbb ?_; intro A' c' w' S' hr3 hu3 ha3; clear ha3))
      go_roundw
      case rel =>
        refine ⟨k + 1, d ++ pb, A', c', S', by omega, by go_num, by simp, HSUM2.out, ?_, ?_⟩
        · rw [bys_append, List.length_append]; exact hr3
        · exact ((HU.out.trans (HU2.out.wider (R := S) (fun _ h => h.elim) |>.holds fun k hk => .inl hk)).trans hu3)
      case measure => simp [intOf]; omega
    · have t1 : decide (k < l.length) = false := decide_eq_false hkl
      have h1 : d = allB (l.map (·.1)) := by
        have := HSUM.out
        rw [List.drop_of_length_le (by omega)] at this
        simpa [allB] using this
      have H1 := Lib.hid h1
      clear h1
      go_wp2
      go_ret
      rw [← H1.out]
      exact ⟨A1, c1, S, rfl, HROW.out, HU.out⟩
end Go.Proofs.YthmfifcogokpoaaDoor
namespace Go.Proofs.YthmfifcogokpoaaDoor
open Go.RowKit

/-- A frame comes back. -/
def FrQ (f : FrameS) (w : World) (e : Ending) (w' : World) : Prop := ∃ A c S, e = .returned (f.v A c) ∧ Row 5 1 A f.body.length c (bys f.body) S w' ∧ Upd none_ S w w'

/-- The result's cells are laid. -/
theorem FrQ.laid {w w1 : World} {o : Obj} {f : FrameS} {A1 : Option Addr} {c1 : Nat} {S1 : Own} (hr : Row 5 1 A1 f.body.length c1 (bys f.body) S1 w1) (hu : Upd none_ S1 (w.alloc o) w1) (v0 v1 v2 v3 : Value) :
    FrQ f w (.returned (f.v A1 c1)) ((((w1.setCell ⟨w.heap.size, 0, none⟩ v0).setCell ⟨w.heap.size, 1, none⟩ v1).setCell ⟨w.heap.size, 2, none⟩ v2).setCell ⟨w.heap.size, 3, none⟩ v3) := by
  have ho : ∀ k, S1 k → k ≠ w.heap.size := fun k hk => by
    rcases hu.own k hk with h | h
    · exact h.elim
    · simp at h; omega
  refine ⟨A1, c1, S1, rfl, hr.loc fun k hk => ?_, ?_⟩
  · rw [heap_set_other _ (ho k hk), heap_set_other _ (ho k hk), heap_set_other _ (ho k hk), heap_set_other _ (ho k hk)]
  · exact (((((((Upd.refl none_ w).alloc o).trans hu).setCell (.inr (Nat.le_refl _)) v0).setCell (.inr (Nat.le_refl _)) v1).setCell (.inr (Nat.le_refl _)) v2).setCell (.inr (Nat.le_refl _)) v3)

set_option maxRecDepth 100000 in
theorem refSettings_yes (w : World) :
    Calls Tryd.prog 11 #[.slice none 0 0, .bool true] w (FrQ ⟨4, 1, 0, []⟩ w) := by
  go_enter Tryd.func11, Tryd.ntmps11
  go_wp2
  go_loopw [6] (fun i wr => i = .int .i64 0 ∧ Below w.heap.size w wr ∧ w.heap.size + 1 < wr.heap.size ∧ Blk wr w.heap.size 29 [.int .i64 0, .int .i64 0, .int .i64 0, .slice none 0 0] ∧ Blk wr (w.heap.size + 1) 29 [.int .i64 4, .int .i64 1, .int .i64 0, .slice none 0 0]) (fun _ _ => 0)
  case atStart =>
    refine ⟨rfl, by (focus repeat' (first | (with_reducible exact Below.refl _ _) | (with_reducible assumption) | (with_reducible refine Below.alloc ?_ ?_ _) | (with_reducible refine Below.drew ?_) | (with_reducible refine below_drewN ?_ _) | (with_reducible refine Below.setCell ?_ ?_ _) | (with_reducible refine Below.frame ?_ _) | go_size)), by simp [World.setCell], ?_, ?_⟩
    · exact (Blk.new w 29 [.int .i64 0, .int .i64 0, .int .i64 0, .slice none 0 0]).alloc _
    · exact Blk.push (cs := [.int .i64 4, .int .i64 1, .int .i64 0, .slice none 0 0]) (by simp)
  case round =>
    obtain ⟨rfl, hb, hz, b0, b1⟩ := hrel
    have c0 := b0.cells
    have c1 := b1.cells
    simp only [Cells, Nat.zero_add, Nat.reduceAdd] at c0 c1
    have HB := Lib.hid hb
    clear b0 b1 hb
    go_wp2
    refine bodyPost_ret (v := (⟨4, 1, 0, []⟩ : FrameS).v none 0) (by simp [results, Tryd.results11, go_sem, FrameS.v, c0, c1]) rfl ?_
    refine ⟨none, 0, none_, rfl, Row.nil _ _ _, Upd.of_below ?_ fun k h => h.elim⟩
    have hb := HB.out
    (focus repeat' (first | (with_reducible exact Below.refl _ _) | (with_reducible assumption) | (with_reducible refine Below.alloc ?_ ?_ _) | (with_reducible refine Below.drew ?_) | (with_reducible refine below_drewN ?_ _) | (with_reducible refine Below.setCell ?_ ?_ _) | (with_reducible refine Below.frame ?_ _) | go_size))

set_option maxRecDepth 100000 in
theorem refSettings_no (w : World) :
    Calls Tryd.prog 11 #[.slice none 0 0, .bool false] w (FrQ ⟨4, 0, 0, []⟩ w) := by
  go_enter Tryd.func11, Tryd.ntmps11
  go_wp2
  go_loopw [6] (fun i wr => i = .int .i64 0 ∧ Below w.heap.size w wr ∧ w.heap.size + 1 < wr.heap.size ∧ Blk wr w.heap.size 29 [.int .i64 0, .int .i64 0, .int .i64 0, .slice none 0 0] ∧ Blk wr (w.heap.size + 1) 29 [.int .i64 4, .int .i64 0, .int .i64 0, .slice none 0 0]) (fun _ _ => 0)
  case atStart =>
    refine ⟨rfl, by (focus repeat' (first | (with_reducible exact Below.refl _ _) | (with_reducible assumption) | (with_reducible refine Below.alloc ?_ ?_ _) | (with_reducible refine Below.drew ?_) | (with_reducible refine below_drewN ?_ _) | (with_reducible refine Below.setCell ?_ ?_ _) | (with_reducible refine Below.frame ?_ _) | go_size)), by simp [World.setCell], ?_, ?_⟩
    · exact (Blk.new w 29 [.int .i64 0, .int .i64 0, .int .i64 0, .slice none 0 0]).alloc _
    · exact Blk.push (cs := [.int .i64 4, .int .i64 0, .int .i64 0, .slice none 0 0]) (by simp)
  case round =>
    obtain ⟨rfl, hb, hz, b0, b1⟩ := hrel
    have c0 := b0.cells
    have c1 := b1.cells
    simp only [Cells, Nat.zero_add, Nat.reduceAdd] at c0 c1
    have HB := Lib.hid hb
    clear b0 b1 hb
    go_wp2
    refine bodyPost_ret (v := (⟨4, 0, 0, []⟩ : FrameS).v none 0) (by simp [results, Tryd.results11, go_sem, FrameS.v, c0, c1]) rfl ?_
    refine ⟨none, 0, none_, rfl, Row.nil _ _ _, Upd.of_below ?_ fun k h => h.elim⟩
    have hb := HB.out
    (focus repeat' (first | (with_reducible exact Below.refl _ _) | (with_reducible assumption) | (with_reducible refine Below.alloc ?_ ?_ _) | (with_reducible refine Below.drew ?_) | (with_reducible refine below_drewN ?_ _) | (with_reducible refine Below.setCell ?_ ?_ _) | (with_reducible refine Below.frame ?_ _) | go_size))

set_option maxRecDepth 100000 in
theorem refUpdate_any (n step : Nat) (hn : n ≤ 2147483647) (hs : step ≤ 2147483647) (w : World) :
    Calls Tryd.prog 16 #[.int .i64 n, .int .i64 step] w (FrQ ⟨8, 0, n, numB step 4⟩ w) := by
  have HNUM := Lib.hid (fun W1 => refNum_any step 4 (by omega) (by omega) W1)
  have hx : step &&& 2147483647 = step := by rw [show 2147483647 = 2 ^ 31 - 1 from rfl, Nat.and_two_pow_sub_one_eq_mod]; omega
  have ha : Go.bits .and .i64 (step : Int) 2147483647 = (step : Int) := by
    have := i64_and_nat step 2147483647 (by omega) (by decide)
    rw [hx] at this
    exact this
  clear hx
  rw [numB_length] at HNUM
  go_enter Tryd.func16, Tryd.ntmps16
  go_wp2_with (go_at_call 27; refine (HNUM.out _).mono ?_; rintro e w1 ⟨A1, c1, S1, rfl, hr1, hu1⟩; have HR1 := Lib.hid hr1; have HU1 := Lib.hid hu1; clear hr1; have hb := hu1.below (fun _ h => h.elim) (Nat.le_refl _); obtain ⟨hc1, hf1⟩ := bcell hb; have hz := hb.size; clear hu1 hb)
  refine bodyPost_ret (v := (⟨8, 0, n, numB step 4⟩ : FrameS).v A1 c1) (by (simp [results, Tryd.results16, go_sem, FrameS.v, hc1, hz, numB_length]; try omega)) rfl ?_
  exact FrQ.laid (f := ⟨8, 0, n, numB step 4⟩) (by rw [numB_length]; exact HR1.out) HU1.out _ _ _ _

set_option maxRecDepth 100000 in
theorem refRst_any (n code : Nat) (hn : n ≤ 2147483647) (hs : code ≤ 2147483647) (w : World) :
    Calls Tryd.prog 15 #[.int .i64 n, .int .i64 code] w (FrQ ⟨3, 0, n, numB code 4⟩ w) := by
  have HNUM := Lib.hid (fun W1 => refNum_any code 4 (by omega) (by omega) W1)
  rw [numB_length] at HNUM
  go_enter Tryd.func15, Tryd.ntmps15
  go_wp2_with (go_at_call 27; refine (HNUM.out _).mono ?_; rintro e w1 ⟨A1, c1, S1, rfl, hr1, hu1⟩; have HR1 := Lib.hid hr1; have HU1 := Lib.hid hu1; clear hr1; have hb := hu1.below (fun _ h => h.elim) (Nat.le_refl _); obtain ⟨hc1, hf1⟩ := bcell hb; have hz := hb.size; clear hu1 hb)
  refine bodyPost_ret (v := (⟨3, 0, n, numB code 4⟩ : FrameS).v A1 c1) (by (simp [results, Tryd.results15, go_sem, FrameS.v, hc1, hz, numB_length]; try omega)) rfl ?_
  exact FrQ.laid (f := ⟨3, 0, n, numB code 4⟩) (by rw [numB_length]; exact HR1.out) HU1.out _ _ _ _

set_option maxRecDepth 100000 in
theorem refGoaway_any (last code : Nat) (hn : last ≤ 2147483647) (hs : code ≤ 2147483647) (w : World) :
    Calls Tryd.prog 14 #[.int .i64 last, .int .i64 code] w (FrQ ⟨7, 0, 0, numB last 4 ++ numB code 4⟩ w) := by
  have HNUM := Lib.hid (fun W1 => refNum_any last 4 (by omega) (by omega) W1)
  have HNUM2 := Lib.hid (fun W1 => refNum_any code 4 (by omega) (by omega) W1)
  have hx : last &&& 2147483647 = last := by rw [show 2147483647 = 2 ^ 31 - 1 from rfl, Nat.and_two_pow_sub_one_eq_mod]; omega
  have ha : Go.bits .and .i64 (last : Int) 2147483647 = (last : Int) := by
    have := i64_and_nat last 2147483647 (by omega) (by decide)
    rw [hx] at this
    exact this
  have h63 : 4 + 4 ≤ maxLen := by simp [maxLen]
  have hbb : (4 + 4) * 1 ≤ big := by simp [big]
  clear hx
  rw [numB_length] at HNUM HNUM2
  go_enter Tryd.func14, Tryd.ntmps14
  go_wp2_with (first
    | (go_at_call 27; refine (HNUM.out _).mono ?_; rintro e w1 ⟨A1, c1, S1, rfl, hr1, hu1⟩; have HR1 := Lib.hid hr1; have HU1 := Lib.hid hu1; clear hr1 HNUM hu1)
    | (go_at_call 27; refine (HNUM2.out _).mono ?_; rintro e w2 ⟨A2, c2, S2, rfl, hr2, hu2⟩; have HR2 := Lib.hid hr2; have HU2 := Lib.hid hu2; clear hr2 hu2 HNUM2)
    | (at_builtin; refine wpList_append (by rfl) _ _ _ _ (by rfl) 5 1 1 tyBytes tyBytes.src A1 4 c1 (bys (numB last 4)) S1 (.slice A2 4 c2) 4 (bys (numB code 4)) (by rfl) (by rfl) (HR1.out.loc fun k hk => HU2.out.block k (HR1.out.lt k hk) (fun h => h)) (Src.of_rd HR2.out.rd (bys_one _)) h63 hbb ?_; intro A3 c3 w3 S3 hr3 hu3 ha3; clear ha3; have HR3 := Lib.hid hr3; have HU3 := Lib.hid ((HU1.out.trans (HU2.out.wider (R := S1) (fun _ h => h.elim) |>.holds fun k hk => .inl hk)).trans hu3); clear hr3 hu3; have hb := HU3.out.below (fun _ h => h.elim) (Nat.le_refl _); obtain ⟨hc1, hf1⟩ := bcell hb; have hz := hb.size; clear hb))
  refine bodyPost_ret (v := (⟨7, 0, 0, numB last 4 ++ numB code 4⟩ : FrameS).v A3 c3) (by (simp [results, Tryd.results14, go_sem, FrameS.v, hc1, hz, numB_length]; try omega)) rfl ?_
  exact FrQ.laid (f := ⟨7, 0, 0, numB last 4 ++ numB code 4⟩) (by simp only [List.length_append, numB_length, bys_append]; exact HR3.out) HU3.out _ _ _ _
end Go.Proofs.YthmfifcogokpoaaDoor
namespace Go.Proofs.YthmfifcogokpoaaDoor
open Go.RowKit

theorem getS_88 : getS [0x88] 7 = (8, 1, 0) := by decide +kernel
theorem getS_80 : getS [0x80] 7 = (0, 1, 0) := by decide +kernel
theorem index_bar : ∀ (p r : List UInt8), (p.all fun b => b != 124) = true → Lib.index (p ++ 124 :: r) [124] = p.length
  | [], r, _ => by simp [Lib.index, List.isPrefixOf]
  | b :: p, r, h => by
    simp only [List.all_cons, Bool.and_eq_true] at h
    have h1 := index_bar p r h.2
    have h2 : ((124 : UInt8) == b) = false := by
      have := h.1
      simp only [bne_iff_ne] at this
      exact beq_eq_false_iff_ne.2 (fun e => this e.symm)
    have h3 : (((p.length : Int)) == -1) = false := beq_eq_false_iff_ne.2 (by omega)
    rw [List.cons_append, Lib.index]
    simp [List.isPrefixOf, h1, h2, h3]
theorem splitK_bar (k : Nat) (p r : List UInt8) (h : (p.all fun b => b != 124) = true) : Lib.splitK [124] 0 (k + 1) (p ++ 124 :: r) = p :: Lib.splitK [124] 0 k r := by
  have h1 := index_bar p r h
  have h3 : (((p.length : Int)) == -1) = false := beq_eq_false_iff_ne.2 (by omega)
  have e : (p ++ 124 :: r).drop (p.length + 1) = r := by
    rw [← List.drop_drop, List.drop_left, List.drop_succ_cons, List.drop_zero]
  rw [Lib.splitK, h1, h3]
  simp only [List.length_singleton, Int.toNat_natCast, Nat.add_zero, Bool.false_eq_true, if_false, List.take_left, e]
theorem knownL : knownB.data.toList.take 101 = [58, 97, 117, 116, 104, 111, 114, 105, 116, 121, 124, 58, 109, 101, 116, 104, 111, 100, 32, 71, 69, 84, 124, 58, 109, 101, 116, 104, 111, 100, 32, 80, 79, 83, 84, 124, 58, 112, 97, 116, 104, 32, 47, 124, 58, 112, 97, 116, 104, 32, 47, 105, 110, 100, 101, 120, 46, 104, 116, 109, 108, 124, 58, 115, 99, 104, 101, 109, 101, 32, 104, 116, 116, 112, 124, 58, 115, 99, 104, 101, 109, 101, 32, 104, 116, 116, 112, 115, 124, 58, 115, 116, 97, 116, 117, 115, 32, 50, 48, 48, 124] := by decide +kernel
theorem split8 (K : List UInt8) : Lib.splitK [124] 0 60 ([58, 97, 117, 116, 104, 111, 114, 105, 116, 121] ++ 124 :: ([58, 109, 101, 116, 104, 111, 100, 32, 71, 69, 84] ++ 124 :: ([58, 109, 101, 116, 104, 111, 100, 32, 80, 79, 83, 84] ++ 124 :: ([58, 112, 97, 116, 104, 32, 47] ++ 124 :: ([58, 112, 97, 116, 104, 32, 47, 105, 110, 100, 101, 120, 46, 104, 116, 109, 108] ++ 124 :: ([58, 115, 99, 104, 101, 109, 101, 32, 104, 116, 116, 112] ++ 124 :: ([58, 115, 99, 104, 101, 109, 101, 32, 104, 116, 116, 112, 115] ++ 124 :: ([58, 115, 116, 97, 116, 117, 115, 32, 50, 48, 48] ++ 124 :: (K))))))))) = [58, 97, 117, 116, 104, 111, 114, 105, 116, 121] :: [58, 109, 101, 116, 104, 111, 100, 32, 71, 69, 84] :: [58, 109, 101, 116, 104, 111, 100, 32, 80, 79, 83, 84] :: [58, 112, 97, 116, 104, 32, 47] :: [58, 112, 97, 116, 104, 32, 47, 105, 110, 100, 101, 120, 46, 104, 116, 109, 108] :: [58, 115, 99, 104, 101, 109, 101, 32, 104, 116, 116, 112] :: [58, 115, 99, 104, 101, 109, 101, 32, 104, 116, 116, 112, 115] :: [58, 115, 116, 97, 116, 117, 115, 32, 50, 48, 48] :: Lib.splitK [124] 0 52 K := by
  rw [show (60 : Nat) = 59 + 1 from rfl, splitK_bar _ [58, 97, 117, 116, 104, 111, 114, 105, 116, 121] _ (by decide)]
  rw [show (59 : Nat) = 58 + 1 from rfl, splitK_bar _ [58, 109, 101, 116, 104, 111, 100, 32, 71, 69, 84] _ (by decide)]
  rw [show (58 : Nat) = 57 + 1 from rfl, splitK_bar _ [58, 109, 101, 116, 104, 111, 100, 32, 80, 79, 83, 84] _ (by decide)]
  rw [show (57 : Nat) = 56 + 1 from rfl, splitK_bar _ [58, 112, 97, 116, 104, 32, 47] _ (by decide)]
  rw [show (56 : Nat) = 55 + 1 from rfl, splitK_bar _ [58, 112, 97, 116, 104, 32, 47, 105, 110, 100, 101, 120, 46, 104, 116, 109, 108] _ (by decide)]
  rw [show (55 : Nat) = 54 + 1 from rfl, splitK_bar _ [58, 115, 99, 104, 101, 109, 101, 32, 104, 116, 116, 112] _ (by decide)]
  rw [show (54 : Nat) = 53 + 1 from rfl, splitK_bar _ [58, 115, 99, 104, 101, 109, 101, 32, 104, 116, 116, 112, 115] _ (by decide)]
  rw [show (53 : Nat) = 52 + 1 from rfl, splitK_bar _ [58, 115, 116, 97, 116, 117, 115, 32, 50, 48, 48] _ (by decide)]

theorem known8 : (Lib.splitK [124] 0 60 knownB.data.toList)[7]? = some [58, 115, 116, 97, 116, 117, 115, 32, 50, 48, 48] := by
  have h := List.take_append_drop 101 knownB.data.toList
  rw [knownL] at h
  have h2 := split8 (knownB.data.toList.drop 101)
  rw [← h]
  generalize knownB.data.toList.drop 101 = K at *
  refine (congrArg (fun l : List (List UInt8) => l[7]?) h2).trans ?_
  rfl
theorem at7 (T : List ByteArray) (L : List (List UInt8)) (x : List UInt8) (h : T.map (·.data.toList) = L) (h7 : L[7]? = some x) : (T.getD 7 ByteArray.empty).data.toList = x := by
  rw [← h, List.getElem?_map] at h7
  rw [List.getD_eq_getElem?_getD]
  cases hT : T[7]? with
  | none => rw [hT] at h7; cases h7
  | some b =>
    rw [hT] at h7
    simpa using h7
theorem split_data (k : Nat) (s : ByteArray) : (Lib.splitB barB 0 k s).map (·.data.toList) = Lib.splitK [124] 0 k s.data.toList := Lib.splitB_data barB 0 k s
theorem tabS_eq : tabS = Lib.splitB barB 0 60 knownB := by
  have h := known_count
  unfold tabS
  generalize Lib.countB knownB barB = n at *
  rw [h]
theorem tab8 : (tabS.getD 7 ByteArray.empty).data.toList = [58, 115, 116, 97, 116, 117, 115, 32, 50, 48, 48] := by
  rw [tabS_eq]
  exact at7 _ _ _ (split_data 60 knownB) known8
theorem status8 : statGet 8 = (⟨statusB, ⟨#[50, 48, 48]⟩, false⟩, true) := by
  unfold statGet splitF
  rw [if_neg (by omega)]
  rw [show (8 : Int).toNat - 1 = 7 from rfl, tab8]
  have h1 : Lib.cut [58, 115, 116, 97, 116, 117, 115, 32, 50, 48, 48] [32] = ([58, 115, 116, 97, 116, 117, 115], [50, 48, 48], true) := by decide +kernel
  rw [h1]
  have h2 : statusB = ⟨#[58, 115, 116, 97, 116, 117, 115]⟩ := by decide +kernel
  rw [h2]
end Go.Proofs.YthmfifcogokpoaaDoor
namespace Go.Proofs.YthmfifcogokpoaaDoor
open Go.RowKit

theorem numB_get3 (v : Nat) (hv : v < 16777216) (r : List UInt8) : num3 (numB v 3 ++ r) = v := by
  simp only [numB, List.cons_append, List.nil_append, num3, List.getD_cons_zero, List.getD_cons_succ, UInt8.toNat_ofNat', Nat.reduceMul, Nat.reducePow, Nat.mul_zero, Nat.pow_zero, Nat.div_one]
  omega
theorem numB_get4 (v : Nat) (hv : v < 4294967296) (r : List UInt8) : num4 (numB v 4 ++ r) = v := by
  simp only [numB, List.cons_append, List.nil_append, num4, List.getD_cons_zero, List.getD_cons_succ, UInt8.toNat_ofNat', Nat.reduceMul, Nat.reducePow, Nat.mul_zero, Nat.pow_zero, Nat.div_one]
  omega
theorem and31_id (v : Nat) (hv : v ≤ 2147483647) : v &&& 2147483647 = v := by rw [show 2147483647 = 2 ^ 31 - 1 from rfl, Nat.and_two_pow_sub_one_eq_mod]; omega
/-- What was written is read. -/
theorem nextS_put (room : Int) (f : FrameS) (hf : f.Fits) (hr : (f.body.length : Int) ≤ room) (rest : List UInt8) : nextS room (putB f ++ rest) = (f, 0, rest) := by
  have hk := hf.kind
  have hfl := hf.flags
  have hs := hf.stream
  have hb := hf.body
  have hl : (putB f ++ rest).length = f.body.length + 9 + rest.length := by rw [List.length_append, putB_length]
  have e : putB f ++ rest = numB f.body.length 3 ++ (UInt8.ofNat f.kind :: UInt8.ofNat f.flags :: (numB f.stream 4 ++ (f.body ++ rest))) := by
    simp [putB, List.append_assoc]
  have n3 : num3 (putB f ++ rest) = f.body.length := by rw [e]; exact numB_get3 _ hb _
  have d5 : (putB f ++ rest).drop 5 = numB f.stream 4 ++ (f.body ++ rest) := by
    rw [e]; simp [numB]
  have d9 : (putB f ++ rest).drop 9 = f.body ++ rest := by
    rw [e]; simp [numB]
  have g3 : ((putB f ++ rest).getD 3 0).toNat = f.kind := by
    rw [e]; simp [numB]; omega
  have g4 : ((putB f ++ rest).getD 4 0).toNat = f.flags := by
    rw [e]; simp [numB]; omega
  unfold nextS
  rw [if_neg (by omega), n3, if_neg (by omega), if_neg (by omega), g3, g4, d5, numB_get4 _ (by omega), and31_id _ hs, d9, ← List.drop_drop, d9]
  simp

/-! ### Out, frame by frame -/
theorem outS_nil {s : WatchS} (h : s.outB = []) : outS s [] = s := by
  rw [outS_run]
  have e : s.withOut (s.outB ++ []) = s := by cases s; simp only at h; subst h; rfl
  rw [e]
  exact runOut_short (by rw [h]; rfl)
theorem judged_idle {s : WatchS} (f : FrameS) (h : s.outB = []) : (judged (rightS s f)).outB = [] := by rw [judged_outB, rightS_outB, h]
theorem outS_put {s : WatchS} (h1 : s.bad = false) (h2 : s.blind = false) (h : s.outB = []) (f : FrameS) (hf : f.Fits) (hr : f.body.length ≤ 16384) (rest : List UInt8) : outS s (putB f ++ rest) = outS (judged (rightS s f)) rest := by
  have hn := nextS_put 16384 f hf (by omega) rest
  have e0 : s.withOut (s.outB ++ (putB f ++ rest)) = s.withOut (putB f ++ rest) := by rw [h]; rfl
  rw [outS_run, e0, runOut_next (s := s.withOut (putB f ++ rest)) h1 h2 (by show (nextS 16384 (putB f ++ rest)).2.1 = 0; rw [hn])]
  show runOut (judged (rightS (s.withOut (nextS 16384 (putB f ++ rest)).2.2) (nextS 16384 (putB f ++ rest)).1)) = _
  rw [hn, outS_run, judged_idle f h, rightS_out, judged_out]
  rfl
theorem outS_stop {s : WatchS} (h : s.bad = true ∨ s.blind = true) (l : List UInt8) : outS s l = s.withOut (s.outB ++ l) := by
  rw [outS_run]
  exact runOut_stop h
/-! ### In, frame by frame -/
theorem inS_nil {s : WatchS} (hh : s.head = 24) (h : s.inB = []) : inS s [] = s := by
  rw [inS_run]
  have e : takeS s [] = s := by cases s; simp only at h hh; subst h; subst hh; rfl
  rw [e]
  exact runIn_short (by rw [h]; rfl)
theorem takeS_full {s : WatchS} (hh : s.head = 24) (l : List UInt8) : takeS s l = s.withIn (s.inB ++ l) := by
  cases s
  simp only at hh
  subst hh
  simp [takeS]
theorem inS_put {s : WatchS} (hh : s.head = 24) (h1 : s.deaf = false) (h2 : s.blind = false) (h : s.inB = []) (f : FrameS) (hf : f.Fits) (hr : f.body.length ≤ 16384) (rest : List UInt8) : inS s (putB f ++ rest) = inS (hearsS s f) rest := by
  have hn := nextS_put 16384 f hf (by omega) rest
  rw [inS_run, takeS_full hh, h, List.nil_append, runIn_next (s := s.withIn (putB f ++ rest)) h1 h2 (by show (nextS 16384 (putB f ++ rest)).2.1 = 0; rw [hn])]
  show runIn (hearsS (s.withIn (nextS 16384 (putB f ++ rest)).2.2) (nextS 16384 (putB f ++ rest)).1) = _
  rw [hn, inS_run, takeS_full (by rw [hearsS_head, hh]), hearsS_inB, h, List.nil_append, hearsS_in]
theorem inS_stop {s : WatchS} (h : s.deaf = true ∨ s.blind = true) (l : List UInt8) : inS s l = takeS s l := by
  rw [inS_run]
  exact runIn_stop h
/-- The preface goes ahead. -/
def pref : List UInt8 := [80, 82, 73, 32, 42, 32, 72, 84, 84, 80, 47, 50, 46, 48, 13, 10, 13, 10, 83, 77, 13, 10, 13, 10]
def headS : WatchS := { newS with head := 24 }
theorem inS_pref (l : List UInt8) : inS newS (pref ++ l) = inS headS l := by
  rw [inS_run, inS_run]
  congr 1

/-! ### What single frames do -/
def setF : FrameS := ⟨4, 0, 0, []⟩
def ackF : FrameS := ⟨4, 1, 0, []⟩
theorem read_set : readS setF = (noPart, noFault) := by decide
theorem read_ack : readS ackF = ({ noPart with ack := true }, noFault) := by decide
theorem set_fits : setF.Fits := ⟨by decide, by decide, by decide, by decide⟩
theorem ack_fits : ackF.Fits := ⟨by decide, by decide, by decide, by decide⟩
theorem hears_set (s : WatchS) : hearsS s setF = { s with waits := s.waits ++ [[]] } := by
  unfold hearsS
  rw [read_set]
  rfl
theorem right_set {s : WatchS} (hg : s.gone = false) : rightS s setF = (true, s) := by
  unfold rightS
  rw [read_set, hg]
  simp [setF, noPart, noFault]
theorem right_ack_none {s : WatchS} (hg : s.gone = false) (hf : s.frames ≠ 0) (hw : s.waits = []) : rightS s ackF = (false, s) := by
  unfold rightS
  rw [read_ack, hg]
  simp [ackF, hf, appliesS, hw, noFault]
theorem shiftX_id {x : StrS} (h : W x.window) : shiftX 0 x = x := by
  unfold shiftX
  rw [Int.add_zero, cutW_id _ h]
theorem right_ack {s : WatchS} (hg : s.gone = false) (hf : s.frames ≠ 0) (hw : s.waits = [[]]) (hb : s.blind = false) (hm : ∀ x ∈ s.m, W x.2.window) : rightS s ackF = (true, { s with waits := [] }) := by
  have h0 : ¬ ∃ x ∈ s.m, overX 0 x.2 := fun ⟨x, hx, ho⟩ => by
    have := hm x hx
    unfold overX at ho
    unfold W at this
    omega
  have h1 : s.m.map (fun x => (x.1, shiftX 0 x.2)) = s.m := by
    refine (List.map_congr_left (g := fun x => x) fun x hx => ?_).trans (List.map_id' s.m)
    rw [shiftX_id (hm x hx)]
  unfold rightS
  rw [read_ack, hg]
  simp only [ackF, hf, false_and, false_or, noFault, Bool.false_eq_true, if_false, if_true]
  unfold appliesS
  rw [hw]
  simp only [applyS, Int.sub_self, noFault]
  unfold shiftAll
  simp only [Bool.false_eq_true, if_false]
  rw [if_neg h0, h1]
  cases s
  simp only at hb hg hw
  subst hb hg hw
  rfl
end Go.Proofs.YthmfifcogokpoaaDoor
namespace Go.Proofs.YthmfifcogokpoaaDoor
open Go.RowKit

/-- A Watch that stands where s says (where it is blind the streams' windows may be others). -/
def HAt (W : World) (b : Nat) (s : WatchS) (S : Own) : Prop := ∃ v s', Sim s s' ∧ WAt W b v s' S
theorem HAt.lt {W : World} {b : Nat} {s : WatchS} {S : Own} (h : HAt W b s S) : ∀ k, S k → k < W.heap.size := by
  obtain ⟨v, s', h1, h2⟩ := h
  exact h2.lt
theorem HAt.upd {W W' : World} {b : Nat} {s : WatchS} {S T : Own} (h : HAt W b s S) (hu : Upd none_ T W W') : HAt W' b s S := by
  obtain ⟨v, s', h1, h2⟩ := h
  exact ⟨v, s', h1, h2.upd hu (fun k _ h => h) (fun h => h)⟩
theorem HAt.below {W W' : World} {b : Nat} {s : WatchS} {S : Own} (h : HAt W b s S) (hb : Below W.heap.size W W') : HAt W' b s S := h.upd (Upd.of_below hb (S' := none_) fun _ h => h.elim)
theorem HAt.glob {W : World} {b : Nat} {s : WatchS} {S : Own} (h : HAt W b s S) : GlobOk W := by
  obtain ⟨v, s', h1, h2⟩ := h
  exact h2.glob
theorem HAt.pos {W : World} {b : Nat} {s : WatchS} {S : Own} (h : HAt W b s S) : ¬ S 0 := by
  obtain ⟨v, s', h1, h2⟩ := h
  exact h2.g0

def NewQ (w : World) (e : Ending) (w' : World) : Prop := ∃ b S, e = .returned (.pointer (some ⟨b, 0, none⟩)) ∧ HAt w' b newS S ∧ Upd none_ S w w'
theorem new_h (w : World) (hg : GlobOk w) : Calls Tryd.prog 8 #[] w (NewQ w) :=
  (watchNew_any w hg).mono fun _ _ ⟨b, v, S, h1, h2, h3⟩ => ⟨b, S, h1, ⟨v, newS, Sim.refl _, h2⟩, h3⟩
def InQ (b : Nat) (s : WatchS) (S : Own) (w : World) (e : Ending) (w' : World) : Prop := e = .returned (.tuple #[]) ∧ ∃ S', HAt w' b s S' ∧ Upd S S' w w'
theorem in_h {W : World} {b : Nat} {s : WatchS} {S : Own} (h : HAt W b s S) {B : Nat} (hok : WOk B s) {A : Option Addr} {c : Nat} {l : List UInt8} (hrd : Rd W 1 A l.length c (bys l)) (hA : ∀ k, blockOf A = some k → k < W.heap.size ∧ ¬ S k) (hB : B + l.length ≤ 1000000000) :
    Calls Tryd.prog 9 #[.pointer (some ⟨b, 0, none⟩), .slice A l.length c] W (InQ b (inS s l) S W) := by
  obtain ⟨v, s', h1, h2⟩ := h
  exact (in_any W b v s' S h2 B (Sim.ok hok h1) A c l hrd hA hB).mono fun _ _ ⟨h3, v', S', h4, h5⟩ => ⟨h3, S', ⟨v', _, h1.inS l, h4⟩, h5⟩
def OutR (b : Nat) (s : WatchS) (code : Int) (S : Own) (w : World) (e : Ending) (w' : World) : Prop := e = .returned (.int .i64 code) ∧ ∃ S', HAt w' b s S' ∧ Upd S S' w w'
theorem out_h {W : World} {b : Nat} {s : WatchS} {S : Own} (h : HAt W b s S) {B : Nat} (hok : WOk B s) (hd : s.dead = true → s.bad = true) {A : Option Addr} {c : Nat} {l : List UInt8} (hrd : Rd W 1 A l.length c (bys l)) (hA : ∀ k, blockOf A = some k → k < W.heap.size ∧ ¬ S k) (hB : B + l.length ≤ 1000000000) :
    Calls Tryd.prog 12 #[.pointer (some ⟨b, 0, none⟩), .slice A l.length c] W (OutR b (outS s l) (if (outS s l).bad then 2 else 0) S W) := by
  obtain ⟨v, s', h1, h2⟩ := h
  have hs := h1.outS l
  refine (out_any W b v s' S h2 B (Sim.ok hok h1) (by rw [h1.dead, h1.bad]; exact hd) A c l hrd hA hB).mono fun _ _ ⟨h3, v', S', s2, h4, h5, h6⟩ => ⟨?_, S', ⟨v', s2, hs.trans h4, h5⟩, h6⟩
  rw [h3, hs.bad]
theorem frames_h {W : World} {b : Nat} {s : WatchS} {S : Own} (h : HAt W b s S) : Calls Tryd.prog 13 #[.pointer (some ⟨b, 0, none⟩)] W (fun e w' => w' = W ∧ e = .returned (.int .i64 s.frames)) := by
  obtain ⟨v, s', h1, h2⟩ := h
  rw [← h1.frames]
  exact frames_any W b v s' S h2
def OwnQ (l : List UInt8) (w : World) (e : Ending) (w' : World) : Prop := ∃ A c S, e = .returned (.slice A l.length c) ∧ Row 5 1 A l.length c (bys l) S w' ∧ Upd none_ S w w'
theorem sent_h {W : World} {b : Nat} {s : WatchS} {S : Own} (h : HAt W b s S) {B : Nat} (hok : WOk B s) (hB : B ≤ 1000000000) (n : Nat) : Calls Tryd.prog 19 #[.pointer (some ⟨b, 0, none⟩), .int .i64 n] W (OwnQ (sentS s n) W) := by
  obtain ⟨v, s', h1, h2⟩ := h
  rw [← h1.sent]
  have hok' := Sim.ok hok h1
  exact sent_any W b v s' S h2 n fun x hx => by have := hok'.data x hx; omega
/-- Rows that were made behind a Watch. -/
theorem rowA {W : World} {A : Option Addr} {n c : Nat} {xs : List Value} {S1 S : Own} (hr : Row 5 1 A n c xs S1 W) (ha : Apart S1 S) : ∀ k, blockOf A = some k → k < W.heap.size ∧ ¬ S k := fun k hk => ⟨hr.lt k (hr.block k hk), ha k (hr.block k hk)⟩
theorem Upd.fresh {S1 S : Own} {w w' : World} (hu : Upd none_ S1 w w') (hS : ∀ k, S k → k < w.heap.size) : Apart S1 S := fun k h1 h2 => by
  rcases hu.own k h1 with h | h
  · exact h.elim
  · have := hS k h2; omega

/-! ### The statement's first -/
def pushF : FrameS := ⟨5, 0, 1, []⟩
theorem push_fits : pushF.Fits := ⟨by decide, by decide, by decide, by decide⟩
theorem first_out : outS newS (putB setF) = { newS with frames := 1 } := by
  have h := outS_put (s := newS) rfl rfl rfl setF set_fits (by decide) []
  rw [List.append_nil, right_set rfl] at h
  rw [h, outS_nil rfl]
  rfl
theorem right_push (s : WatchS) : rightS s pushF = (false, s) := by
  unfold rightS
  rw [if_pos (.inr (.inl (by decide)))]
theorem first_out2 : outS { newS with frames := 1 } (putB pushF) = { newS with frames := 1, bad := true } := by
  have h := outS_put (s := { newS with frames := 1 }) rfl rfl rfl pushF push_fits (by decide) []
  rw [List.append_nil, right_push] at h
  rw [h, outS_nil rfl]
  rfl
theorem first_out3 (l : List UInt8) : outS { newS with frames := 1, bad := true } l = { newS with frames := 1, bad := true, outB := l } := outS_stop (.inl rfl) l
theorem ok1 : WOk 1 { newS with frames := 1 } := ⟨by simp [newS], by simp [newS], by simp [newS], by simp [newS], by simp [newS], by simp [newS], by simp [newS, W], by simp [newS, firstS]⟩
theorem ok2 : WOk 1 { newS with frames := 1, bad := true } := ⟨by simp [newS], by simp [newS], by simp [newS], by simp [newS], by simp [newS], by simp [newS], by simp [newS, W], by simp [newS, firstS]⟩
end Go.Proofs.YthmfifcogokpoaaDoor
namespace Go.Proofs.YthmfifcogokpoaaDoor
open Go.RowKit

theorem out_nil {W : World} {b : Nat} {s : WatchS} {S : Own} (h : HAt W b s S) {B : Nat} (hok : WOk B s) (hd : s.dead = true → s.bad = true) (hB : B ≤ 1000000000) (ho : s.outB = []) (code : Int) (hc : (if s.bad then (2 : Int) else 0) = code) :
    Calls Tryd.prog 12 #[.pointer (some ⟨b, 0, none⟩), .slice none 0 0] W (OutR b s code S W) := by
  have h1 := out_h h hok hd (A := none) (c := 0) (l := []) (Rd.none_ W 1) (fun k h => by cases h) (by simpa using hB)
  rw [outS_nil ho, hc] at h1
  exact h1
theorem out_row {W : World} {b : Nat} {s : WatchS} {S : Own} (h : HAt W b s S) {B : Nat} (hok : WOk B s) (hd : s.dead = true → s.bad = true) {A : Option Addr} {c : Nat} {l : List UInt8} {S1 : Own} (hr : Row 5 1 A l.length c (bys l) S1 W) (ha : Apart S1 S) (hB : B + l.length ≤ 1000000000) (s' : WatchS) (hs : outS s l = s') (code : Int) (hc : (if s'.bad then (2 : Int) else 0) = code) :
    Calls Tryd.prog 12 #[.pointer (some ⟨b, 0, none⟩), .slice A l.length c] W (OutR b s' code S W) := by
  have h1 := out_h h hok hd hr.rd (rowA hr ha) hB
  rw [hs, hc] at h1
  exact h1
theorem in_row {W : World} {b : Nat} {s : WatchS} {S : Own} (h : HAt W b s S) {B : Nat} (hok : WOk B s) {A : Option Addr} {c : Nat} {l : List UInt8} {S1 : Own} (hr : Row 5 1 A l.length c (bys l) S1 W) (ha : Apart S1 S) (hB : B + l.length ≤ 1000000000) (s' : WatchS) (hs : inS s l = s') :
    Calls Tryd.prog 9 #[.pointer (some ⟨b, 0, none⟩), .slice A l.length c] W (InQ b s' S W) := by
  have h1 := in_h h hok hr.rd (rowA hr ha) hB
  rw [hs] at h1
  exact h1
theorem put_row (f : FrameS) (hf : f.Fits) {A : Option Addr} {c : Nat} {W : World} {S1 : Own} (hr : Row 5 1 A f.body.length c (bys f.body) S1 W) : Calls Tryd.prog 20 #[f.v A c] W (PutQ (putB f) W) :=
  refPut_any f hf A c W hr.rd fun k hk => hr.lt k (hr.block k hk)
theorem Row.upd {e : TypeId} {size : Nat} {A : Option Addr} {n c : Nat} {xs : List Value} {S T T' : Own} {w w' : World} (h : Row e size A n c xs S w) (hu : Upd T T' w w') (ha : Apart S T) : Row e size A n c xs S w' := h.loc fun k hk => hu.block k (h.lt k hk) (ha k hk)
theorem Apart.after {S T T' : Own} {w w' : World} (ha : Apart S T) (hu : Upd T T' w w') (hS : ∀ k, S k → k < w.heap.size) : Apart S T' := fun k h1 h2 => by
  rcases hu.own k h2 with h | h
  · exact ha k h1 h
  · have := hS k h1; omega

set_option maxRecDepth 100000 in
set_option maxHeartbeats 1000000 in
theorem first_any (w : World) (hg : GlobOk w) :
    Calls Tryd.prog 7 #[] w fun e w' => e = .returned (.bool true) ∧ Below w.heap.size w w' := by
  have HG := Lib.hid hg
  clear hg
  have HP1 := Lib.hid (fun (W : World) (A : Option Addr) (c : Nat) (S1 : Own) (hr : Row 5 1 A 0 c [] S1 W) => show Calls Tryd.prog 20 #[.agg #[.int .i64 4, .int .i64 0, .int .i64 0, .slice A 0 c]] W (PutQ (putB setF) W) from put_row setF set_fits hr)
  have HP2 := Lib.hid (fun (W : World) => show Calls Tryd.prog 20 #[.agg #[.int .i64 5, .int .i64 0, .int .i64 1, .slice none 0 0]] W (PutQ (putB pushF) W) from put_row pushF push_fits (Row.nil _ _ _))
  have hn1 : (putB setF).length ≤ 100 := by decide
  have hn2 : (putB pushF).length ≤ 100 := by decide
  have HO1 := Lib.hid (fun (W : World) (b : Nat) (S : Own) (h : HAt W b newS S) (A : Option Addr) (c : Nat) (S1 : Own) (hr : Row 5 1 A (putB setF).length c (bys (putB setF)) S1 W) (ha : Apart S1 S) => out_row h newS_ok (fun h => by cases h) hr ha (by omega) _ first_out 0 rfl)
  have HO2 := Lib.hid (fun (W : World) (b : Nat) (S : Own) (h : HAt W b { newS with frames := 1 } S) (A : Option Addr) (c : Nat) (S1 : Own) (hr : Row 5 1 A (putB pushF).length c (bys (putB pushF)) S1 W) (ha : Apart S1 S) => out_row h ok1 (fun h => by cases h) hr ha (by omega) _ first_out2 2 rfl)
  have HO3 := Lib.hid (fun (W : World) (b : Nat) (S : Own) (h : HAt W b { newS with frames := 1, bad := true } S) (A : Option Addr) (c : Nat) (S1 : Own) (hr : Row 5 1 A (putB setF).length c (bys (putB setF)) S1 W) (ha : Apart S1 S) => out_row h ok2 (fun _ => rfl) hr ha (by omega) _ (first_out3 _) 2 rfl)
  unfold PutQ at HP1 HP2
  unfold OutR at HO1 HO2 HO3
  generalize putB setF = l1 at *
  generalize putB pushF = l2 at *
  clear hn1 hn2
  go_enter Tryd.func7, Tryd.ntmps7
  go_wp2_with (first
    | (go_at_call 8; refine (new_h _ HG.out).mono ?_; rintro e w1 ⟨b, S0, rfl, hh, hu⟩; have HH1 := Lib.hid hh; have HU1 := Lib.hid hu; clear hh hu HG)
    | (go_at_call 12; refine (out_nil HH1.out newS_ok (fun h => by cases h) (by omega) rfl 0 rfl).mono ?_; rintro e w2 ⟨rfl, S2, hh, hu⟩; have HH2 := Lib.hid hh; have HU2 := Lib.hid (HU1.out.trans hu); clear hh hu HH1 HU1)
    | (go_at_call 13; refine (frames_h HH2.out).mono ?_; rintro e w3 ⟨rfl, rfl⟩)
    | (go_at_call 11; refine (refSettings_no _).mono ?_; rintro e w4 ⟨A4, c4, S4, rfl, hr, hu⟩; have HR4 := Lib.hid hr; have HH4 := Lib.hid (HH2.out.upd hu); have HU4 := Lib.hid (HU2.out.trans ((hu.wider (R := S2) (fun _ h => h.elim)).holds (S'' := S2) fun k hk => .inl hk)); clear hr hu HU2 HH2)
    | (go_at_call 20; refine (HP1.out _ A4 c4 S4 HR4.out).mono ?_; rintro e w5 ⟨A5, c5, S5, rfl, hr, hu⟩; have HR5 := Lib.hid hr; have HH5 := Lib.hid (HH4.out.upd hu); have HA5 := Lib.hid (hu.fresh HH4.out.lt); have HU5 := Lib.hid (HU4.out.trans ((hu.wider (R := S2) (fun _ h => h.elim)).holds (S'' := S2) fun k hk => .inl hk)); clear hr hu HR4 HP1 HH4 HU4)
    | (go_at_call 20; refine (HP2.out _).mono ?_; rintro e w6 ⟨A6, c6, S6, rfl, hr, hu⟩; have HR6 := Lib.hid hr; have HH6 := Lib.hid (HH5.out.upd hu); have HA6 := Lib.hid (hu.fresh HH5.out.lt); have HR56 := Lib.hid (HR5.out.upd hu fun _ _ h => h); have HU6 := Lib.hid (HU5.out.trans ((hu.wider (R := S2) (fun _ h => h.elim)).holds (S'' := S2) fun k hk => .inl hk)); clear hr hu HP2 HH5 HR5 HU5)
    | (go_at_call 12; refine (HO1.out _ b S2 HH6.out A5 c5 S5 HR56.out HA5.out).mono ?_; rintro e w7 ⟨rfl, S7, hh, hu⟩; have HH7 := Lib.hid hh; have HA67 := Lib.hid (HA6.out.after hu HR6.out.lt); have HA57 := Lib.hid (HA5.out.after hu HR56.out.lt); have HR57 := Lib.hid (HR56.out.upd hu HA5.out); have HR67 := Lib.hid (HR6.out.upd hu HA6.out); have HU7 := Lib.hid (HU6.out.trans hu); clear hh hu HO1 HH6 HR56 HR6 HA5 HA6 HU6)
    | (go_at_call 13; refine (frames_h HH7.out).mono ?_; rintro e w8 ⟨rfl, rfl⟩)
    | (go_at_call 12; refine (HO2.out _ b S7 HH7.out A6 c6 S6 HR67.out HA67.out).mono ?_; rintro e w9 ⟨rfl, S9, hh, hu⟩; have HH9 := Lib.hid hh; have HA59 := Lib.hid (HA57.out.after hu HR57.out.lt); have HR59 := Lib.hid (HR57.out.upd hu HA57.out); have HU9 := Lib.hid (HU7.out.trans hu); clear hh hu HO2 HH7 HR57 HR67 HA57 HA67 HU7)
    | (go_at_call 12; refine (HO3.out _ b S9 HH9.out A5 c5 S5 HR59.out HA59.out).mono ?_; rintro e w10 ⟨rfl, S10, hh, hu⟩; have HU10 := Lib.hid (HU9.out.trans hu); clear hh hu HO3 HH9 HR59 HA59 HU9))
  go_ret
  exact ⟨rfl, HU10.out.below (fun _ h => h.elim) (Nat.le_refl _)⟩
end Go.Proofs.YthmfifcogokpoaaDoor
