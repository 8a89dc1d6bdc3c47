/- What is proved here: contracts of the program's functions and plain lemmas that the claim's last text uses, in parts: the library's slices.Grow, slices.Concat; package frame: New, Feed; package frame: a parser in memory; Feed, Next; frame.Next; a body cut behind its n-th statement; frame.Next, whole. -/
import Derived.Test.YthmfifcogokpoaaDoorM08
import Derived.Test.YthmfifcogokpoaaDoorM04
import Derived.Lib.AppendZeros
import Derived.LoopN
import Derived.Test.YthmfifcogokpoaaDoorM06
set_option linter.unusedVariables false
set_option linter.unusedSimpArgs false
namespace Go.Proofs.YthmfifcogokpoaaDoor
open Go.RowKit

theorem grow_zero (w : World) : Calls Tryd.prog 38 #[.slice none 0 0, .int .i64 0] w fun e w' => e = .returned (.slice none 0 0) ∧ w = w' := by
  go_enter Tryd.func38, Tryd.ntmps38
  go_wp2
  go_ret
  exact ⟨rfl, rfl⟩

theorem bytesInfo : ∃ i, Tryd.prog.info? 5 = some i ∧ i.zero = some (.int .u8 0) ∧ i.size = 1 ∧ i.bytes = 1 := by
  have h : (Tryd.prog.info? 5).map (fun i => (i.zero, i.size, i.bytes)) = some (some (.int .u8 0), 1, 1) := by kernel_rfl
  cases hi : Tryd.prog.info? 5 with
  | none => rw [hi] at h; cases h
  | some i =>
    rw [hi] at h
    simp at h
    exact ⟨i, rfl, h.1, h.2.1, h.2.2⟩

def OwnSlice (w : World) (l : List UInt8) (e : Ending) (w' : World) : Prop := ∃ A c S, e = .returned (.slice A l.length c) ∧ Row 5 1 A l.length c (bys l) S w' ∧ Upd none_ S w w'

theorem grow_pos (n : Nat) (w : World) (h0 : 0 < n) (hn : n ≤ big) : Calls Tryd.prog 38 #[.slice none 0 0, .int .i64 n] w (OwnSlice w []) := by
  obtain ⟨i, hi, hz, hs, hb⟩ := bytesInfo
  simp only [big] at hn
  have hr := fun (ty : TypeId) (w : World) => Lib.run_append_nil_zeros w 26 3 ty 5 i (.int .u8 0) .i64 .i64 Tryd.underlying26 Tryd.underlying3 hi hz n h0 (by omega) (by omega) (by rw [hb]; omega)
  have hgc := fun w => grownCap_ge w n 0 5
  have hgm := fun w => grownCap_le_maxLen w n 0 5 (by simp only [maxLen]; omega)
  have HR := Lib.hid hr
  have HGC := Lib.hid hgc
  have HGM := Lib.hid hgm
  have t0 : ¬ (n : Int) < 0 := by omega
  have t1 : decide ((0 : Int) < (n : Int)) = true := decide_eq_true (by omega)
  have t2 : decide (0 < n) = true := decide_eq_true h0
  have b1 : (n : Int) ≤ 140737488355328 := by omega
  clear hr hgc hgm hi hz hs hb
  go_enter Tryd.func38, Tryd.ntmps38
  go_wp2_with (at_builtin; refine Lib.wpList_append_run _ (by rfl) _ _ _ _ (by rfl) (.slice none 0 0) (.int .i64 n) (by rfl) (by rfl) _ _ (HR.out _ _) ?_)
  go_ret
  have hcap := HGC.out w
  have hmax := HGM.out w
  generalize grownCap w n 0 5 = c at *
  refine ⟨some ⟨w.heap.size, 0, none⟩, c, (· = w.heap.size), ?_, ?_, ?_⟩
  · simp
  · have hB : Blk (w.drew.alloc (.cells (Builtin.zeroCells (Value.int .u8 0).cells n ++ Builtin.zeroCells (Value.int .u8 0).cells (c - n)) 5)) w.heap.size 5 (Builtin.zeroCells (Value.int .u8 0).cells n ++ Builtin.zeroCells (Value.int .u8 0).cells (c - n)).toList := by
      have := Blk.new w.drew 5 (Builtin.zeroCells (Value.int .u8 0).cells n ++ Builtin.zeroCells (Value.int .u8 0).cells (c - n)).toList
      rw [Array.toArray_toList] at this
      exact this
    exact Row.made hB (Nat.zero_le _) hmax (by simp [size_zeroCells, Value.cells]; omega) (by simp [bys])
  · exact Upd.holds ((Upd.refl none_ w).drew.alloc _) (fun k hk => .inr (by rw [hk]; exact Nat.le_refl _))

theorem bys_nil : bys [] = [] := rfl
theorem grow_any (n : Int) (w : World) (h0 : 0 ≤ n) (hn : n ≤ 1000000000000) : Calls Tryd.prog 38 #[.slice none 0 0, .int .i64 n] w (OwnSlice w []) := by
  obtain ⟨m, rfl⟩ := Int.eq_ofNat_of_zero_le h0
  rcases Nat.eq_zero_or_pos m with rfl | hm
  · exact (grow_zero w).mono fun e w' h => by
      obtain ⟨rfl, rfl⟩ := h
      exact ⟨none, 0, none_, rfl, Row.nil _ _ _, Upd.refl _ _⟩
  · exact grow_pos m w hm (by simp only [big]; omega)

set_option maxRecDepth 100000 in
set_option maxHeartbeats 1000000 in
/-- slices.Concat of two. -/
theorem concat_two (A0 : Option Addr) (c0 : Nat) (l1 : List UInt8) (A1 : Option Addr) (c1 : Nat) (l2 : List UInt8) (A2 : Option Addr) (c2 : Nat) (b o : Nat) (w : World) (hA0 : A0 = some ⟨b, o, none⟩)
    (k0 : w.cell? ⟨b, o, none⟩ = some (.slice A1 l1.length c1)) (k1 : w.cell? ⟨b, o + 1, none⟩ = some (.slice A2 l2.length c2)) (h1 : Rd w 1 A1 l1.length c1 (bys l1)) (h2 : Rd w 1 A2 l2.length c2 (bys l2)) (hb : l1.length + l2.length ≤ 1000000000000) :
    Calls Tryd.prog 31 #[.slice A0 2 c0] w (OwnSlice w (l1 ++ l2)) := by
  subst hA0
  have H1 := Lib.hid h1
  have H2 := Lib.hid h2
  have m1 : l1.length ≤ 1000000000000 := by omega
  have m2 : l2.length ≤ 1000000000000 := by omega
  clear h1 h2
  go_enter Tryd.func31, Tryd.ntmps31
  go_wp2
  refine wp_loop_rounds 3 ?_
  rw [rounds_succ]
  go_wp2
  rw [rounds_succ]
  go_wp2
  rw [rounds_succ]
  go_wp2_with (go_at_call 38; refine (grow_any _ _ (by omega) (by omega)).mono ?_; rintro e w1 ⟨Ag, cg, Sg, rfl, hrow, hu⟩)
  have hb2 : Below w.heap.size w w1 := hu.below (fun _ h => h.elim) (Nat.le_refl _)
  have hkb : b < w.heap.size := World.block_lt_of_cell? _ _ k0
  have k0' : w1.cell? ⟨b, o, none⟩ = some (.slice A1 l1.length c1) := (hb2.cell (p := ⟨b, o, none⟩) hkb).trans k0
  have k1' : w1.cell? ⟨b, o + 1, none⟩ = some (.slice A2 l2.length c2) := (hb2.cell (p := ⟨b, o + 1, none⟩) hkb).trans k1
  have hs1 : Src Tryd.prog w1 1 (.slice A1 l1.length c1) l1.length (bys l1) := Src.of_rd (H1.out.grow (by omega) hb2) (bys_one l1)
  have h63 : 0 + l1.length ≤ maxLen := by simp only [maxLen]; omega
  have hbb : (0 + l1.length) * 1 ≤ big := by simp only [big]; omega
  have HU := Lib.hid hu
  have HB2 := Lib.hid hb2
  clear k0 k1 hu hb2
  refine wp_loop_rounds 3 ?_
  rw [rounds_succ]
  go_wp2_with (at_builtin; refine wpList_append (by rfl) _ _ _ _ (by rfl) 5 1 1 tyBytes tyBytes.src Ag 0 cg [] Sg (.slice A1 l1.length c1) l1.length (bys l1) (by rfl) (by rfl) hrow hs1 h63 hbb ?_; intro A3 c3 w2 S3 hr3 hu3 ha3)
  have HU3 := Lib.hid (HU.out.trans hu3)
  have hb3 : Below w.heap.size w w2 := HU3.out.below (fun _ h => h.elim) (Nat.le_refl _)
  have k1'' : w2.cell? ⟨b, o + 1, none⟩ = some (.slice A2 l2.length c2) := (hb3.cell (p := ⟨b, o + 1, none⟩) hkb).trans ((HB2.out.cell (p := ⟨b, o + 1, none⟩) hkb).symm.trans k1')
  have hs2 : Src Tryd.prog w2 1 (.slice A2 l2.length c2) l2.length (bys l2) := Src.of_rd (H2.out.grow (by omega) hb3) (bys_one l2)
  have h63 : l1.length + l2.length ≤ maxLen := by simp only [maxLen]; omega
  have hbb : (l1.length + l2.length) * 1 ≤ big := by simp only [big]; omega
  simp only [Nat.zero_add, List.nil_append] at hr3
  have HR3 := Lib.hid hr3
  clear k0' k1' hs1 hu3 hb3 hrow ha3 hr3
  rw [rounds_succ]
  go_wp2_with (at_builtin; refine wpList_append (by rfl) _ _ _ _ (by rfl) 5 1 1 tyBytes tyBytes.src A3 l1.length c3 (bys l1) S3 (.slice A2 l2.length c2) l2.length (bys l2) (by rfl) (by rfl) HR3.out hs2 h63 hbb ?_; intro A4 c4 w3 S4 hr4 hu4 ha4)
  have HU4 := Lib.hid (HU3.out.trans hu4)
  have HR4 := Lib.hid hr4
  clear hr4 hu4 ha4 hs2 k1''
  rw [rounds_succ]
  go_wp2
  go_ret
  refine ⟨A4, c4, S4, by simp, ?_, HU4.out⟩
  have := HR4.out
  rw [← bys_append] at this
  simpa using this

theorem frameNew_any (room : Int) (w : World) : Calls Tryd.prog 21 #[.int .i64 room] w fun e w' => e = .returned (.pointer (some ⟨w.heap.size, 0, none⟩)) ∧ w' = w.alloc (.cells #[.int .i64 room, .slice none 0 0] 73) := by
  go_enter Tryd.func21, Tryd.ntmps21
  go_wp2
  go_ret
  exact ⟨rfl, rfl⟩
end Go.Proofs.YthmfifcogokpoaaDoor
namespace Go.Proofs.YthmfifcogokpoaaDoor
open Go.RowKit

/-- One block. -/
def one_ (b : Nat) : Own := fun k => k = b
/-- Both. -/
def or_ (S T : Own) : Own := fun k => S k ∨ T k
/-- Nothing in common. -/
def Apart (S T : Own) : Prop := ∀ k, S k → ¬ T k
theorem Apart.symm {S T : Own} (h : Apart S T) : Apart T S := fun k hk hs => h k hs hk
/-- What is held elsewhere stays apart. -/
theorem Upd.apart {S S' T : Own} {w w' : World} (h : Upd S S' w w') (ha : Apart S T) (hT : ∀ k, T k → k < w.heap.size) : Apart S' T := fun k hk ht => by
  rcases h.own k hk with h1 | h1
  · exact ha k h1 ht
  · have := hT k ht; omega

/-- A parser. -/
def ParserAt (w : World) (b : Nat) (room : Int) (l : List UInt8) (S : Own) : Prop :=
  ∃ A c S1, Blk w b 73 [.int .i64 room, .slice A l.length c] ∧ Row 5 1 A l.length c (bys l) S1 w ∧ ¬ S1 b ∧ ∀ k, S k ↔ k = b ∨ S1 k
theorem ParserAt.loc {w w' : World} {b : Nat} {room : Int} {l : List UInt8} {S : Own} (h : ParserAt w b room l S) (hk : ∀ k, S k → w'.heap[k]? = w.heap[k]?) : ParserAt w' b room l S := by
  obtain ⟨A, c, S1, h1, h2, h3, h4⟩ := h
  exact ⟨A, c, S1, h1.keep (hk b ((h4 b).2 (.inl rfl))), h2.loc fun k hs => hk k ((h4 k).2 (.inr hs)), h3, h4⟩
theorem ParserAt.lt {w : World} {b : Nat} {room : Int} {l : List UInt8} {S : Own} (h : ParserAt w b room l S) : ∀ k, S k → k < w.heap.size := by
  obtain ⟨A, c, S1, h1, h2, h3, h4⟩ := h
  intro k hk
  rcases (h4 k).1 hk with rfl | h5
  · exact h1.lt
  · exact h2.lt k h5
theorem ParserAt.base {w : World} {b : Nat} {room : Int} {l : List UInt8} {S : Own} (h : ParserAt w b room l S) : S b := by
  obtain ⟨A, c, S1, h1, h2, h3, h4⟩ := h
  exact (h4 b).2 (.inl rfl)

def FeedQ (b : Nat) (room : Int) (l : List UInt8) (S : Own) (w : World) (e : Ending) (w' : World) : Prop := e = .returned (.tuple #[]) ∧ ∃ S', ParserAt w' b room l S' ∧ Upd S S' w w'

set_option maxRecDepth 100000 in
theorem feed_any (b : Nat) (room : Int) (l l2 : List UInt8) (S : Own) (A : Option Addr) (c : Nat) (w : World) (h : ParserAt w b room l S) (h2 : Rd w 1 A l2.length c (bys l2)) (hb : l.length + l2.length ≤ 1000000000000) :
    Calls Tryd.prog 24 #[.pointer (some ⟨b, 0, none⟩), .slice A l2.length c] w (FeedQ b room (l ++ l2) S w) := by
  obtain ⟨Ap, cp, S1, hblk, hrow, hns, hS⟩ := h
  have e1 := hblk.cell 1
  have f1 := hblk.frozen 1
  simp only [List.getElem?_cons_succ, List.getElem?_cons_zero] at e1
  have hlt := hblk.lt
  have HC := Lib.hid (concat_two (some ⟨w.heap.size, 0, none⟩) 2 l Ap cp l2 A c w.heap.size 0 (w.alloc (.cells #[.slice Ap l.length cp, .slice A l2.length c] 26)) rfl ((Blk.new w 26 [.slice Ap l.length cp, .slice A l2.length c]).cell 0) ((Blk.new w 26 [.slice Ap l.length cp, .slice A l2.length c]).cell 1) (hrow.rd.alloc (by omega) _) (h2.alloc (by omega) _) hb)
  have HB := Lib.hid hblk
  have HS := Lib.hid hS
  clear hrow h2 hblk hS
  go_enter Tryd.func24, Tryd.ntmps24
  go_wp2_with (go_at_call 31; refine HC.out.mono ?_; rintro e w1 ⟨A1, c1, S2, rfl, hrow, hu⟩; have hb2 := hu.below (fun _ h => h.elim) (Nat.le_refl _); obtain ⟨hc1, hf1⟩ := bcell hb2; have hz := hb2.size)
  go_end0
  refine ⟨rfl, fun k => k = b ∨ S2 k, ⟨A1, c1, S2, ?_, ?_, ?_, fun k => Iff.rfl⟩, ?_⟩
  · have := ((HB.out.alloc (.cells #[.slice Ap l.length cp, .slice A l2.length c] 26)).upd hu (fun h => h)).set 1 (.slice A1 (l.length + l2.length) c1)
    simpa using this
  · refine hrow.loc fun k hk => heap_set_other _ ?_
    rintro rfl
    rcases hu.own _ hk with h | h
    · exact h
    · simp at h; omega
  · intro h
    rcases hu.own _ h with h | h
    · exact h
    · simp at h; omega
  · have h1 : Upd S S w (w.alloc (.cells #[.slice Ap l.length cp, .slice A l2.length c] 26)) := (Upd.refl S w).alloc _
    have h2 := (h1.trans ((hu.wider (R := S) (fun k h => h.elim)).holds (S'' := fun k => k = b ∨ S2 k) (fun k hk => by
      rcases hk with rfl | hk
      · exact .inl ((HS.out _).2 (.inl rfl))
      · rcases hu.own k hk with h | h
        · exact h.elim
        · exact .inr h)))
    exact h2.setCell (.inl ((HS.out b).2 (.inl rfl))) _
end Go.Proofs.YthmfifcogokpoaaDoor
namespace Go.Proofs.YthmfifcogokpoaaDoor
open Go.RowKit

def num3 (l : List UInt8) : Nat := (l.getD 0 0).toNat * 65536 + (l.getD 1 0).toNat * 256 + (l.getD 2 0).toNat
def noFrame : FrameS := ⟨0, 0, 0, []⟩
/-- What frame.Next gives: the frame, the number, what is left. -/
def nextS (room : Int) (l : List UInt8) : FrameS × Int × List UInt8 :=
  if l.length < 9 then (noFrame, 4, l)
  else if room < num3 l then (noFrame, 3, l)
  else if l.length - 9 < num3 l then (noFrame, 4, l)
  else (⟨(l.getD 3 0).toNat, (l.getD 4 0).toNat, num4 (l.drop 5) &&& 2147483647, (l.drop 9).take (num3 l)⟩, 0, l.drop (9 + num3 l))

def NextQ (b : Nat) (room : Int) (r : FrameS × Int × List UInt8) (S : Own) (w : World) (e : Ending) (w' : World) : Prop :=
  ∃ A c S1 S2, e = .returned (.tuple #[r.1.v A c, .int .i64 r.2.1]) ∧ Row 5 1 A r.1.body.length c (bys r.1.body) S1 w' ∧ ParserAt w' b room r.2.2 S2 ∧ Apart S1 S2 ∧ Upd S (or_ S1 S2) w w'

noncomputable def nextBody : Code := ((Tryd.f25.body.bind firstScope).getD .skip)

theorem or_bytes3 (a b c : Nat) (ha : a < 256) (hb : b < 256) (hc : c < 256) :
    Go.bits .or .i64 (Go.bits .or .i64 ((a : Int) * 65536) ((b : Int) * 256)) (c : Int) = ((a * 65536 + b * 256 + c : Nat) : Int) := by
  have e1 : Go.bits .or .i64 ((a : Int) * 65536) ((b : Int) * 256) = ((a * 65536 + b * 256 : Nat) : Int) := by
    have := i64_or_nat (a * 65536) (b * 256) (by omega) (by omega)
    rw [show a * 65536 = a * 2 ^ 16 from rfl, or_low a (b * 256) 16 (by omega)] at this
    rw [show (a : Int) * 65536 = ((a * 2 ^ 16 : Nat) : Int) by omega, show (b : Int) * 256 = ((b * 256 : Nat) : Int) by omega]
    exact this
  rw [e1]
  have := i64_or_nat (a * 65536 + b * 256) c (by omega) (by omega)
  rw [show a * 65536 + b * 256 = (a * 256 + b) * 2 ^ 8 by omega, or_low (a * 256 + b) c 8 (by omega), show (a * 256 + b) * 2 ^ 8 = a * 65536 + b * 256 by omega] at this
  exact this

/-- Nothing is taken. -/
theorem NextQ.plain {b : Nat} {room : Int} {l : List UInt8} {S : Own} {w w' : World} {code : Int} (h : ParserAt w b room l S) (hb : Below w.heap.size w w') : NextQ b room (noFrame, code, l) S w (.returned (.tuple #[noFrame.v none 0, .int .i64 code])) w' :=
  ⟨none, 0, none_, S, rfl, Row.nil _ _ _, h.loc fun k hk => hb.block k (h.lt k hk), fun _ h => h.elim, Upd.of_below hb fun k hk => hk.elim (·.elim) .inl⟩

set_option maxRecDepth 100000 in
set_option maxHeartbeats 1000000 in
theorem next_short (b : Nat) (room : Int) (l : List UInt8) (S : Own) (w : World) (h : ParserAt w b room l S) (h9 : l.length < 9) :
    Calls Tryd.prog 25 #[.pointer (some ⟨b, 0, none⟩)] w (NextQ b room (noFrame, 4, l) S w) := by
  have H := Lib.hid h
  obtain ⟨A, c, S1, hblk, hrow, hns, hS⟩ := h
  have e1 := hblk.cell 1
  simp only [List.getElem?_cons_succ, List.getElem?_cons_zero] at e1
  have hlt := hblk.lt
  have t9 : decide ((l.length : Int) < 9) = true := decide_eq_true (by omega)
  have hlt1 : b < w.heap.size + 1 := by omega
  clear hblk hrow hns hS h9
  go_enter Tryd.func25, Tryd.ntmps25
  go_wp2
  refine wp_scope_as nextBody (by kernel_rfl) 1 ?_
  go_wp2
  go_step3
  simp only [Exit.then, Jumps_goto]
  refine Lab.step (by kernel_rfl) ?_
  show Code.wp _ _ _ _ _
  go_wp2
  refine bodyPost_ret (v := .tuple #[noFrame.v none 0, .int .i64 4]) (by (simp [results, Tryd.results25, go_sem, noFrame, FrameS.v]; try omega)) rfl ?_
  exact NextQ.plain H.out (by (focus repeat' (first | (with_reducible exact Below.refl _ _) | (with_reducible assumption) | (with_reducible refine Below.alloc ?_ ?_ _) | (with_reducible refine Below.drew ?_) | (with_reducible refine below_drewN ?_ _) | (with_reducible refine Below.setCell ?_ ?_ _) | (with_reducible refine Below.frame ?_ _) | go_size)))

/-- The nine bytes. -/
theorem head_cells {w : World} {A : Option Addr} {l : List UInt8} {c : Nat} (h : Rd w 1 A l.length c (bys l)) (h9 : 9 ≤ l.length) :
    ∃ ab ao, A = some ⟨ab, ao, none⟩ ∧ ab < w.heap.size ∧ ∀ k, k < 9 → w.cell? ⟨ab, ao + k, none⟩ = some (.int .u8 (l.getD k 0).toNat) := by
  obtain ⟨ab, ao, hA, hcell⟩ := h.form (by omega)
  refine ⟨ab, ao, hA, World.block_lt_of_cell? _ _ (hcell 0 _ (bys_get l 0 (by omega))), fun k hk => ?_⟩
  rw [hcell k _ (bys_get l k (by omega)), List.getD_eq_getElem?_getD, List.getElem?_eq_getElem (show k < l.length by omega)]
  rfl

set_option maxRecDepth 100000 in
set_option maxHeartbeats 1000000 in
theorem next_long (b : Nat) (room : Int) (l : List UInt8) (S : Own) (w : World) (h : ParserAt w b room l S) (h9 : ¬ l.length < 9) (hbig : room < num3 l) :
    Calls Tryd.prog 25 #[.pointer (some ⟨b, 0, none⟩)] w (NextQ b room (noFrame, 3, l) S w) := by
  have H := Lib.hid h
  obtain ⟨A, c, S1, hblk, hrow, hns, hS⟩ := h
  have e0 := hblk.cell 0
  have e1 := hblk.cell 1
  simp only [List.getElem?_cons_succ, List.getElem?_cons_zero] at e0 e1
  have hlt := hblk.lt
  have t9 : decide ((l.length : Int) < 9) = false := decide_eq_false (by omega)
  obtain ⟨ab, ao, hA, hab, hc⟩ := head_cells hrow.rd (by omega)
  subst hA
  have d0 := hc 0 (by omega)
  have d1 := hc 1 (by omega)
  have d2 := hc 2 (by omega)
  have x0 := (l.getD 0 0).toNat_lt
  have x1 := (l.getD 1 0).toNat_lt
  have x2 := (l.getD 2 0).toNat_lt
  unfold num3 at hbig
  generalize (l.getD 0 0).toNat = y0 at *
  generalize (l.getD 1 0).toNat = y1 at *
  generalize (l.getD 2 0).toNat = y2 at *
  have ho := or_bytes3 y0 y1 y2 x0 x1 x2
  generalize hn : y0 * 65536 + y1 * 256 + y2 = n at *
  have tb : decide (room < (n : Int)) = true := decide_eq_true hbig
  have hlt1 : b < w.heap.size + 1 := by omega
  have hab1 : ab < w.heap.size + 1 := by omega
  have j0 : (0 : Int) < (l.length : Int) := by omega
  have j00 : 0 < l.length := by omega
  have j1 : (1 : Int) < (l.length : Int) := by omega
  have j2 : (2 : Int) < (l.length : Int) := by omega
  simp only [Nat.add_zero] at d0
  clear hblk hrow hns hS h9 hc hn hbig
  go_enter Tryd.func25, Tryd.ntmps25
  go_wp2
  refine wp_scope_as nextBody (by kernel_rfl) 1 ?_
  go_wp2
  go_quiet (fail)
  go_wp2
  refine bodyPost_ret (v := .tuple #[noFrame.v none 0, .int .i64 3]) (by (simp [results, Tryd.results25, go_sem, noFrame, FrameS.v]; try omega)) rfl ?_
  exact NextQ.plain H.out (by (focus repeat' (first | (with_reducible exact Below.refl _ _) | (with_reducible assumption) | (with_reducible refine Below.alloc ?_ ?_ _) | (with_reducible refine Below.drew ?_) | (with_reducible refine below_drewN ?_ _) | (with_reducible refine Below.setCell ?_ ?_ _) | (with_reducible refine Below.frame ?_ _) | go_size)))

set_option maxRecDepth 100000 in
set_option maxHeartbeats 1000000 in
theorem next_part (b : Nat) (room : Int) (l : List UInt8) (S : Own) (w : World) (h : ParserAt w b room l S) (h9 : ¬ l.length < 9) (hbig : ¬ room < num3 l) (hm : l.length - 9 < num3 l) :
    Calls Tryd.prog 25 #[.pointer (some ⟨b, 0, none⟩)] w (NextQ b room (noFrame, 4, l) S w) := by
  have H := Lib.hid h
  obtain ⟨A, c, S1, hblk, hrow, hns, hS⟩ := h
  have e0 := hblk.cell 0
  have e1 := hblk.cell 1
  simp only [List.getElem?_cons_succ, List.getElem?_cons_zero] at e0 e1
  have hlt := hblk.lt
  have hcap : l.length ≤ 9223372036854775807 := by have h1 := hrow.rd.le; have h2 := hrow.rd.cap; simp only [maxLen] at h2; omega
  have t9 : decide ((l.length : Int) < 9) = false := decide_eq_false (by omega)
  obtain ⟨ab, ao, hA, hab, hc⟩ := head_cells hrow.rd (by omega)
  subst hA
  have d0 := hc 0 (by omega)
  have d1 := hc 1 (by omega)
  have d2 := hc 2 (by omega)
  have x0 := (l.getD 0 0).toNat_lt
  have x1 := (l.getD 1 0).toNat_lt
  have x2 := (l.getD 2 0).toNat_lt
  unfold num3 at hbig hm
  generalize (l.getD 0 0).toNat = y0 at *
  generalize (l.getD 1 0).toNat = y1 at *
  generalize (l.getD 2 0).toNat = y2 at *
  have ho := or_bytes3 y0 y1 y2 x0 x1 x2
  generalize hn : y0 * 65536 + y1 * 256 + y2 = n at *
  have tb : decide (room < (n : Int)) = false := decide_eq_false hbig
  have tm : decide ((l.length : Int) - 9 < (n : Int)) = true := decide_eq_true (by omega)
  have tm2 : (l.length : Int) - 9 < (n : Int) := by omega
  have hlt1 : b < w.heap.size + 1 := by omega
  have hab1 : ab < w.heap.size + 1 := by omega
  have j0 : (0 : Int) < (l.length : Int) := by omega
  have j00 : 0 < l.length := by omega
  have j1 : (1 : Int) < (l.length : Int) := by omega
  have j2 : (2 : Int) < (l.length : Int) := by omega
  simp only [Nat.add_zero] at d0
  clear hblk hrow hns hS h9 hc hn hbig hm
  go_enter Tryd.func25, Tryd.ntmps25
  go_wp2
  refine wp_scope_as nextBody (by kernel_rfl) 1 ?_
  go_wp2
  go_quiet (fail)
  go_wp2
  go_step3
  simp only [Exit.then, Jumps_goto]
  refine Lab.step (by kernel_rfl) ?_
  show Code.wp _ _ _ _ _
  go_wp2
  refine bodyPost_ret (v := .tuple #[noFrame.v none 0, .int .i64 4]) (by (simp [results, Tryd.results25, go_sem, noFrame, FrameS.v]; try omega)) rfl ?_
  exact NextQ.plain H.out (by (focus repeat' (first | (with_reducible exact Below.refl _ _) | (with_reducible assumption) | (with_reducible refine Below.alloc ?_ ?_ _) | (with_reducible refine Below.drew ?_) | (with_reducible refine below_drewN ?_ _) | (with_reducible refine Below.setCell ?_ ?_ _) | (with_reducible refine Below.frame ?_ _) | go_size)))
end Go.Proofs.YthmfifcogokpoaaDoor
namespace Go.Proofs.YthmfifcogokpoaaDoor
open Go.RowKit

/-- What stands behind the first n statements. -/
def tailW (P : Program) : Nat → Code → (Exit → Act → World → Prop) → Act → World → Prop
  | 0, c, Q => c.wp P Q
  | n + 1, .seq _ y, Q => tailW P n y Q
  | _ + 1, _, _ => fun _ _ => False
/-- The first n statements, and K there. -/
def uptoW (P : Program) : Nat → (Act → World → Prop) → Code → (Exit → Act → World → Prop) → Act → World → Prop
  | 0, K, _, _ => K
  | n + 1, K, .seq x y, Q => fun a w => x.wp P (Exit.then (uptoW P n K y Q) Q) a w
  | _ + 1, _, _, _ => fun _ _ => False
theorem wp_cut {P : Program} : ∀ (n : Nat) (c : Code) (Q : Exit → Act → World → Prop) (a : Act) (w : World), uptoW P n (tailW P n c Q) c Q a w → c.wp P Q a w
  | 0, c, Q, a, w, h => h
  | n + 1, .seq x y, Q, a, w, h => by
    refine wp_seq (Code.wp_mono (fun e a w q => ?_) h)
    cases e with
    | normal => exact wp_cut n y Q a w q
    | exit id => exact q
    | goto l' => exact q
    | ret => exact q
    | panic ch => exact q
    | outgrown => exact q
  | _ + 1, .skip, _, _, _, h => h.elim
  | _ + 1, .region .., _, _, _, h => h.elim
  | _ + 1, .cond .., _, _, _, h => h.elim
  | _ + 1, .block .., _, _, _, h => h.elim
  | _ + 1, .loop .., _, _, _, h => h.elim
  | _ + 1, .rangeFunc .., _, _, _, h => h.elim
  | _ + 1, .exit .., _, _, _, h => h.elim
  | _ + 1, .scope .., _, _, _, h => h.elim
  | _ + 1, .label .., _, _, _, h => h.elim
  | _ + 1, .goto .., _, _, _, h => h.elim
  | _ + 1, .ret, _, _, _, h => h.elim
  | _ + 1, .refuse .., _, _, _, h => h.elim
/-- The same of a body that bears a name. -/
theorem wp_cut_as {P : Program} {c : Code} {Q : Exit → Act → World → Prop} {a : Act} {w : World} (c' : Code) (hc : c' = c) (n : Nat) (h : uptoW P n (tailW P n c' Q) c Q a w) : c.wp P Q a w := by
  subst hc; exact wp_cut n c' Q a w h
/-- The n-th statement, and K behind it. -/
def stepW (P : Program) : Nat → (Act → World → Prop) → Code → (Exit → Act → World → Prop) → Act → World → Prop
  | 0, K, .seq x _, Q => fun a w => x.wp P (Exit.then K Q) a w
  | n + 1, K, .seq _ y, Q => stepW P n K y Q
  | _, _, _, _ => fun _ _ => False
theorem tail_step {P : Program} : ∀ (n : Nat) (c : Code) {Q : Exit → Act → World → Prop} {a : Act} {w : World}, stepW P n (tailW P (n + 1) c Q) c Q a w → tailW P n c Q a w
  | 0, .seq x y, Q, a, w, h => wp_seq h
  | n + 1, .seq x y, Q, a, w, h => tail_step n y h
  | 0, .skip, _, _, _, h => h.elim
  | 0, .region .., _, _, _, h => h.elim
  | 0, .cond .., _, _, _, h => h.elim
  | 0, .block .., _, _, _, h => h.elim
  | 0, .loop .., _, _, _, h => h.elim
  | 0, .rangeFunc .., _, _, _, h => h.elim
  | 0, .exit .., _, _, _, h => h.elim
  | 0, .scope .., _, _, _, h => h.elim
  | 0, .label .., _, _, _, h => h.elim
  | 0, .goto .., _, _, _, h => h.elim
  | 0, .ret, _, _, _, h => h.elim
  | 0, .refuse .., _, _, _, h => h.elim
  | _ + 1, .skip, _, _, _, h => h.elim
  | _ + 1, .region .., _, _, _, h => h.elim
  | _ + 1, .cond .., _, _, _, h => h.elim
  | _ + 1, .block .., _, _, _, h => h.elim
  | _ + 1, .loop .., _, _, _, h => h.elim
  | _ + 1, .rangeFunc .., _, _, _, h => h.elim
  | _ + 1, .exit .., _, _, _, h => h.elim
  | _ + 1, .scope .., _, _, _, h => h.elim
  | _ + 1, .label .., _, _, _, h => h.elim
  | _ + 1, .goto .., _, _, _, h => h.elim
  | _ + 1, .ret, _, _, _, h => h.elim
  | _ + 1, .refuse .., _, _, _, h => h.elim
/-- Label l is the n-th statement. -/
def labAt (l : Nat) : Nat → Code → Bool
  | 0, .seq (.label l') _ => l' == l
  | n + 1, .seq x y => (findLabel x l).isNone && labAt l n y
  | _, _ => false
theorem lab_tail {P : Program} (l : Nat) : ∀ (n : Nat) (c : Code) {Q : Exit → Act → World → Prop} {a : Act} {w : World}, labAt l n c = true → tailW P (n + 1) c Q a w → labW P c l Q a w
  | 0, .seq x y, Q, a, w, hl, h => by
    cases x with
    | label l' =>
      have h1 : l' = l := by simpa [labAt] using hl
      subst h1
      have h2 : (findLabel (.label l') l').isSome = true := by simp [findLabel]
      simp only [labW, h2, if_true]
      exact h
    | _ => simp [labAt] at hl
  | n + 1, .seq x y, Q, a, w, hl, h => by
    simp only [labAt, Bool.and_eq_true] at hl
    obtain ⟨h1, h2⟩ := hl
    have h3 : (findLabel x l).isSome = false := by
      cases hx : findLabel x l with
      | none => rfl
      | some r => rw [hx] at h1; cases h1
    simp only [labW, h3, Bool.false_eq_true, if_false]
    exact lab_tail l n y h2 h
  | 0, .skip, _, _, _, hl, _ => by cases hl
  | 0, .region .., _, _, _, hl, _ => by cases hl
  | 0, .cond .., _, _, _, hl, _ => by cases hl
  | 0, .block .., _, _, _, hl, _ => by cases hl
  | 0, .loop .., _, _, _, hl, _ => by cases hl
  | 0, .rangeFunc .., _, _, _, hl, _ => by cases hl
  | 0, .exit .., _, _, _, hl, _ => by cases hl
  | 0, .scope .., _, _, _, hl, _ => by cases hl
  | 0, .label .., _, _, _, hl, _ => by cases hl
  | 0, .goto .., _, _, _, hl, _ => by cases hl
  | 0, .ret, _, _, _, hl, _ => by cases hl
  | 0, .refuse .., _, _, _, hl, _ => by cases hl
  | _ + 1, .skip, _, _, _, hl, _ => by cases hl
  | _ + 1, .region .., _, _, _, hl, _ => by cases hl
  | _ + 1, .cond .., _, _, _, hl, _ => by cases hl
  | _ + 1, .block .., _, _, _, hl, _ => by cases hl
  | _ + 1, .loop .., _, _, _, hl, _ => by cases hl
  | _ + 1, .rangeFunc .., _, _, _, hl, _ => by cases hl
  | _ + 1, .exit .., _, _, _, hl, _ => by cases hl
  | _ + 1, .scope .., _, _, _, hl, _ => by cases hl
  | _ + 1, .label .., _, _, _, hl, _ => by cases hl
  | _ + 1, .goto .., _, _, _, hl, _ => by cases hl
  | _ + 1, .ret, _, _, _, hl, _ => by cases hl
  | _ + 1, .refuse .., _, _, _, hl, _ => by cases hl
end Go.Proofs.YthmfifcogokpoaaDoor
namespace Go.Proofs.YthmfifcogokpoaaDoor
open Go.RowKit

/-- 's[lo:hi]' of bytes that are read. -/
theorem Rd.mid {w : World} {A : Option Addr} {c : Nat} {l : List UInt8} (h : Rd w 1 A l.length c (bys l)) (lo hi : Nat) (h1 : lo ≤ hi) (h2 : hi ≤ l.length) :
    ∃ A1 c1, (∀ W, (Instr.slice 26 (.slice A l.length c) (some (.int .i64 lo)) (some (.int .i64 hi)) none).run Tryd.prog W = .ok (.slice A1 ((l.drop lo).take (hi - lo)).length c1) W) ∧ Rd w 1 A1 ((l.drop lo).take (hi - lo)).length c1 (bys ((l.drop lo).take (hi - lo))) := by
  have hle := h.le
  have hd := (h.drop (k := lo) (by omega)).take (k := hi - lo) (by omega)
  have hx : ((bys l).drop (lo * 1)).take ((hi - lo) * 1) = bys ((l.drop lo).take (hi - lo)) := by simp [bys, List.map_take, List.map_drop]
  have hl : ((l.drop lo).take (hi - lo)).length = hi - lo := by rw [List.length_take, List.length_drop]; omega
  rw [hx] at hd
  rw [hl]
  refine ⟨_, _, fun W => ?_, hd⟩
  rw [run_slice_lh W _ A _ _ elemBytes .i64 .i64 lo hi (by omega) (by omega) (by omega)]
  simp only [Int.toNat_natCast]
  have hs : (sizeOf (Tryd.prog.elem 26)).run Tryd.prog W = .ok 1 W := by kernel_rfl
  rw [hs]
  rfl
/-- 's[k:]' of bytes that are held. -/
theorem Row.cut {w : World} {S : Own} {A : Option Addr} {c : Nat} {l : List UInt8} (h : Row 5 1 A l.length c (bys l) S w) (k : Nat) (hk : k ≤ l.length) :
    ∃ A1 c1, (∀ W, (Instr.slice 26 (.slice A l.length c) (some (.int .i64 k)) none none).run Tryd.prog W = .ok (.slice A1 (l.drop k).length c1) W) ∧ Row 5 1 A1 (l.drop k).length c1 (bys (l.drop k)) S w := by
  have hd := h.drop (k := k) hk
  have hx : (bys l).drop (k * 1) = bys (l.drop k) := by simp [bys]
  have hl : (l.drop k).length = l.length - k := by simp
  rw [hx] at hd
  rw [hl]
  refine ⟨_, _, fun W => ?_, hd⟩
  rw [run_slice_l W _ A _ _ elemBytes .i64 k (by omega) (by omega)]
  simp only [Int.toNat_natCast]
  have hs : (sizeOf (Tryd.prog.elem 26)).run Tryd.prog W = .ok 1 W := by kernel_rfl
  rw [hs]
  rfl

theorem next_end {b : Nat} {room : Int} {rest : List UInt8} {n : Nat} {S S1 S' : Own} {w w' : World} {A0 A' Ac : Option Addr} {c0 c' kc : Nat} {x0 x1 x2 x3 x4 : Value} (f : FrameS) (hblk : Blk w b 73 [.int .i64 room, .slice A0 n c0]) (hns : ¬ S1 b) (hS : ∀ k, S k ↔ k = b ∨ S1 k)
    (hrc : Row 5 1 Ac rest.length kc (bys rest) S1 w) (hb3 : Below w.heap.size w w') (hrow : Row 5 1 A' f.body.length c' (bys f.body) S' w') (hown : ∀ k, S' k → w.heap.size + 2 ≤ k) :
    NextQ b room (f, 0, rest) S w (.returned (.tuple #[f.v A' c', .int .i64 0])) ((((((w'.setCell ⟨w.heap.size + 1, 3, none⟩ x0).setCell ⟨b, 1, none⟩ (.slice Ac rest.length kc)).setCell ⟨w.heap.size, 0, none⟩ x1).setCell ⟨w.heap.size, 1, none⟩ x2).setCell ⟨w.heap.size, 2, none⟩ x3).setCell ⟨w.heap.size, 3, none⟩ x4) := by
  have hlt := hblk.lt
  have hSlt : ∀ k, S k → k < w.heap.size := fun k hk => by
    rcases (hS k).1 hk with rfl | h
    · exact hlt
    · exact hrc.lt k h
  refine ⟨A', c', S', S, rfl, hrow.above (B := w.heap.size + 2) hown ?_, ⟨Ac, kc, S1, ?_, ?_, hns, hS⟩, fun k hk hs => by have := hown k hk; have := hSlt k hs; omega, ?_⟩
  · (focus repeat' (first | (with_reducible exact Above.refl _ _) | (with_reducible assumption) | (with_reducible refine Above.setCell ?_ ?_ _) | (with_reducible refine Above.alloc ?_ _) | (with_reducible refine Above.drew ?_) | (with_reducible refine Above.drewN ?_ _) | go_size))
  · exact ((((((hblk.below hb3 hlt).far (by simp; omega) _).set 1 _).far (by simp; omega) _).far (by simp; omega) _).far (by simp; omega) _).far (by simp; omega) _
  · refine hrc.loc fun k hk => ?_
    have h1 := hrc.lt k hk
    have h2 : k ≠ b := by rintro rfl; exact hns hk
    iterate 6 (refine (heap_set_other _ (by simp; omega)).trans ?_)
    exact hb3.block k h1
  · have hb := (hS b).2 (.inl rfl)
    iterate 4 (refine Upd.setCell ?_ (.inr (by simp)) _)
    refine Upd.setCell ?_ (.inl hb) _
    refine Upd.setCell ?_ (.inr (by simp)) _
    exact Upd.of_below hb3 fun k hk => hk.elim (fun h => .inr (by have := hown k h; omega)) .inl

/-- What the walk knows ahead of the frame's body. -/
structure NextM (w W : World) (b : Nat) (room : Int) (l : List UInt8) (S : Own) (n : Nat) (y3 y4 s31 : Nat) : Prop where
  par : ParserAt w b room l S
  len : 9 + n ≤ l.length
  small : l.length ≤ 1000000000000
  below : Below w.heap.size w W
  size : w.heap.size + 2 ≤ W.heap.size
  res : Blk W w.heap.size 29 [.int .i64 0, .int .i64 0, .int .i64 0, .slice none 0 0]
  fr : Blk W (w.heap.size + 1) 29 [.int .i64 y3, .int .i64 y4, .int .i64 s31, .slice none 0 0]

set_option maxRecDepth 100000 in
set_option maxHeartbeats 2000000 in
theorem next_tail (w W : World) (b : Nat) (room : Int) (l : List UInt8) (S : Own) (n y3 y4 s31 : Nat) (hM : NextM w W b room l S n y3 y4 s31) (jumps : Nat) (u1 u6 u7 u8 u9 u10 u11 u12 u13 u14 u15 u16 u17 u18 u19 u20 u21 u22 u23 u24 u25 u26 u27 u28 u29 u30 u31 u32 u33 u34 u35 u36 u37 u38 u39 u40 u41 u42 u43 u44 u45 u46 u47 u48 u49 u50 u51 u52 u53 u54 u55 u56 u57 u58 u59 u60 u61 u62 u63 u64 u65 u66 u67 u68 u69 u70 u71 u72 u73 u74 u75 u76 u77 u78 u79 u80 u81 u82 u83 u84 u85 u86 u87 u88 u89 u90 u91 u92 u93 u94 u95 u96 u97 u98 u99 u100 u101 u102 u103 u104 u105 u106 u107 u108 u109 u110 u111 u112 u113 u114 u115 u116 u117 u118 u119 u120 u121 u122 u123 u124 : Value) :
    tailW Tryd.prog 8 nextBody (Jumps (Lab Tryd.prog nextBody (bodyPost Tryd.prog Tryd.f25 (NextQ b room (⟨y3, y4, s31, (l.drop 9).take n⟩, 0, l.drop (9 + n)) S w)) jumps) (bodyPost Tryd.prog Tryd.f25 (NextQ b room (⟨y3, y4, s31, (l.drop 9).take n⟩, 0, l.drop (9 + n)) S w))) ⟨#[.pointer (some ⟨b, 0, none⟩), u1, .pointer (some ⟨w.heap.size, 0, none⟩), .int .i64 0, .pointer (some ⟨w.heap.size + 1, 0, none⟩), .int .i64 n, u6, u7, u8, u9, u10, u11, u12, u13, u14, u15, u16, u17, u18, u19, u20, u21, u22, u23, u24, u25, u26, u27, u28, u29, u30, u31, u32, u33, u34, u35, u36, u37, u38, u39, u40, u41, u42, u43, u44, u45, u46, u47, u48, u49, u50, u51, u52, u53, u54, u55, u56, u57, u58, u59, u60, u61, u62, u63, u64, u65, u66, u67, u68, u69, u70, u71, u72, u73, u74, u75, u76, u77, u78, u79, u80, u81, u82, u83, u84, u85, u86, u87, u88, u89, u90, u91, u92, u93, u94, u95, u96, u97, u98, u99, u100, u101, u102, u103, u104, u105, u106, u107, u108, u109, u110, u111, u112, u113, u114, u115, u116, u117, u118, u119, u120, u121, u122, u123, u124], []⟩ W := by
  obtain ⟨h, hlen, hsmall, hbel, hsz, hres, hfr⟩ := hM
  obtain ⟨A, c, S1, hblk, hrow, hns, hS⟩ := h
  have hlt := hblk.lt
  have hblkW := hblk.below hbel hlt
  have e1 := hblkW.cell 1
  have f1 := hblkW.frozen 1
  simp only [List.getElem?_cons_succ, List.getElem?_cons_zero] at e1
  obtain ⟨Am, km, hsm, hrm⟩ := (hrow.rd.grow (by omega) hbel).mid 9 (9 + n) (by omega) hlen
  obtain ⟨Ac, kc, hsc, hrc⟩ := Row.cut hrow (9 + n) hlen
  rw [show 9 + n - 9 = n by omega] at hsm hrm
  have hbig1 : ((l.drop 9).take n).length ≤ big := by rw [List.length_take, List.length_drop]; simp only [big]; omega
  generalize (l.drop 9).take n = body at *
  generalize l.drop (9 + n) = rest at *
  have hcap : l.length ≤ 9223372036854775807 := by omega
  rw [show ((9 : Nat) : Int) = 9 from rfl, show ((9 + n : Nat) : Int) = 9 + (n : Int) by omega] at hsm
  rw [show ((9 + n : Nat) : Int) = 9 + (n : Int) by omega] at hsc
  have hltW : b < W.heap.size := hblkW.lt
  have r0 := hres.cell 0
  have r1 := hres.cell 1
  have r2 := hres.cell 2
  have r3 := hres.cell 3
  have v0 := hres.frozen 0
  have v1 := hres.frozen 1
  have v2 := hres.frozen 2
  have v3 := hres.frozen 3
  have q0 := hfr.cell 0
  have q1 := hfr.cell 1
  have q2 := hfr.cell 2
  have q3 := hfr.cell 3
  have z3 := hfr.frozen 3
  simp only [List.getElem?_cons_succ, List.getElem?_cons_zero] at r0 r1 r2 r3 q0 q1 q2 q3
  have nb1 : ¬ b = w.heap.size + 1 := by omega
  have nb2 : ¬ w.heap.size + 1 = b := by omega
  have nbn : ¬ b = w.heap.size := by omega
  have nbn2 : ¬ w.heap.size = b := by omega
  have l0 : w.heap.size < W.heap.size := by omega
  have l1 : w.heap.size + 1 < W.heap.size := by omega
  have h1 := bys_one body
  have HRM := Lib.hid hrm
  have HRC := Lib.hid hrc
  have HBK := Lib.hid hblk
  have HNS := Lib.hid hns
  have HS := Lib.hid hS
  have HBEL := Lib.hid hbel
  have HRES := Lib.hid hres
  clear hblk hrow hns hS hrm hrc hbel hblkW hres hfr
  show Code.wp _ _ _ _ _
  go_wp2_with (first | (go_at_call 29; refine (bytesClone_any _ _ _ _ _ HRM.out h1 hbig1).mono ?_; rintro e w' ⟨A', c', S', rfl, hrow, hu⟩; have hb2 := hu.below (fun _ h => h.elim) (Nat.le_refl _); obtain ⟨hc1, hf1⟩ := bcell hb2; have hz := hb2.size))
  have hb3 : Below w.heap.size w w' := HBEL.out.trans (hb2.mono HBEL.out.size)
  have ho : ∀ k, S' k → w.heap.size + 2 ≤ k := fun k hk => (hu.own k hk).elim (fun h => h.elim) (fun h => by omega)
  have B2 : Blk w' w.heap.size 29 [.int .i64 0, .int .i64 0, .int .i64 0, .slice none 0 0] := HRES.out.upd hu (fun h => h)
  have g0 := B2.cell 0
  have g1 := B2.cell 1
  have g2 := B2.cell 2
  have g3 := B2.cell 3
  simp only [List.getElem?_cons_succ, List.getElem?_cons_zero] at g0 g1 g2 g3
  have HE := next_end (x0 := .slice A' body.length c') (x1 := .int .i64 y3) (x2 := .int .i64 y4) (x3 := .int .i64 s31) (x4 := .slice A' body.length c') ⟨y3, y4, s31, body⟩ HBK.out HNS.out HS.out HRC.out hb3 hrow ho
  have HE2 := Lib.hid HE
  clear HE hc1 hf1 hz hb2 hb3 B2 hu hrow ho e1 f1 HRM HRC HBK HNS HS HBEL HRES hsm hsc r0 r1 r2 r3 v0 v1 v2 v3 q0 q1 q2 q3 z3
  exact bodyPost_ret (v := .tuple #[(⟨y3, y4, s31, body⟩ : FrameS).v A' c', .int .i64 0]) (by (simp [results, Tryd.results25, go_sem, g0, g1, g2, g3, nbn, nbn2, FrameS.v]; try omega)) rfl HE2.out
end Go.Proofs.YthmfifcogokpoaaDoor
