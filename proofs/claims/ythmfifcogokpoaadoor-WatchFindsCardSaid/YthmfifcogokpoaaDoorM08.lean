/- What is proved here: contracts of the program's functions and plain lemmas that the claim's last text uses, in parts: part.Read; part.Read. -/
import Derived.Test.YthmfifcogokpoaaDoorM07
set_option linter.unusedVariables false
set_option linter.unusedSimpArgs false
namespace Go.Proofs.YthmfifcogokpoaaDoor
open Go.RowKit

attribute [local go_sem] PartS.v

def readS (f : FrameS) : PartS × Fault :=
  if f.kind = 0 ∨ f.kind = 1 then bodiedS f
  else if f.kind = 4 then settingsS f
  else if f.kind = 5 then connS 1
  else if f.kind = 6 ∨ f.kind = 7 then wholeS f
  else if f.kind = 8 then updateS f
  else if f.kind = 2 ∨ f.kind = 3 ∨ f.kind = 9 then
    if f.stream = 0 then connS 1
    else if f.kind = 9 then ({ noPart with data := f.body, whole := decide (0 < f.flags &&& 4) }, noFault)
    else if f.kind = 2 then (if f.body.length ≠ 5 then streamS 6 else (noPart, noFault))
    else if f.body.length ≠ 4 then connS 6
    else ({ noPart with code := num4 f.body }, noFault)
  else (noPart, noFault)

theorem PartQ.pass {r : PartS × Fault} {w W w' W' : World} {A : Option Addr} {c : Nat} {A2 : Option Addr} {c2 : Nat} {S1 S2 : Own} (h1 : Row 5 1 A r.1.data.length c (bys r.1.data) S1 w') (h2 : Row 66 2 A2 r.1.sets.length c2 (setCells r.1.sets) S2 w')
    (hd : ∀ k, S1 k → ¬ S2 k) (hu : Upd none_ (fun k => S1 k ∨ S2 k) W w') (h0 : w.heap.size ≤ W.heap.size) (ha : Above W.heap.size w' W') (hb : Below w.heap.size w W') : PartQ r w (.returned (.tuple #[r.1.v A c A2 c2, r.2.v])) W' := by
  have ho : ∀ k, S1 k ∨ S2 k → W.heap.size ≤ k := fun k hk => (hu.own k hk).elim (·.elim) id
  exact ⟨A, c, A2, c2, S1, S2, rfl, h1.above (fun k hk => ho k (.inl hk)) ha, h2.above (fun k hk => ho k (.inr hk)) ha, hd, Upd.of_below hb fun k hk => .inr (Nat.le_trans h0 (ho k hk))⟩

set_option maxRecDepth 100000 in
set_option maxHeartbeats 1000000 in
theorem read_bodied0 (flags stream : Nat) (l : List UInt8) (A : Option Addr) (c : Nat) (w : World) (hf : (⟨0, flags, stream, l⟩ : FrameS).Ok) (hr : Rd w 1 A l.length c (bys l)) :
    Calls Tryd.prog 32 #[.agg #[.int .i64 ((0 : Nat) : Int), .int .i64 flags, .int .i64 stream, .slice A l.length c]] w (PartQ (bodiedS ⟨0, flags, stream, l⟩) w) := by
  have HC := Lib.hid (fun W (hb : Below w.heap.size w W) => bodied_any ⟨0, flags, stream, l⟩ A c W hf (hr.grow (by omega) hb))
  clear hf hr
  simp only [FrameS.v, Int.cast_ofNat_Int] at HC
  generalize bodiedS ⟨0, flags, stream, l⟩ = r at *
  simp only [Int.cast_ofNat_Int]
  go_enter Tryd.func32, Tryd.ntmps32
  go_wp2_with (go_at_call 39; refine (HC.out _ ?_).mono ?_; ((focus repeat' (first | (with_reducible exact Below.refl _ _) | (with_reducible assumption) | (with_reducible refine Below.alloc ?_ ?_ _) | (with_reducible refine Below.drew ?_) | (with_reducible refine below_drewN ?_ _) | (with_reducible refine Below.setCell ?_ ?_ _) | (with_reducible refine Below.frame ?_ _) | go_size))); rintro e w' ⟨A', c', A2, c2, S1, S2, rfl, hr1, hr2, hd, hu⟩; have hb2 := hu.below (fun _ h => h.elim) (Nat.le_refl _); obtain ⟨hc1, hf1⟩ := bcell hb2; have hz := hb2.size)
  refine bodyPost_ret (v := .tuple #[r.1.v A' c' A2 c2, r.2.v]) (by (simp [results, Tryd.results32, go_sem, hc1, hz, PartS.v, Fault.v]; try omega)) rfl ?_
  have hb3 : Below w.heap.size w w' := bcall hb2 (by (focus repeat' (first | (with_reducible exact Below.refl _ _) | (with_reducible assumption) | (with_reducible refine Below.alloc ?_ ?_ _) | (with_reducible refine Below.drew ?_) | (with_reducible refine below_drewN ?_ _) | (with_reducible refine Below.setCell ?_ ?_ _) | (with_reducible refine Below.frame ?_ _) | go_size)))
  refine PartQ.pass hr1 hr2 hd hu (by go_size) ?_ ?_
  · ((focus repeat' (first | (with_reducible exact Above.refl _ _) | (with_reducible assumption) | (with_reducible refine Above.setCell ?_ ?_ _) | (with_reducible refine Above.alloc ?_ _) | (with_reducible refine Above.drew ?_) | (with_reducible refine Above.drewN ?_ _) | go_size)))
  · ((focus repeat' (first | (with_reducible exact Below.refl _ _) | (with_reducible assumption) | (with_reducible refine Below.alloc ?_ ?_ _) | (with_reducible refine Below.drew ?_) | (with_reducible refine below_drewN ?_ _) | (with_reducible refine Below.setCell ?_ ?_ _) | (with_reducible refine Below.frame ?_ _) | go_size)))

set_option maxRecDepth 100000 in
set_option maxHeartbeats 1000000 in
theorem read_bodied1 (flags stream : Nat) (l : List UInt8) (A : Option Addr) (c : Nat) (w : World) (hf : (⟨1, flags, stream, l⟩ : FrameS).Ok) (hr : Rd w 1 A l.length c (bys l)) :
    Calls Tryd.prog 32 #[.agg #[.int .i64 ((1 : Nat) : Int), .int .i64 flags, .int .i64 stream, .slice A l.length c]] w (PartQ (bodiedS ⟨1, flags, stream, l⟩) w) := by
  have HC := Lib.hid (fun W (hb : Below w.heap.size w W) => bodied_any ⟨1, flags, stream, l⟩ A c W hf (hr.grow (by omega) hb))
  clear hf hr
  simp only [FrameS.v, Int.cast_ofNat_Int] at HC
  generalize bodiedS ⟨1, flags, stream, l⟩ = r at *
  simp only [Int.cast_ofNat_Int]
  go_enter Tryd.func32, Tryd.ntmps32
  go_wp2_with (go_at_call 39; refine (HC.out _ ?_).mono ?_; ((focus repeat' (first | (with_reducible exact Below.refl _ _) | (with_reducible assumption) | (with_reducible refine Below.alloc ?_ ?_ _) | (with_reducible refine Below.drew ?_) | (with_reducible refine below_drewN ?_ _) | (with_reducible refine Below.setCell ?_ ?_ _) | (with_reducible refine Below.frame ?_ _) | go_size))); rintro e w' ⟨A', c', A2, c2, S1, S2, rfl, hr1, hr2, hd, hu⟩; have hb2 := hu.below (fun _ h => h.elim) (Nat.le_refl _); obtain ⟨hc1, hf1⟩ := bcell hb2; have hz := hb2.size)
  refine bodyPost_ret (v := .tuple #[r.1.v A' c' A2 c2, r.2.v]) (by (simp [results, Tryd.results32, go_sem, hc1, hz, PartS.v, Fault.v]; try omega)) rfl ?_
  have hb3 : Below w.heap.size w w' := bcall hb2 (by (focus repeat' (first | (with_reducible exact Below.refl _ _) | (with_reducible assumption) | (with_reducible refine Below.alloc ?_ ?_ _) | (with_reducible refine Below.drew ?_) | (with_reducible refine below_drewN ?_ _) | (with_reducible refine Below.setCell ?_ ?_ _) | (with_reducible refine Below.frame ?_ _) | go_size)))
  refine PartQ.pass hr1 hr2 hd hu (by go_size) ?_ ?_
  · ((focus repeat' (first | (with_reducible exact Above.refl _ _) | (with_reducible assumption) | (with_reducible refine Above.setCell ?_ ?_ _) | (with_reducible refine Above.alloc ?_ _) | (with_reducible refine Above.drew ?_) | (with_reducible refine Above.drewN ?_ _) | go_size)))
  · ((focus repeat' (first | (with_reducible exact Below.refl _ _) | (with_reducible assumption) | (with_reducible refine Below.alloc ?_ ?_ _) | (with_reducible refine Below.drew ?_) | (with_reducible refine below_drewN ?_ _) | (with_reducible refine Below.setCell ?_ ?_ _) | (with_reducible refine Below.frame ?_ _) | go_size)))

set_option maxRecDepth 100000 in
set_option maxHeartbeats 1000000 in
theorem read_settings4 (flags stream : Nat) (l : List UInt8) (A : Option Addr) (c : Nat) (w : World) (hf : (⟨4, flags, stream, l⟩ : FrameS).Ok) (hr : Rd w 1 A l.length c (bys l)) :
    Calls Tryd.prog 32 #[.agg #[.int .i64 ((4 : Nat) : Int), .int .i64 flags, .int .i64 stream, .slice A l.length c]] w (PartQ (settingsS ⟨4, flags, stream, l⟩) w) := by
  have HC := Lib.hid (fun W (hb : Below w.heap.size w W) => settings_any ⟨4, flags, stream, l⟩ A c W hf (hr.grow (by omega) hb))
  clear hf hr
  simp only [FrameS.v, Int.cast_ofNat_Int] at HC
  generalize settingsS ⟨4, flags, stream, l⟩ = r at *
  simp only [Int.cast_ofNat_Int]
  go_enter Tryd.func32, Tryd.ntmps32
  go_wp2_with (go_at_call 40; refine (HC.out _ ?_).mono ?_; ((focus repeat' (first | (with_reducible exact Below.refl _ _) | (with_reducible assumption) | (with_reducible refine Below.alloc ?_ ?_ _) | (with_reducible refine Below.drew ?_) | (with_reducible refine below_drewN ?_ _) | (with_reducible refine Below.setCell ?_ ?_ _) | (with_reducible refine Below.frame ?_ _) | go_size))); rintro e w' ⟨A', c', A2, c2, S1, S2, rfl, hr1, hr2, hd, hu⟩; have hb2 := hu.below (fun _ h => h.elim) (Nat.le_refl _); obtain ⟨hc1, hf1⟩ := bcell hb2; have hz := hb2.size)
  refine bodyPost_ret (v := .tuple #[r.1.v A' c' A2 c2, r.2.v]) (by (simp [results, Tryd.results32, go_sem, hc1, hz, PartS.v, Fault.v]; try omega)) rfl ?_
  have hb3 : Below w.heap.size w w' := bcall hb2 (by (focus repeat' (first | (with_reducible exact Below.refl _ _) | (with_reducible assumption) | (with_reducible refine Below.alloc ?_ ?_ _) | (with_reducible refine Below.drew ?_) | (with_reducible refine below_drewN ?_ _) | (with_reducible refine Below.setCell ?_ ?_ _) | (with_reducible refine Below.frame ?_ _) | go_size)))
  refine PartQ.pass hr1 hr2 hd hu (by go_size) ?_ ?_
  · ((focus repeat' (first | (with_reducible exact Above.refl _ _) | (with_reducible assumption) | (with_reducible refine Above.setCell ?_ ?_ _) | (with_reducible refine Above.alloc ?_ _) | (with_reducible refine Above.drew ?_) | (with_reducible refine Above.drewN ?_ _) | go_size)))
  · ((focus repeat' (first | (with_reducible exact Below.refl _ _) | (with_reducible assumption) | (with_reducible refine Below.alloc ?_ ?_ _) | (with_reducible refine Below.drew ?_) | (with_reducible refine below_drewN ?_ _) | (with_reducible refine Below.setCell ?_ ?_ _) | (with_reducible refine Below.frame ?_ _) | go_size)))

set_option maxRecDepth 100000 in
set_option maxHeartbeats 1000000 in
theorem read_whole6 (flags stream : Nat) (l : List UInt8) (A : Option Addr) (c : Nat) (w : World) (hf : (⟨6, flags, stream, l⟩ : FrameS).Ok) (hr : Rd w 1 A l.length c (bys l)) :
    Calls Tryd.prog 32 #[.agg #[.int .i64 ((6 : Nat) : Int), .int .i64 flags, .int .i64 stream, .slice A l.length c]] w (PartQ (wholeS ⟨6, flags, stream, l⟩) w) := by
  have HC := Lib.hid (fun W (hb : Below w.heap.size w W) => partWhole_any ⟨6, flags, stream, l⟩ A c W hf (hr.grow (by omega) hb))
  clear hf hr
  simp only [FrameS.v, Int.cast_ofNat_Int] at HC
  generalize wholeS ⟨6, flags, stream, l⟩ = r at *
  simp only [Int.cast_ofNat_Int]
  go_enter Tryd.func32, Tryd.ntmps32
  go_wp2_with (go_at_call 42; refine (HC.out _ ?_).mono ?_; ((focus repeat' (first | (with_reducible exact Below.refl _ _) | (with_reducible assumption) | (with_reducible refine Below.alloc ?_ ?_ _) | (with_reducible refine Below.drew ?_) | (with_reducible refine below_drewN ?_ _) | (with_reducible refine Below.setCell ?_ ?_ _) | (with_reducible refine Below.frame ?_ _) | go_size))); rintro e w' ⟨A', c', A2, c2, S1, S2, rfl, hr1, hr2, hd, hu⟩; have hb2 := hu.below (fun _ h => h.elim) (Nat.le_refl _); obtain ⟨hc1, hf1⟩ := bcell hb2; have hz := hb2.size)
  refine bodyPost_ret (v := .tuple #[r.1.v A' c' A2 c2, r.2.v]) (by (simp [results, Tryd.results32, go_sem, hc1, hz, PartS.v, Fault.v]; try omega)) rfl ?_
  have hb3 : Below w.heap.size w w' := bcall hb2 (by (focus repeat' (first | (with_reducible exact Below.refl _ _) | (with_reducible assumption) | (with_reducible refine Below.alloc ?_ ?_ _) | (with_reducible refine Below.drew ?_) | (with_reducible refine below_drewN ?_ _) | (with_reducible refine Below.setCell ?_ ?_ _) | (with_reducible refine Below.frame ?_ _) | go_size)))
  refine PartQ.pass hr1 hr2 hd hu (by go_size) ?_ ?_
  · ((focus repeat' (first | (with_reducible exact Above.refl _ _) | (with_reducible assumption) | (with_reducible refine Above.setCell ?_ ?_ _) | (with_reducible refine Above.alloc ?_ _) | (with_reducible refine Above.drew ?_) | (with_reducible refine Above.drewN ?_ _) | go_size)))
  · ((focus repeat' (first | (with_reducible exact Below.refl _ _) | (with_reducible assumption) | (with_reducible refine Below.alloc ?_ ?_ _) | (with_reducible refine Below.drew ?_) | (with_reducible refine below_drewN ?_ _) | (with_reducible refine Below.setCell ?_ ?_ _) | (with_reducible refine Below.frame ?_ _) | go_size)))

set_option maxRecDepth 100000 in
set_option maxHeartbeats 1000000 in
theorem read_whole7 (flags stream : Nat) (l : List UInt8) (A : Option Addr) (c : Nat) (w : World) (hf : (⟨7, flags, stream, l⟩ : FrameS).Ok) (hr : Rd w 1 A l.length c (bys l)) :
    Calls Tryd.prog 32 #[.agg #[.int .i64 ((7 : Nat) : Int), .int .i64 flags, .int .i64 stream, .slice A l.length c]] w (PartQ (wholeS ⟨7, flags, stream, l⟩) w) := by
  have HC := Lib.hid (fun W (hb : Below w.heap.size w W) => partWhole_any ⟨7, flags, stream, l⟩ A c W hf (hr.grow (by omega) hb))
  clear hf hr
  simp only [FrameS.v, Int.cast_ofNat_Int] at HC
  generalize wholeS ⟨7, flags, stream, l⟩ = r at *
  simp only [Int.cast_ofNat_Int]
  go_enter Tryd.func32, Tryd.ntmps32
  go_wp2_with (go_at_call 42; refine (HC.out _ ?_).mono ?_; ((focus repeat' (first | (with_reducible exact Below.refl _ _) | (with_reducible assumption) | (with_reducible refine Below.alloc ?_ ?_ _) | (with_reducible refine Below.drew ?_) | (with_reducible refine below_drewN ?_ _) | (with_reducible refine Below.setCell ?_ ?_ _) | (with_reducible refine Below.frame ?_ _) | go_size))); rintro e w' ⟨A', c', A2, c2, S1, S2, rfl, hr1, hr2, hd, hu⟩; have hb2 := hu.below (fun _ h => h.elim) (Nat.le_refl _); obtain ⟨hc1, hf1⟩ := bcell hb2; have hz := hb2.size)
  refine bodyPost_ret (v := .tuple #[r.1.v A' c' A2 c2, r.2.v]) (by (simp [results, Tryd.results32, go_sem, hc1, hz, PartS.v, Fault.v]; try omega)) rfl ?_
  have hb3 : Below w.heap.size w w' := bcall hb2 (by (focus repeat' (first | (with_reducible exact Below.refl _ _) | (with_reducible assumption) | (with_reducible refine Below.alloc ?_ ?_ _) | (with_reducible refine Below.drew ?_) | (with_reducible refine below_drewN ?_ _) | (with_reducible refine Below.setCell ?_ ?_ _) | (with_reducible refine Below.frame ?_ _) | go_size)))
  refine PartQ.pass hr1 hr2 hd hu (by go_size) ?_ ?_
  · ((focus repeat' (first | (with_reducible exact Above.refl _ _) | (with_reducible assumption) | (with_reducible refine Above.setCell ?_ ?_ _) | (with_reducible refine Above.alloc ?_ _) | (with_reducible refine Above.drew ?_) | (with_reducible refine Above.drewN ?_ _) | go_size)))
  · ((focus repeat' (first | (with_reducible exact Below.refl _ _) | (with_reducible assumption) | (with_reducible refine Below.alloc ?_ ?_ _) | (with_reducible refine Below.drew ?_) | (with_reducible refine below_drewN ?_ _) | (with_reducible refine Below.setCell ?_ ?_ _) | (with_reducible refine Below.frame ?_ _) | go_size)))

set_option maxRecDepth 100000 in
set_option maxHeartbeats 1000000 in
theorem read_update8 (flags stream : Nat) (l : List UInt8) (A : Option Addr) (c : Nat) (w : World) (hf : (⟨8, flags, stream, l⟩ : FrameS).Ok) (hr : Rd w 1 A l.length c (bys l)) :
    Calls Tryd.prog 32 #[.agg #[.int .i64 ((8 : Nat) : Int), .int .i64 flags, .int .i64 stream, .slice A l.length c]] w (PartQ (updateS ⟨8, flags, stream, l⟩) w) := by
  have HC := Lib.hid (fun W (hb : Below w.heap.size w W) => partUpdate_any ⟨8, flags, stream, l⟩ A c W hf (hr.grow (by omega) hb))
  clear hf hr
  simp only [FrameS.v, Int.cast_ofNat_Int] at HC
  generalize updateS ⟨8, flags, stream, l⟩ = r at *
  simp only [Int.cast_ofNat_Int]
  go_enter Tryd.func32, Tryd.ntmps32
  go_wp2_with (go_at_call 43; refine (HC.out _ ?_).mono ?_; ((focus repeat' (first | (with_reducible exact Below.refl _ _) | (with_reducible assumption) | (with_reducible refine Below.alloc ?_ ?_ _) | (with_reducible refine Below.drew ?_) | (with_reducible refine below_drewN ?_ _) | (with_reducible refine Below.setCell ?_ ?_ _) | (with_reducible refine Below.frame ?_ _) | go_size))); rintro e w' ⟨A', c', A2, c2, S1, S2, rfl, hr1, hr2, hd, hu⟩; have hb2 := hu.below (fun _ h => h.elim) (Nat.le_refl _); obtain ⟨hc1, hf1⟩ := bcell hb2; have hz := hb2.size)
  refine bodyPost_ret (v := .tuple #[r.1.v A' c' A2 c2, r.2.v]) (by (simp [results, Tryd.results32, go_sem, hc1, hz, PartS.v, Fault.v]; try omega)) rfl ?_
  have hb3 : Below w.heap.size w w' := bcall hb2 (by (focus repeat' (first | (with_reducible exact Below.refl _ _) | (with_reducible assumption) | (with_reducible refine Below.alloc ?_ ?_ _) | (with_reducible refine Below.drew ?_) | (with_reducible refine below_drewN ?_ _) | (with_reducible refine Below.setCell ?_ ?_ _) | (with_reducible refine Below.frame ?_ _) | go_size)))
  refine PartQ.pass hr1 hr2 hd hu (by go_size) ?_ ?_
  · ((focus repeat' (first | (with_reducible exact Above.refl _ _) | (with_reducible assumption) | (with_reducible refine Above.setCell ?_ ?_ _) | (with_reducible refine Above.alloc ?_ _) | (with_reducible refine Above.drew ?_) | (with_reducible refine Above.drewN ?_ _) | go_size)))
  · ((focus repeat' (first | (with_reducible exact Below.refl _ _) | (with_reducible assumption) | (with_reducible refine Below.alloc ?_ ?_ _) | (with_reducible refine Below.drew ?_) | (with_reducible refine below_drewN ?_ _) | (with_reducible refine Below.setCell ?_ ?_ _) | (with_reducible refine Below.frame ?_ _) | go_size)))

end Go.Proofs.YthmfifcogokpoaaDoor
namespace Go.Proofs.YthmfifcogokpoaaDoor
open Go.RowKit

set_option maxRecDepth 100000 in
set_option maxHeartbeats 1000000 in
theorem read_push (flags stream : Nat) (l : List UInt8) (A : Option Addr) (c : Nat) (w : World) :
    Calls Tryd.prog 32 #[.agg #[.int .i64 ((5 : Nat) : Int), .int .i64 flags, .int .i64 stream, .slice A l.length c]] w (PartQ (connS 1) w) := by
  simp only [Int.cast_ofNat_Int]
  go_enter Tryd.func32, Tryd.ntmps32
  go_wp2_with (first | (go_at_call 41; refine (partConn_any _ _).mono ?_; rintro e w' ⟨rfl, hb⟩; obtain ⟨hc1, hf1⟩ := bcell hb; have hz := hb.size; replace hb : Below w.heap.size w w' := bcall hb (by (focus repeat' (first | (with_reducible exact Below.refl _ _) | (with_reducible assumption) | (with_reducible refine Below.alloc ?_ ?_ _) | (with_reducible refine Below.drew ?_) | (with_reducible refine below_drewN ?_ _) | (with_reducible refine Below.setCell ?_ ?_ _) | (with_reducible refine Below.frame ?_ _) | go_size)))))
  refine bodyPost_ret (v := .tuple #[(noPart : PartS).v none 0 none 0, (⟨true, true, 1⟩ : Fault).v]) (by (simp [results, Tryd.results32, go_sem, noPart, noFault, PartS.v, Fault.v, hc1, hz]; try omega)) rfl ?_; exact PartQ.plain (by (focus repeat' (first | (with_reducible exact Below.refl _ _) | (with_reducible assumption) | (with_reducible refine Below.alloc ?_ ?_ _) | (with_reducible refine Below.drew ?_) | (with_reducible refine below_drewN ?_ _) | (with_reducible refine Below.setCell ?_ ?_ _) | (with_reducible refine Below.frame ?_ _) | go_size))) rfl rfl

set_option maxRecDepth 100000 in
set_option maxHeartbeats 1000000 in
theorem read_zero2 (flags stream : Nat) (l : List UInt8) (A : Option Addr) (c : Nat) (w : World) (hs : stream = 0) :
    Calls Tryd.prog 32 #[.agg #[.int .i64 ((2 : Nat) : Int), .int .i64 flags, .int .i64 stream, .slice A l.length c]] w (PartQ (connS 1) w) := by
  have ts : ((stream : Int) == 0) = true := beq_iff_eq.2 (by omega)
  clear hs
  simp only [Int.cast_ofNat_Int]
  go_enter Tryd.func32, Tryd.ntmps32
  go_wp2_with (first | (go_at_call 41; refine (partConn_any _ _).mono ?_; rintro e w' ⟨rfl, hb⟩; obtain ⟨hc1, hf1⟩ := bcell hb; have hz := hb.size; replace hb : Below w.heap.size w w' := bcall hb (by (focus repeat' (first | (with_reducible exact Below.refl _ _) | (with_reducible assumption) | (with_reducible refine Below.alloc ?_ ?_ _) | (with_reducible refine Below.drew ?_) | (with_reducible refine below_drewN ?_ _) | (with_reducible refine Below.setCell ?_ ?_ _) | (with_reducible refine Below.frame ?_ _) | go_size)))))
  refine bodyPost_ret (v := .tuple #[(noPart : PartS).v none 0 none 0, (⟨true, true, 1⟩ : Fault).v]) (by (simp [results, Tryd.results32, go_sem, noPart, noFault, PartS.v, Fault.v, hc1, hz]; try omega)) rfl ?_; exact PartQ.plain (by (focus repeat' (first | (with_reducible exact Below.refl _ _) | (with_reducible assumption) | (with_reducible refine Below.alloc ?_ ?_ _) | (with_reducible refine Below.drew ?_) | (with_reducible refine below_drewN ?_ _) | (with_reducible refine Below.setCell ?_ ?_ _) | (with_reducible refine Below.frame ?_ _) | go_size))) rfl rfl

set_option maxRecDepth 100000 in
set_option maxHeartbeats 1000000 in
theorem read_zero3 (flags stream : Nat) (l : List UInt8) (A : Option Addr) (c : Nat) (w : World) (hs : stream = 0) :
    Calls Tryd.prog 32 #[.agg #[.int .i64 ((3 : Nat) : Int), .int .i64 flags, .int .i64 stream, .slice A l.length c]] w (PartQ (connS 1) w) := by
  have ts : ((stream : Int) == 0) = true := beq_iff_eq.2 (by omega)
  clear hs
  simp only [Int.cast_ofNat_Int]
  go_enter Tryd.func32, Tryd.ntmps32
  go_wp2_with (first | (go_at_call 41; refine (partConn_any _ _).mono ?_; rintro e w' ⟨rfl, hb⟩; obtain ⟨hc1, hf1⟩ := bcell hb; have hz := hb.size; replace hb : Below w.heap.size w w' := bcall hb (by (focus repeat' (first | (with_reducible exact Below.refl _ _) | (with_reducible assumption) | (with_reducible refine Below.alloc ?_ ?_ _) | (with_reducible refine Below.drew ?_) | (with_reducible refine below_drewN ?_ _) | (with_reducible refine Below.setCell ?_ ?_ _) | (with_reducible refine Below.frame ?_ _) | go_size)))))
  refine bodyPost_ret (v := .tuple #[(noPart : PartS).v none 0 none 0, (⟨true, true, 1⟩ : Fault).v]) (by (simp [results, Tryd.results32, go_sem, noPart, noFault, PartS.v, Fault.v, hc1, hz]; try omega)) rfl ?_; exact PartQ.plain (by (focus repeat' (first | (with_reducible exact Below.refl _ _) | (with_reducible assumption) | (with_reducible refine Below.alloc ?_ ?_ _) | (with_reducible refine Below.drew ?_) | (with_reducible refine below_drewN ?_ _) | (with_reducible refine Below.setCell ?_ ?_ _) | (with_reducible refine Below.frame ?_ _) | go_size))) rfl rfl

set_option maxRecDepth 100000 in
set_option maxHeartbeats 1000000 in
theorem read_zero9 (flags stream : Nat) (l : List UInt8) (A : Option Addr) (c : Nat) (w : World) (hs : stream = 0) :
    Calls Tryd.prog 32 #[.agg #[.int .i64 ((9 : Nat) : Int), .int .i64 flags, .int .i64 stream, .slice A l.length c]] w (PartQ (connS 1) w) := by
  have ts : ((stream : Int) == 0) = true := beq_iff_eq.2 (by omega)
  clear hs
  simp only [Int.cast_ofNat_Int]
  go_enter Tryd.func32, Tryd.ntmps32
  go_wp2_with (first | (go_at_call 41; refine (partConn_any _ _).mono ?_; rintro e w' ⟨rfl, hb⟩; obtain ⟨hc1, hf1⟩ := bcell hb; have hz := hb.size; replace hb : Below w.heap.size w w' := bcall hb (by (focus repeat' (first | (with_reducible exact Below.refl _ _) | (with_reducible assumption) | (with_reducible refine Below.alloc ?_ ?_ _) | (with_reducible refine Below.drew ?_) | (with_reducible refine below_drewN ?_ _) | (with_reducible refine Below.setCell ?_ ?_ _) | (with_reducible refine Below.frame ?_ _) | go_size)))))
  refine bodyPost_ret (v := .tuple #[(noPart : PartS).v none 0 none 0, (⟨true, true, 1⟩ : Fault).v]) (by (simp [results, Tryd.results32, go_sem, noPart, noFault, PartS.v, Fault.v, hc1, hz]; try omega)) rfl ?_; exact PartQ.plain (by (focus repeat' (first | (with_reducible exact Below.refl _ _) | (with_reducible assumption) | (with_reducible refine Below.alloc ?_ ?_ _) | (with_reducible refine Below.drew ?_) | (with_reducible refine below_drewN ?_ _) | (with_reducible refine Below.setCell ?_ ?_ _) | (with_reducible refine Below.frame ?_ _) | go_size))) rfl rfl

set_option maxRecDepth 100000 in
set_option maxHeartbeats 1000000 in
theorem read_prio_bad (flags stream : Nat) (l : List UInt8) (A : Option Addr) (c : Nat) (w : World) (hs : stream ≠ 0) (h5 : l.length ≠ 5) :
    Calls Tryd.prog 32 #[.agg #[.int .i64 ((2 : Nat) : Int), .int .i64 flags, .int .i64 stream, .slice A l.length c]] w (PartQ (streamS 6) w) := by
  have ts : ((stream : Int) == 0) = false := beq_eq_false_iff_ne.2 (by omega)
  clear hs
  have t5 : ((l.length : Int) != 5) = true := bne_iff_ne.2 (by omega)
  clear h5
  simp only [Int.cast_ofNat_Int]
  go_enter Tryd.func32, Tryd.ntmps32
  go_wp2_with (first | (go_at_call 44; refine (partStream_any _ _).mono ?_; rintro e w' ⟨rfl, hb⟩; obtain ⟨hc1, hf1⟩ := bcell hb; have hz := hb.size; replace hb : Below w.heap.size w w' := bcall hb (by (focus repeat' (first | (with_reducible exact Below.refl _ _) | (with_reducible assumption) | (with_reducible refine Below.alloc ?_ ?_ _) | (with_reducible refine Below.drew ?_) | (with_reducible refine below_drewN ?_ _) | (with_reducible refine Below.setCell ?_ ?_ _) | (with_reducible refine Below.frame ?_ _) | go_size)))))
  refine bodyPost_ret (v := .tuple #[(noPart : PartS).v none 0 none 0, (⟨true, false, 6⟩ : Fault).v]) (by (simp [results, Tryd.results32, go_sem, noPart, noFault, PartS.v, Fault.v, hc1, hz]; try omega)) rfl ?_; exact PartQ.plain (by (focus repeat' (first | (with_reducible exact Below.refl _ _) | (with_reducible assumption) | (with_reducible refine Below.alloc ?_ ?_ _) | (with_reducible refine Below.drew ?_) | (with_reducible refine below_drewN ?_ _) | (with_reducible refine Below.setCell ?_ ?_ _) | (with_reducible refine Below.frame ?_ _) | go_size))) rfl rfl

set_option maxRecDepth 100000 in
set_option maxHeartbeats 1000000 in
theorem read_prio_ok (flags stream : Nat) (l : List UInt8) (A : Option Addr) (c : Nat) (w : World) (hs : stream ≠ 0) (h5 : l.length = 5) :
    Calls Tryd.prog 32 #[.agg #[.int .i64 ((2 : Nat) : Int), .int .i64 flags, .int .i64 stream, .slice A l.length c]] w (PartQ ((noPart, noFault)) w) := by
  have ts : ((stream : Int) == 0) = false := beq_eq_false_iff_ne.2 (by omega)
  clear hs
  have t5 : ((l.length : Int) != 5) = false := by rw [h5]; rfl
  clear h5
  simp only [Int.cast_ofNat_Int]
  go_enter Tryd.func32, Tryd.ntmps32
  go_wp2
  refine bodyPost_ret (v := .tuple #[(noPart : PartS).v none 0 none 0, (noFault : Fault).v]) (by (simp [results, Tryd.results32, go_sem, noPart, noFault, PartS.v, Fault.v, noFault]; try omega)) rfl ?_; exact PartQ.plain (by (focus repeat' (first | (with_reducible exact Below.refl _ _) | (with_reducible assumption) | (with_reducible refine Below.alloc ?_ ?_ _) | (with_reducible refine Below.drew ?_) | (with_reducible refine below_drewN ?_ _) | (with_reducible refine Below.setCell ?_ ?_ _) | (with_reducible refine Below.frame ?_ _) | go_size))) rfl rfl

set_option maxRecDepth 100000 in
set_option maxHeartbeats 1000000 in
theorem read_rst_bad (flags stream : Nat) (l : List UInt8) (A : Option Addr) (c : Nat) (w : World) (hs : stream ≠ 0) (h5 : l.length ≠ 4) :
    Calls Tryd.prog 32 #[.agg #[.int .i64 ((3 : Nat) : Int), .int .i64 flags, .int .i64 stream, .slice A l.length c]] w (PartQ (connS 6) w) := by
  have ts : ((stream : Int) == 0) = false := beq_eq_false_iff_ne.2 (by omega)
  clear hs
  have t5 : ((l.length : Int) != 4) = true := bne_iff_ne.2 (by omega)
  clear h5
  simp only [Int.cast_ofNat_Int]
  go_enter Tryd.func32, Tryd.ntmps32
  go_wp2_with (first | (go_at_call 41; refine (partConn_any _ _).mono ?_; rintro e w' ⟨rfl, hb⟩; obtain ⟨hc1, hf1⟩ := bcell hb; have hz := hb.size; replace hb : Below w.heap.size w w' := bcall hb (by (focus repeat' (first | (with_reducible exact Below.refl _ _) | (with_reducible assumption) | (with_reducible refine Below.alloc ?_ ?_ _) | (with_reducible refine Below.drew ?_) | (with_reducible refine below_drewN ?_ _) | (with_reducible refine Below.setCell ?_ ?_ _) | (with_reducible refine Below.frame ?_ _) | go_size)))))
  refine bodyPost_ret (v := .tuple #[(noPart : PartS).v none 0 none 0, (⟨true, true, 6⟩ : Fault).v]) (by (simp [results, Tryd.results32, go_sem, noPart, noFault, PartS.v, Fault.v, hc1, hz]; try omega)) rfl ?_; exact PartQ.plain (by (focus repeat' (first | (with_reducible exact Below.refl _ _) | (with_reducible assumption) | (with_reducible refine Below.alloc ?_ ?_ _) | (with_reducible refine Below.drew ?_) | (with_reducible refine below_drewN ?_ _) | (with_reducible refine Below.setCell ?_ ?_ _) | (with_reducible refine Below.frame ?_ _) | go_size))) rfl rfl

set_option maxRecDepth 100000 in
set_option maxHeartbeats 1000000 in
theorem read_rst_ok (flags stream : Nat) (l : List UInt8) (A : Option Addr) (c : Nat) (w : World) (hs : stream ≠ 0) (h5 : l.length = 4) (hr : Rd w 1 A l.length c (bys l)) :
    Calls Tryd.prog 32 #[.agg #[.int .i64 ((3 : Nat) : Int), .int .i64 flags, .int .i64 stream, .slice A l.length c]] w (PartQ ({ noPart with code := num4 l }, noFault) w) := by
  have ts : ((stream : Int) == 0) = false := beq_eq_false_iff_ne.2 (by omega)
  clear hs
  have t5 : ((l.length : Int) != 4) = false := by rw [h5]; rfl
  have HRQ := Lib.hid (fun W (hb : Below w.heap.size w W) => hr.grow (by omega) hb)
  have h4n : 4 ≤ l.length := by omega
  clear h5 hr
  simp only [Int.cast_ofNat_Int]
  go_enter Tryd.func32, Tryd.ntmps32
  go_wp2_with (first | (go_at_call 45; refine (partNumber_any _ _ _ _ (HRQ.out _ ?_) h4n).mono ?_; ((focus repeat' (first | (with_reducible exact Below.refl _ _) | (with_reducible assumption) | (with_reducible refine Below.alloc ?_ ?_ _) | (with_reducible refine Below.drew ?_) | (with_reducible refine below_drewN ?_ _) | (with_reducible refine Below.setCell ?_ ?_ _) | (with_reducible refine Below.frame ?_ _) | go_size))); rintro e w' ⟨rfl, nn, rfl⟩))
  refine bodyPost_ret (v := .tuple #[({ noPart with code := num4 l } : PartS).v none 0 none 0, (noFault : Fault).v]) (by (simp [results, Tryd.results32, go_sem, noPart, noFault, PartS.v, Fault.v, noFault]; try omega)) rfl ?_; exact PartQ.plain (by (focus repeat' (first | (with_reducible exact Below.refl _ _) | (with_reducible assumption) | (with_reducible refine Below.alloc ?_ ?_ _) | (with_reducible refine Below.drew ?_) | (with_reducible refine below_drewN ?_ _) | (with_reducible refine Below.setCell ?_ ?_ _) | (with_reducible refine Below.frame ?_ _) | go_size))) rfl rfl

set_option maxRecDepth 100000 in
set_option maxHeartbeats 1000000 in
theorem read_else (kind flags stream : Nat) (l : List UInt8) (A : Option Addr) (c : Nat) (w : World) (hk : 9 < kind) :
    Calls Tryd.prog 32 #[.agg #[.int .i64 (kind : Int), .int .i64 flags, .int .i64 stream, .slice A l.length c]] w (PartQ ((noPart, noFault)) w) := by
  have t0 : ((kind : Int) == 0) = false := beq_eq_false_iff_ne.2 (by omega)
  have t1 : ((kind : Int) == 1) = false := beq_eq_false_iff_ne.2 (by omega)
  have t2 : ((kind : Int) == 2) = false := beq_eq_false_iff_ne.2 (by omega)
  have t3 : ((kind : Int) == 3) = false := beq_eq_false_iff_ne.2 (by omega)
  have t4 : ((kind : Int) == 4) = false := beq_eq_false_iff_ne.2 (by omega)
  have t5 : ((kind : Int) == 5) = false := beq_eq_false_iff_ne.2 (by omega)
  have t6 : ((kind : Int) == 6) = false := beq_eq_false_iff_ne.2 (by omega)
  have t7 : ((kind : Int) == 7) = false := beq_eq_false_iff_ne.2 (by omega)
  have t8 : ((kind : Int) == 8) = false := beq_eq_false_iff_ne.2 (by omega)
  have t9 : ((kind : Int) == 9) = false := beq_eq_false_iff_ne.2 (by omega)
  clear hk
  go_enter Tryd.func32, Tryd.ntmps32
  go_wp2
  refine bodyPost_ret (v := .tuple #[(noPart : PartS).v none 0 none 0, (noFault : Fault).v]) (by (simp [results, Tryd.results32, go_sem, noPart, noFault, PartS.v, Fault.v, noFault]; try omega)) rfl ?_; exact PartQ.plain (by (focus repeat' (first | (with_reducible exact Below.refl _ _) | (with_reducible assumption) | (with_reducible refine Below.alloc ?_ ?_ _) | (with_reducible refine Below.drew ?_) | (with_reducible refine below_drewN ?_ _) | (with_reducible refine Below.setCell ?_ ?_ _) | (with_reducible refine Below.frame ?_ _) | go_size))) rfl rfl

set_option maxRecDepth 100000 in
set_option maxHeartbeats 1000000 in
theorem read_cont (flags stream : Nat) (l : List UInt8) (A : Option Addr) (c : Nat) (w : World) (hs : stream ≠ 0) (hfl : flags < 1000000) (hr : Rd w 1 A l.length c (bys l)) (hl : l.length ≤ 1000000000000) :
    Calls Tryd.prog 32 #[.agg #[.int .i64 ((9 : Nat) : Int), .int .i64 flags, .int .i64 stream, .slice A l.length c]] w (PartQ ({ noPart with data := l, whole := decide (0 < flags &&& 4) }, noFault) w) := by
  have ts : ((stream : Int) == 0) = false := beq_eq_false_iff_ne.2 (by omega)
  have HRQ := Lib.hid (fun W (hb : Below w.heap.size w W) => hr.grow (by omega) hb)
  have hbig : l.length ≤ big := by simp only [big]; omega
  have h1 := bys_one l
  have ha : bits .and .i64 (flags : Int) 4 = ((flags &&& 4 : Nat) : Int) := i64_and_nat flags 4 (by omega) (by omega)
  generalize flags &&& 4 = m4 at *
  have hg : decide ((0 : Int) < (m4 : Int)) = decide (0 < m4) := by rw [decide_eq_decide]; omega
  clear hs hr
  simp only [Int.cast_ofNat_Int]
  go_enter Tryd.func32, Tryd.ntmps32
  go_wp2
  go_region_held3 (fun w' => w'.cell? ⟨w.heap.size, 1, none⟩ = some (.int .i64 flags) ∧ w'.cell? ⟨w.heap.size, 3, none⟩ = some (.slice A l.length c)) (first | (go_keep; done) | (simp [hc1, go_sem]; done)) (first | (go_at_call 29; refine (bytesClone_any _ _ _ _ _ (HRQ.out _ ?_) h1 hbig).mono ?_; (focus repeat' (first | (with_reducible exact Below.refl _ _) | (with_reducible assumption) | (with_reducible refine Below.alloc ?_ ?_ _) | (with_reducible refine Below.drew ?_) | (with_reducible refine below_drewN ?_ _) | (with_reducible refine Below.setCell ?_ ?_ _) | (with_reducible refine Below.frame ?_ _) | go_size)); rintro e w' ⟨A', c', S', rfl, hrow, hu⟩; have hb2 := hu.below (fun _ h => h.elim) (Nat.le_refl _); obtain ⟨hc1, hf1⟩ := bcell hb2; have hz := hb2.size))
  go_wp2
  refine bodyPost_ret (v := .tuple #[({ noPart with data := l, whole := decide (0 < m4) } : PartS).v A' c' none 0, (noFault : Fault).v]) (by (simp [results, Tryd.results32, go_sem, hc1, hz, noPart, noFault, PartS.v, Fault.v, ha, hg]; try omega)) rfl ?_; have hb3 : Below w.heap.size w w' := bcall hb2 (by (focus repeat' (first | (with_reducible exact Below.refl _ _) | (with_reducible assumption) | (with_reducible refine Below.alloc ?_ ?_ _) | (with_reducible refine Below.drew ?_) | (with_reducible refine below_drewN ?_ _) | (with_reducible refine Below.setCell ?_ ?_ _) | (with_reducible refine Below.frame ?_ _) | go_size))); refine PartQ.made hrow hu ?_ ?_ ?_ rfl; (go_size); ((focus repeat' (first | (with_reducible exact Above.refl _ _) | (with_reducible assumption) | (with_reducible refine Above.setCell ?_ ?_ _) | (with_reducible refine Above.alloc ?_ _) | (with_reducible refine Above.drew ?_) | (with_reducible refine Above.drewN ?_ _) | go_size))); ((focus repeat' (first | (with_reducible exact Below.refl _ _) | (with_reducible assumption) | (with_reducible refine Below.alloc ?_ ?_ _) | (with_reducible refine Below.drew ?_) | (with_reducible refine below_drewN ?_ _) | (with_reducible refine Below.setCell ?_ ?_ _) | (with_reducible refine Below.frame ?_ _) | go_size)))

theorem partRead_any (f : FrameS) (A : Option Addr) (c : Nat) (w : World) (hf : f.Ok) (hr : Rd w 1 A f.body.length c (bys f.body)) :
    Calls Tryd.prog 32 #[f.v A c] w (PartQ (readS f) w) := by
  obtain ⟨kind, flags, stream, l⟩ := f
  have hfl := hf.flags
  have hl := hf.body
  simp only at hr hfl hl
  unfold FrameS.v
  have hk : kind = 0 ∨ kind = 1 ∨ kind = 2 ∨ kind = 3 ∨ kind = 4 ∨ kind = 5 ∨ kind = 6 ∨ kind = 7 ∨ kind = 8 ∨ kind = 9 ∨ 9 < kind := by omega
  rcases hk with rfl | rfl | rfl | rfl | rfl | rfl | rfl | rfl | rfl | rfl | hk
  · rw [show readS ⟨0, flags, stream, l⟩ = bodiedS ⟨0, flags, stream, l⟩ from by unfold readS; rw [if_pos (.inl rfl)]]
    exact read_bodied0 flags stream l A c w hf hr
  · rw [show readS ⟨1, flags, stream, l⟩ = bodiedS ⟨1, flags, stream, l⟩ from by unfold readS; rw [if_pos (.inr rfl)]]
    exact read_bodied1 flags stream l A c w hf hr
  · by_cases hs : stream = 0
    · rw [show readS ⟨2, flags, stream, l⟩ = connS 1 from by simp [readS, hs]]
      exact read_zero2 flags stream l A c w hs
    · by_cases h5 : l.length = 5
      · rw [show readS ⟨2, flags, stream, l⟩ = (noPart, noFault) from by simp [readS, hs, h5]]
        exact read_prio_ok flags stream l A c w hs h5
      · rw [show readS ⟨2, flags, stream, l⟩ = streamS 6 from by simp [readS, hs, h5]]
        exact read_prio_bad flags stream l A c w hs h5
  · by_cases hs : stream = 0
    · rw [show readS ⟨3, flags, stream, l⟩ = connS 1 from by simp [readS, hs]]
      exact read_zero3 flags stream l A c w hs
    · by_cases h5 : l.length = 4
      · rw [show readS ⟨3, flags, stream, l⟩ = ({ noPart with code := num4 l }, noFault) from by simp [readS, hs, h5]]
        exact read_rst_ok flags stream l A c w hs h5 hr
      · rw [show readS ⟨3, flags, stream, l⟩ = connS 6 from by simp [readS, hs, h5]]
        exact read_rst_bad flags stream l A c w hs h5
  · rw [show readS ⟨4, flags, stream, l⟩ = settingsS ⟨4, flags, stream, l⟩ from by simp [readS]]
    exact read_settings4 flags stream l A c w hf hr
  · rw [show readS ⟨5, flags, stream, l⟩ = connS 1 from by simp [readS]]
    exact read_push flags stream l A c w
  · rw [show readS ⟨6, flags, stream, l⟩ = wholeS ⟨6, flags, stream, l⟩ from by simp [readS]]
    exact read_whole6 flags stream l A c w hf hr
  · rw [show readS ⟨7, flags, stream, l⟩ = wholeS ⟨7, flags, stream, l⟩ from by simp [readS]]
    exact read_whole7 flags stream l A c w hf hr
  · rw [show readS ⟨8, flags, stream, l⟩ = updateS ⟨8, flags, stream, l⟩ from by simp [readS]]
    exact read_update8 flags stream l A c w hf hr
  · by_cases hs : stream = 0
    · rw [show readS ⟨9, flags, stream, l⟩ = connS 1 from by simp [readS, hs]]
      exact read_zero9 flags stream l A c w hs
    · rw [show readS ⟨9, flags, stream, l⟩ = ({ noPart with data := l, whole := decide (0 < flags &&& 4) }, noFault) from by simp [readS, hs]]
      exact read_cont flags stream l A c w hs hfl hr hl
  · rw [show readS ⟨kind, flags, stream, l⟩ = (noPart, noFault) from by
      unfold readS
      rw [if_neg (by simp only; omega), if_neg (by simp only; omega), if_neg (by simp only; omega), if_neg (by simp only; omega), if_neg (by simp only; omega), if_neg (by simp only; omega)]]
    exact read_else kind flags stream l A c w hk
end Go.Proofs.YthmfifcogokpoaaDoor
