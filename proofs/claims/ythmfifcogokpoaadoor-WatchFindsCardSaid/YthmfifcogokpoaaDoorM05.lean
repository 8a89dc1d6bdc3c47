/- What is proved here: contracts of the program's functions and plain lemmas that the claim's last text uses, in parts: what package part reads out of a frame's body: number, conn, stream, update, whole; part.whole, bodied, settings, Read. -/
import Derived.Test.YthmfifcogokpoaaDoorM04
import Derived.Test.YthmfifcogokpoaaDoorM02
import Derived.Deep.RegionHeld3
import Derived.Deep.RegionWith
set_option linter.unusedVariables false
set_option linter.unusedSimpArgs false
namespace Go.Proofs.YthmfifcogokpoaaDoor
open Go.RowKit

/-- A call that only makes memory, seen from an earlier world. -/
theorem bcall {w W w' : World} (h : Below W.heap.size W w') (h0 : Below w.heap.size w W) : Below w.heap.size w w' := h0.trans (h.mono h0.size)

/-- What lies from block B on is as it was. -/
def Above (B : Nat) (w W : World) : Prop := ∀ k o, B ≤ k → w.heap[k]? = some o → W.heap[k]? = some o
theorem Above.refl (B : Nat) (w : World) : Above B w w := fun _ _ _ h => h
theorem Above.setCell {B : Nat} {w W : World} (h : Above B w W) {a : Addr} (ha : a.block < B) (v : Value) : Above B w (W.setCell a v) := fun k o hk ho => (heap_set_other v (by omega)).trans (h k o hk ho)
theorem Above.alloc {B : Nat} {w W : World} (h : Above B w W) (x : Obj) : Above B w (W.alloc x) := fun k o hk ho => (Below.heap_alloc W x k (heap_lt (h k o hk ho))).trans (h k o hk ho)
theorem Above.drew {B : Nat} {w W : World} (h : Above B w W) : Above B w W.drew := h
theorem Above.drewN {B : Nat} {w W : World} (h : Above B w W) (n : Nat) : Above B w (W.drewN n) := h
theorem Row.above {e : TypeId} {size : Nat} {A : Option Addr} {n c : Nat} {xs : List Value} {S : Own} {w W : World} {B : Nat} (h : Row e size A n c xs S w) (hS : ∀ k, S k → B ≤ k) (ha : Above B w W) : Row e size A n c xs S W :=
  h.loc fun k hk => by
    have hl := h.lt k hk
    have h1 : w.heap[k]? = some w.heap[k] := Array.getElem?_eq_getElem hl
    rw [h1]; exact ha k _ (hS k hk) h1

/-! ### Bits of numbers -/
theorem i64_and_nat (a b : Nat) (ha : a < 9223372036854775808) (hb : b < 9223372036854775808) : Go.bits .and .i64 (a : Int) (b : Int) = ((a &&& b : Nat) : Int) := by
  have hx : a &&& b ≤ a := Nat.and_le_left
  show IntKind.i64.wrap ((BitVec.ofInt 64 (a : Int) &&& BitVec.ofInt 64 (b : Int)).toNat : Int) = _
  rw [BitVec.toNat_and, ofInt_i64 a ha, ofInt_i64 b hb, IntKind.wrap_i64]
  omega
theorem or_low (a b k : Nat) (hb : b < 2 ^ k) : (a * 2 ^ k) ||| b = a * 2 ^ k + b := by
  rw [Nat.mul_comm, Nat.two_pow_add_eq_or_of_lt hb]

def num4 (l : List UInt8) : Nat := (l.getD 0 0).toNat * 16777216 + (l.getD 1 0).toNat * 65536 + (l.getD 2 0).toNat * 256 + (l.getD 3 0).toNat
theorem num4_lt (l : List UInt8) : num4 l < 4294967296 := by
  unfold num4
  have h0 := (l.getD 0 0).toNat_lt
  have h1 := (l.getD 1 0).toNat_lt
  have h2 := (l.getD 2 0).toNat_lt
  have h3 := (l.getD 3 0).toNat_lt
  omega
theorem or_bytes (a b c d : Nat) (ha : a < 256) (hb : b < 256) (hc : c < 256) (hd : d < 256) :
    Go.bits .or .i64 (Go.bits .or .i64 (Go.bits .or .i64 ((a : Int) * 16777216) ((b : Int) * 65536)) ((c : Int) * 256)) (d : Int) = ((a * 16777216 + b * 65536 + c * 256 + d : Nat) : Int) := by
  have e1 : Go.bits .or .i64 ((a : Int) * 16777216) ((b : Int) * 65536) = ((a * 16777216 + b * 65536 : Nat) : Int) := by
    have := i64_or_nat (a * 16777216) (b * 65536) (by omega) (by omega)
    rw [show a * 16777216 = a * 2 ^ 24 from rfl, or_low a (b * 65536) 24 (by omega)] at this
    rw [show (a : Int) * 16777216 = ((a * 2 ^ 24 : Nat) : Int) by omega, show (b : Int) * 65536 = ((b * 65536 : Nat) : Int) by omega]
    exact this
  have e2 : Go.bits .or .i64 ((a * 16777216 + b * 65536 : Nat) : Int) ((c : Int) * 256) = ((a * 16777216 + b * 65536 + c * 256 : Nat) : Int) := by
    have := i64_or_nat (a * 16777216 + b * 65536) (c * 256) (by omega) (by omega)
    rw [show a * 16777216 + b * 65536 = (a * 256 + b) * 2 ^ 16 by omega, or_low (a * 256 + b) (c * 256) 16 (by omega), show (a * 256 + b) * 2 ^ 16 = a * 16777216 + b * 65536 by omega] at this
    rw [show (c : Int) * 256 = ((c * 256 : Nat) : Int) by omega]
    exact this
  rw [e1, e2]
  have := i64_or_nat (a * 16777216 + b * 65536 + c * 256) d (by omega) (by omega)
  rw [show a * 16777216 + b * 65536 + c * 256 = (a * 65536 + b * 256 + c) * 2 ^ 8 by omega, or_low (a * 65536 + b * 256 + c) d 8 (by omega), show (a * 65536 + b * 256 + c) * 2 ^ 8 = a * 16777216 + b * 65536 + c * 256 by omega] at this
  exact this

theorem partNumber_any (l : List UInt8) (A : Option Addr) (c : Nat) (w : World) (hr : Rd w 1 A l.length c (bys l)) (h4 : 4 ≤ l.length) :
    Calls Tryd.prog 45 #[.slice A l.length c] w fun e w' => e = .returned (.int .i64 (num4 l)) ∧ ∃ n, w' = w.drewN n := by
  obtain ⟨b, o, rfl, hcell⟩ := hr.form (by omega)
  have c0 := hcell 0 _ (bys_get l 0 (by omega))
  have c1 := hcell 1 _ (bys_get l 1 (by omega))
  have c2 := hcell 2 _ (bys_get l 2 (by omega))
  have c3 := hcell 3 _ (bys_get l 3 (by omega))
  have HN := Lib.hid (show num4 l = l[0].toNat * 16777216 + l[1].toNat * 65536 + l[2].toNat * 256 + l[3].toNat by
    unfold num4
    simp only [List.getD_eq_getElem?_getD, List.getElem?_eq_getElem (show 0 < l.length by omega), List.getElem?_eq_getElem (show 1 < l.length by omega), List.getElem?_eq_getElem (show 2 < l.length by omega), List.getElem?_eq_getElem (show 3 < l.length by omega), Option.getD_some])
  unfold by8 at c0 c1 c2 c3
  have x0 := l[0].toNat_lt
  have x1 := l[1].toNat_lt
  have x2 := l[2].toNat_lt
  have x3 := l[3].toNat_lt
  have ho := or_bytes _ _ _ _ x0 x1 x2 x3
  clear hcell hr
  generalize l[0].toNat = a0 at *
  generalize l[1].toNat = a1 at *
  generalize l[2].toNat = a2 at *
  generalize l[3].toNat = a3 at *
  have j1 : (1 : Int) < (l.length : Int) := by omega
  have j2 : (2 : Int) < (l.length : Int) := by omega
  have j3 : (3 : Int) < (l.length : Int) := by omega
  have j0 : (0 : Int) < (l.length : Int) := by omega
  simp only [Nat.add_zero] at c0
  go_enter Tryd.func45, Tryd.ntmps45
  go_wp2
  go_quiet (fail)
  go_wp2
  go_ret
  exact ⟨ret_int (by have := HN.out; omega), _, rfl⟩

/-- What a frame's body says. -/
structure PartS where
  data : List UInt8
  pad : Nat
  code : Nat
  last : Nat
  step : Nat
  sets : List (Nat × Nat)
  fin : Bool
  ack : Bool
  whole : Bool
deriving DecidableEq
def noPart : PartS := ⟨[], 0, 0, 0, 0, [], false, false, false⟩
def PartS.v (p : PartS) (A : Option Addr) (c : Nat) (A2 : Option Addr) (c2 : Nat) : Value :=
  .agg #[.slice A p.data.length c, .int .i64 p.pad, .int .i64 p.code, .int .i64 p.last, .int .i64 p.step, .slice A2 p.sets.length c2, .bool p.fin, .bool p.ack, .bool p.whole]
abbrev nilPart : Value := .agg #[.slice none 0 0, .int .i64 0, .int .i64 0, .int .i64 0, .int .i64 0, .slice none 0 0, .bool false, .bool false, .bool false]
def setCells (l : List (Nat × Nat)) : List Value := l.flatMap fun x => [.int .i64 x.1, .int .i64 x.2]
/-- What part.Read and its parts leave. -/
def PartQ (r : PartS × Fault) (w : World) (e : Ending) (w' : World) : Prop :=
  ∃ A c A2 c2 S1 S2, e = .returned (.tuple #[r.1.v A c A2 c2, r.2.v]) ∧ Row 5 1 A r.1.data.length c (bys r.1.data) S1 w' ∧ Row 66 2 A2 r.1.sets.length c2 (setCells r.1.sets) S2 w' ∧ (∀ k, S1 k → ¬ S2 k) ∧ Upd none_ (fun k => S1 k ∨ S2 k) w w'
theorem PartQ.plain {p : PartS} {x : Fault} {w w' : World} (h : Below w.heap.size w w') (hd : p.data = []) (hs : p.sets = []) : PartQ (p, x) w (.returned (.tuple #[p.v none 0 none 0, x.v])) w' := by
  refine ⟨none, 0, none, 0, none_, none_, rfl, ?_, ?_, fun _ h => h.elim, Upd.of_below h fun k hk => hk.elim (·.elim) (·.elim)⟩
  · rw [hd]; exact Row.nil _ _ _
  · rw [hs]; exact Row.nil _ _ _
/-- A frame. -/
structure FrameS where
  kind : Nat
  flags : Nat
  stream : Nat
  body : List UInt8
deriving DecidableEq
def FrameS.v (f : FrameS) (A : Option Addr) (c : Nat) : Value := .agg #[.int .i64 f.kind, .int .i64 f.flags, .int .i64 f.stream, .slice A f.body.length c]
structure FrameS.Ok (f : FrameS) : Prop where
  kind : f.kind < 1000000
  flags : f.flags < 1000000
  stream : f.stream < 4294967296
  body : f.body.length ≤ 1000000000000

def connS (code : Nat) : PartS × Fault := (noPart, ⟨true, true, code⟩)
def streamS (code : Nat) : PartS × Fault := (noPart, ⟨true, false, code⟩)
theorem partConn_any (code : Nat) (w : World) :
    Calls Tryd.prog 41 #[.int .i64 code] w fun e w' => e = .returned (.tuple #[nilPart, .agg #[.bool true, .bool true, .int .i64 code]]) ∧ Below w.heap.size w w' := by
  go_enter Tryd.func41, Tryd.ntmps41
  go_wp2
  exact bodyPost_ret (v := .tuple #[nilPart, .agg #[.bool true, .bool true, .int .i64 code]]) (by simp [results, Tryd.results41, go_sem]) rfl ⟨rfl, by go_grown⟩
theorem partStream_any (code : Nat) (w : World) :
    Calls Tryd.prog 44 #[.int .i64 code] w fun e w' => e = .returned (.tuple #[nilPart, .agg #[.bool true, .bool false, .int .i64 code]]) ∧ Below w.heap.size w w' := by
  go_enter Tryd.func44, Tryd.ntmps44
  go_wp2
  exact bodyPost_ret (v := .tuple #[nilPart, .agg #[.bool true, .bool false, .int .i64 code]]) (by simp [results, Tryd.results44, go_sem]) rfl ⟨rfl, by go_grown⟩

def updateS (f : FrameS) : PartS × Fault :=
  if f.body.length ≠ 4 then connS 6
  else if num4 f.body &&& 2147483647 = 0 then (if f.stream = 0 then connS 1 else streamS 1)
  else ({ noPart with step := num4 f.body &&& 2147483647 }, noFault)


theorem Rd.grow {w W : World} {size : Nat} {A : Option Addr} {n c : Nat} {xs : List Value} (h : Rd w size A n c xs) (hs : 0 < size) (hb : Below w.heap.size w W) : Rd W size A n c xs := by
  by_cases hn : 0 < n
  · exact h.keep fun b hk => hb.block b (h.block_lt hn hs b hk)
  · have h0 : n = 0 := by omega
    subst h0
    have hx : xs = [] := List.eq_nil_of_length_eq_zero (by simpa using h.len)
    subst hx
    exact ⟨h.le, h.cap, h.len, h.nil, fun ad ha => ⟨(h.at_ ad ha).1, fun j u hu => by cases hu⟩⟩

theorem and31 (l : List UInt8) : Go.bits .and .i64 (num4 l : Int) 2147483647 = ((num4 l &&& 2147483647 : Nat) : Int) := i64_and_nat (num4 l) 2147483647 (by have := num4_lt l; omega) (by decide)

theorem partUpdate_any (f : FrameS) (A : Option Addr) (c : Nat) (w : World) (hf : f.Ok) (hr : Rd w 1 A f.body.length c (bys f.body)) :
    Calls Tryd.prog 43 #[f.v A c] w (PartQ (updateS f) w) := by
  obtain ⟨kind, flags, stream, l⟩ := f
  obtain ⟨hk, hfl, hst, hl⟩ := hf
  simp only at hk hfl hst hl hr
  simp only [updateS, FrameS.v, connS, streamS]
  by_cases h4 : l.length = 4
  · have HRQ := Lib.hid (fun W (hb : Below w.heap.size w W) => hr.grow (by omega) hb)
    have h4n : 4 ≤ l.length := by omega
    have tb : ((l.length : Int) != 4) = false := by rw [h4]; rfl
    have ha := and31 l
    clear hr hl
    by_cases hn : num4 l &&& 2147483647 = 0
    · have tn : (((num4 l &&& 2147483647 : Nat) : Int) == 0) = true := beq_iff_eq.2 (by omega)
      by_cases hs : stream = 0
      · have ts : ((stream : Int) == 0) = true := beq_iff_eq.2 (by omega)
        rw [if_neg (by omega), if_pos hn, if_pos hs]
        clear hn hs h4
        go_enter Tryd.func43, Tryd.ntmps43
        go_wp2_with (first | (go_at_call 45; refine (partNumber_any _ _ _ _ (HRQ.out _ ?_) h4n).mono ?_; (go_grown); rintro e w' ⟨rfl, nn, rfl⟩) | (go_at_call 41; refine (partConn_any _ _).mono ?_; rintro e w' ⟨rfl, hb⟩; obtain ⟨hc1, hf1⟩ := bcell hb; have hz := hb.size; replace hb : Below w.heap.size w w' := bcall hb (by (focus repeat' (first | (with_reducible exact Below.refl _ _) | (with_reducible assumption) | (with_reducible refine Below.alloc ?_ ?_ _) | (with_reducible refine Below.drew ?_) | (with_reducible refine below_drewN ?_ _) | (with_reducible refine Below.setCell ?_ ?_ _) | (with_reducible refine Below.frame ?_ _) | go_size)))))
        refine bodyPost_ret (v := .tuple #[noPart.v none 0 none 0, (Fault.mk true true 1).v]) (by simp [results, Tryd.results43, go_sem, hc1, hz, noPart, noFault, PartS.v, Fault.v]) rfl ?_; exact PartQ.plain (by (focus repeat' (first | (with_reducible exact Below.refl _ _) | (with_reducible assumption) | (with_reducible refine Below.alloc ?_ ?_ _) | (with_reducible refine Below.drew ?_) | (with_reducible refine below_drewN ?_ _) | (with_reducible refine Below.setCell ?_ ?_ _) | (with_reducible refine Below.frame ?_ _) | go_size))) rfl rfl
      · have ts : ((stream : Int) == 0) = false := beq_eq_false_iff_ne.2 (by omega)
        rw [if_neg (by omega), if_pos hn, if_neg hs]
        clear hn hs h4
        go_enter Tryd.func43, Tryd.ntmps43
        go_wp2_with (first | (go_at_call 45; refine (partNumber_any _ _ _ _ (HRQ.out _ ?_) h4n).mono ?_; (go_grown); rintro e w' ⟨rfl, nn, rfl⟩) | (go_at_call 44; refine (partStream_any _ _).mono ?_; rintro e w' ⟨rfl, hb⟩; obtain ⟨hc1, hf1⟩ := bcell hb; have hz := hb.size; replace hb : Below w.heap.size w w' := bcall hb (by (focus repeat' (first | (with_reducible exact Below.refl _ _) | (with_reducible assumption) | (with_reducible refine Below.alloc ?_ ?_ _) | (with_reducible refine Below.drew ?_) | (with_reducible refine below_drewN ?_ _) | (with_reducible refine Below.setCell ?_ ?_ _) | (with_reducible refine Below.frame ?_ _) | go_size)))))
        refine bodyPost_ret (v := .tuple #[noPart.v none 0 none 0, (Fault.mk true false 1).v]) (by simp [results, Tryd.results43, go_sem, hc1, hz, noPart, noFault, PartS.v, Fault.v]) rfl ?_; exact PartQ.plain (by (focus repeat' (first | (with_reducible exact Below.refl _ _) | (with_reducible assumption) | (with_reducible refine Below.alloc ?_ ?_ _) | (with_reducible refine Below.drew ?_) | (with_reducible refine below_drewN ?_ _) | (with_reducible refine Below.setCell ?_ ?_ _) | (with_reducible refine Below.frame ?_ _) | go_size))) rfl rfl
    · have tn : (((num4 l &&& 2147483647 : Nat) : Int) == 0) = false := beq_eq_false_iff_ne.2 (by omega)
      rw [if_neg (by omega), if_neg hn]
      clear hn h4
      go_enter Tryd.func43, Tryd.ntmps43
      go_wp2_with (first | (go_at_call 45; refine (partNumber_any _ _ _ _ (HRQ.out _ ?_) h4n).mono ?_; (go_grown); rintro e w' ⟨rfl, nn, rfl⟩))
      refine bodyPost_ret (v := .tuple #[({ noPart with step := num4 l &&& 2147483647 } : PartS).v none 0 none 0, noFault.v]) (by simp [results, Tryd.results43, go_sem, noPart, noFault, PartS.v, Fault.v]) rfl ?_; exact PartQ.plain (by (focus repeat' (first | (with_reducible exact Below.refl _ _) | (with_reducible assumption) | (with_reducible refine Below.alloc ?_ ?_ _) | (with_reducible refine Below.drew ?_) | (with_reducible refine below_drewN ?_ _) | (with_reducible refine Below.setCell ?_ ?_ _) | (with_reducible refine Below.frame ?_ _) | go_size))) rfl rfl
  · have tb : ((l.length : Int) != 4) = true := bne_iff_ne.2 (by omega)
    rw [if_pos h4]
    clear hr hl h4
    go_enter Tryd.func43, Tryd.ntmps43
    go_wp2_with (first | (go_at_call 41; refine (partConn_any _ _).mono ?_; rintro e w' ⟨rfl, hb⟩; obtain ⟨hc1, hf1⟩ := bcell hb; have hz := hb.size; replace hb : Below w.heap.size w w' := bcall hb (by (focus repeat' (first | (with_reducible exact Below.refl _ _) | (with_reducible assumption) | (with_reducible refine Below.alloc ?_ ?_ _) | (with_reducible refine Below.drew ?_) | (with_reducible refine below_drewN ?_ _) | (with_reducible refine Below.setCell ?_ ?_ _) | (with_reducible refine Below.frame ?_ _) | go_size)))))
    refine bodyPost_ret (v := .tuple #[noPart.v none 0 none 0, (Fault.mk true true 6).v]) (by simp [results, Tryd.results43, go_sem, hc1, hz, noPart, noFault, PartS.v, Fault.v]) rfl ?_; exact PartQ.plain (by (focus repeat' (first | (with_reducible exact Below.refl _ _) | (with_reducible assumption) | (with_reducible refine Below.alloc ?_ ?_ _) | (with_reducible refine Below.drew ?_) | (with_reducible refine below_drewN ?_ _) | (with_reducible refine Below.setCell ?_ ?_ _) | (with_reducible refine Below.frame ?_ _) | go_size))) rfl rfl
end Go.Proofs.YthmfifcogokpoaaDoor
namespace Go.Proofs.YthmfifcogokpoaaDoor
open Go.RowKit

def wholeS (f : FrameS) : PartS × Fault :=
  if f.stream ≠ 0 then connS 1
  else if f.body.length < 8 ∨ (f.kind = 6 ∧ 8 < f.body.length) then connS 6
  else if f.kind = 6 then ({ noPart with data := f.body, ack := decide (0 < f.flags &&& 1) }, noFault)
  else ({ noPart with last := num4 f.body &&& 2147483647, code := num4 (f.body.drop 4) }, noFault)

theorem PartQ.made {p : PartS} {x : Fault} {w W w' W' : World} {A : Option Addr} {c : Nat} {S : Own} (hr : Row 5 1 A p.data.length c (bys p.data) S w') (hu : Upd none_ S W w') (h0 : w.heap.size ≤ W.heap.size) (ha : Above W.heap.size w' W') (hb : Below w.heap.size w W') (hs : p.sets = []) :
    PartQ (p, x) w (.returned (.tuple #[p.v A c none 0, x.v])) W' := by
  have ho : ∀ k, S k → W.heap.size ≤ k := fun k hk => (hu.own k hk).elim (·.elim) id
  refine ⟨A, c, none, 0, S, none_, rfl, hr.above ho ha, ?_, fun _ _ h => h, Upd.of_below hb fun k hk => .inr (hk.elim (fun h => Nat.le_trans h0 (ho k h)) (·.elim))⟩
  rw [hs]; exact Row.nil _ _ _

theorem gtr_and (a b : Nat) : decide ((0 : Int) < ((a &&& b : Nat) : Int)) = decide (0 < a &&& b) := by rw [decide_eq_decide]; omega

set_option maxRecDepth 100000 in
set_option maxHeartbeats 1000000 in
theorem partWhole_gone (kind flags stream : Nat) (ts : ((stream : Int) != 0) = false) (l : List UInt8) (A : Option Addr) (c : Nat) (w : World) (tk : ((kind : Int) == 6) = false) (hr : Rd w 1 A l.length c (bys l)) (h8 : 8 ≤ l.length) :
    Calls Tryd.prog 42 #[.agg #[.int .i64 kind, .int .i64 flags, .int .i64 stream, .slice A l.length c]] w (PartQ ({ noPart with last := num4 l &&& 2147483647, code := num4 (l.drop 4) }, noFault) w) := by
  have HRQ := Lib.hid (fun W (hb : Below w.heap.size w W) => hr.grow (by omega) hb)
  have tb : decide ((l.length : Int) < 8) = false := decide_eq_false (by omega)
  have h4n : 4 ≤ l.length := by omega
  have hc : l.length ≤ c := hr.le
  have hcap := hr.cap
  simp only [maxLen] at hcap
  obtain ⟨b, o, rfl, -⟩ := hr.form (by omega)
  have hd := hr.drop (k := 4) h4n
  rw [if_neg (by omega)] at hd
  have hxs : (bys l).drop (4 * 1) = bys (l.drop 4) := by simp [bys]
  have hlen : l.length - 4 = (l.drop 4).length := by simp
  rw [hxs] at hd
  have hd2 : Rd w 1 (some ⟨b, o + 4, none⟩) (l.length - 4) (c - 4) (bys (l.drop 4)) := hd
  have HC := Lib.hid (show ∀ W, Below w.heap.size w W → Calls Tryd.prog 45 #[.slice (some ⟨b, o + 4, none⟩) (l.length - 4) (c - 4)] W fun e w' => e = .returned (.int .i64 (num4 (l.drop 4))) ∧ ∃ n, w' = W.drewN n from by
    intro W hW
    have h5 := hd2.grow (by omega) hW
    rw [hlen] at h5 ⊢
    refine (partNumber_any (l.drop 4) _ _ W h5 (by simp; omega)).mono ?_
    rintro e w' ⟨h1, n, h2⟩
    exact ⟨h1, n, h2⟩)
  have hn31 := and31 l
  have j1 : (4 : Int) ≤ (l.length : Int) := by omega
  have j2 : (l.length : Int) ≤ (c : Int) := by omega
  have j3 : ¬ c = 4 := by omega
  have j4 : ¬ c ≤ 4 := by omega
  have j5 : 4 < c := by omega
  clear hr hd hd2 hxs h8 hlen hcap
  go_enter Tryd.func42, Tryd.ntmps42
  go_wp2
  go_region_held3 (fun w' => w'.cell? ⟨w.heap.size, 3, none⟩ = some (.slice (some ⟨b, o, none⟩) l.length c)) (first | (go_keep; done) | (simp [go_sem]; done)) (first | (go_at_call_of 45 (Value.slice (some ⟨b, o, none⟩) l.length c); refine (partNumber_any l _ _ _ (HRQ.out _ ?_) h4n).mono ?_; ((focus repeat' (first | (with_reducible exact Below.refl _ _) | (with_reducible assumption) | (with_reducible refine Below.alloc ?_ ?_ _) | (with_reducible refine Below.drew ?_) | (with_reducible refine below_drewN ?_ _) | (with_reducible refine Below.setCell ?_ ?_ _) | (with_reducible refine Below.frame ?_ _) | go_size))); rintro e w' ⟨rfl, nn, rfl⟩) | (go_at_call 45; refine (HC.out _ ?_).mono ?_; ((focus repeat' (first | (with_reducible exact Below.refl _ _) | (with_reducible assumption) | (with_reducible refine Below.alloc ?_ ?_ _) | (with_reducible refine Below.drew ?_) | (with_reducible refine below_drewN ?_ _) | (with_reducible refine Below.setCell ?_ ?_ _) | (with_reducible refine Below.frame ?_ _) | go_size))); rintro e w' ⟨rfl, nn, rfl⟩))
  go_wp2
  refine bodyPost_ret (v := .tuple #[({ noPart with last := num4 l &&& 2147483647, code := num4 (l.drop 4) } : PartS).v none 0 none 0, (noFault : Fault).v]) (by (simp [results, Tryd.results42, go_sem, noPart, noFault, PartS.v, Fault.v, hn31]; try omega)) rfl ?_; exact PartQ.plain (by (focus repeat' (first | (with_reducible exact Below.refl _ _) | (with_reducible assumption) | (with_reducible refine Below.alloc ?_ ?_ _) | (with_reducible refine Below.drew ?_) | (with_reducible refine below_drewN ?_ _) | (with_reducible refine Below.setCell ?_ ?_ _) | (with_reducible refine Below.frame ?_ _) | go_size))) rfl rfl

set_option maxRecDepth 100000 in
set_option maxHeartbeats 1000000 in
theorem partWhole_any (f : FrameS) (A : Option Addr) (c : Nat) (w : World) (hf : f.Ok) (hr : Rd w 1 A f.body.length c (bys f.body)) :
    Calls Tryd.prog 42 #[f.v A c] w (PartQ (wholeS f) w) := by
  obtain ⟨kind, flags, stream, l⟩ := f
  obtain ⟨hk, hfl, hst, hl⟩ := hf
  simp only at hk hfl hst hl hr
  simp only [wholeS, FrameS.v, connS, streamS]
  have HRQ := Lib.hid (fun W (hb : Below w.heap.size w W) => hr.grow (by omega) hb)
  have hbig : l.length ≤ big := by simp only [big]; omega
  have h1 := bys_one l
  have ha : bits .and .i64 (flags : Int) 1 = ((flags &&& 1 : Nat) : Int) := i64_and_nat flags 1 (by omega) (by omega)
  have hg := gtr_and flags 1
  by_cases hs : stream = 0
  · have ts : ((stream : Int) != 0) = false := by rw [hs]; rfl
    rw [if_neg (by omega)]
    clear hs
    by_cases h8 : l.length < 8
    · have tb : decide ((l.length : Int) < 8) = true := decide_eq_true (by omega)
      rw [if_pos (.inl h8)]
      clear h8 hr
      go_enter Tryd.func42, Tryd.ntmps42
      go_wp2_with (first | (go_at_call 41; refine (partConn_any _ _).mono ?_; rintro e w' ⟨rfl, hb⟩; obtain ⟨hc1, hf1⟩ := bcell hb; have hz := hb.size; replace hb : Below w.heap.size w w' := bcall hb (by (focus repeat' (first | (with_reducible exact Below.refl _ _) | (with_reducible assumption) | (with_reducible refine Below.alloc ?_ ?_ _) | (with_reducible refine Below.drew ?_) | (with_reducible refine below_drewN ?_ _) | (with_reducible refine Below.setCell ?_ ?_ _) | (with_reducible refine Below.frame ?_ _) | go_size)))))
      refine bodyPost_ret (v := .tuple #[(noPart : PartS).v none 0 none 0, (⟨true, true, 6⟩ : Fault).v]) (by (simp [results, Tryd.results42, go_sem, noPart, noFault, PartS.v, Fault.v, hc1, hz]; try omega)) rfl ?_; exact PartQ.plain (by (focus repeat' (first | (with_reducible exact Below.refl _ _) | (with_reducible assumption) | (with_reducible refine Below.alloc ?_ ?_ _) | (with_reducible refine Below.drew ?_) | (with_reducible refine below_drewN ?_ _) | (with_reducible refine Below.setCell ?_ ?_ _) | (with_reducible refine Below.frame ?_ _) | go_size))) rfl rfl
    · have tb : decide ((l.length : Int) < 8) = false := decide_eq_false (by omega)
      by_cases h6 : kind = 6
      · subst h6
        by_cases h9 : 8 < l.length
        · have tb2 : decide ((8 : Int) < (l.length : Int)) = true := decide_eq_true (by omega)
          rw [if_pos (.inr ⟨rfl, h9⟩)]
          clear h8 h9 hr
          go_enter Tryd.func42, Tryd.ntmps42
          go_wp2_with (first | (go_at_call 41; refine (partConn_any _ _).mono ?_; rintro e w' ⟨rfl, hb⟩; obtain ⟨hc1, hf1⟩ := bcell hb; have hz := hb.size; replace hb : Below w.heap.size w w' := bcall hb (by (focus repeat' (first | (with_reducible exact Below.refl _ _) | (with_reducible assumption) | (with_reducible refine Below.alloc ?_ ?_ _) | (with_reducible refine Below.drew ?_) | (with_reducible refine below_drewN ?_ _) | (with_reducible refine Below.setCell ?_ ?_ _) | (with_reducible refine Below.frame ?_ _) | go_size)))))
          refine bodyPost_ret (v := .tuple #[(noPart : PartS).v none 0 none 0, (⟨true, true, 6⟩ : Fault).v]) (by (simp [results, Tryd.results42, go_sem, noPart, noFault, PartS.v, Fault.v, hc1, hz]; try omega)) rfl ?_; exact PartQ.plain (by (focus repeat' (first | (with_reducible exact Below.refl _ _) | (with_reducible assumption) | (with_reducible refine Below.alloc ?_ ?_ _) | (with_reducible refine Below.drew ?_) | (with_reducible refine below_drewN ?_ _) | (with_reducible refine Below.setCell ?_ ?_ _) | (with_reducible refine Below.frame ?_ _) | go_size))) rfl rfl
        · have tb2 : decide ((8 : Int) < (l.length : Int)) = false := decide_eq_false (by omega)
          rw [if_neg (by omega), if_pos rfl]
          clear h8 h9 hr
          go_enter Tryd.func42, Tryd.ntmps42
          go_wp2
          go_region_held3 (fun w' => w'.cell? ⟨w.heap.size, 1, none⟩ = some (.int .i64 flags) ∧ w'.cell? ⟨w.heap.size, 3, none⟩ = some (.slice A l.length c)) (first | (go_keep; done) | (simp [hc1, go_sem]; done)) (first | (go_at_call 29; refine (bytesClone_any _ _ _ _ _ (HRQ.out _ ?_) h1 hbig).mono ?_; (focus repeat' (first | (with_reducible exact Below.refl _ _) | (with_reducible assumption) | (with_reducible refine Below.alloc ?_ ?_ _) | (with_reducible refine Below.drew ?_) | (with_reducible refine below_drewN ?_ _) | (with_reducible refine Below.setCell ?_ ?_ _) | (with_reducible refine Below.frame ?_ _) | go_size)); rintro e w' ⟨A', c', S', rfl, hrow, hu⟩; have hb2 := hu.below (fun _ h => h.elim) (Nat.le_refl _); obtain ⟨hc1, hf1⟩ := bcell hb2; have hz := hb2.size))
          go_wp2
          refine bodyPost_ret (v := .tuple #[({ noPart with data := l, ack := decide (0 < flags &&& 1) } : PartS).v A' c' none 0, (noFault : Fault).v]) (by (simp [results, Tryd.results42, go_sem, hc1, hz, noPart, noFault, PartS.v, Fault.v, ha, hg]; try omega)) rfl ?_; have hb3 : Below w.heap.size w w' := bcall hb2 (by (focus repeat' (first | (with_reducible exact Below.refl _ _) | (with_reducible assumption) | (with_reducible refine Below.alloc ?_ ?_ _) | (with_reducible refine Below.drew ?_) | (with_reducible refine below_drewN ?_ _) | (with_reducible refine Below.setCell ?_ ?_ _) | (with_reducible refine Below.frame ?_ _) | go_size))); refine PartQ.made hrow hu ?_ ?_ ?_ rfl; (go_size); ((focus repeat' (first | (with_reducible exact Above.refl _ _) | (with_reducible assumption) | (with_reducible refine Above.setCell ?_ ?_ _) | (with_reducible refine Above.alloc ?_ _) | (with_reducible refine Above.drew ?_) | (with_reducible refine Above.drewN ?_ _) | go_size))); ((focus repeat' (first | (with_reducible exact Below.refl _ _) | (with_reducible assumption) | (with_reducible refine Below.alloc ?_ ?_ _) | (with_reducible refine Below.drew ?_) | (with_reducible refine below_drewN ?_ _) | (with_reducible refine Below.setCell ?_ ?_ _) | (with_reducible refine Below.frame ?_ _) | go_size)))
      · have tk : ((kind : Int) == 6) = false := beq_eq_false_iff_ne.2 (by omega)
        rw [if_neg (by omega), if_neg h6]
        have hl8 : 8 ≤ l.length := by omega
        exact partWhole_gone kind flags stream ts l A c w tk hr hl8
  · have ts : ((stream : Int) != 0) = true := bne_iff_ne.2 (by omega)
    rw [if_pos hs]
    clear hs hr
    go_enter Tryd.func42, Tryd.ntmps42
    go_wp2_with (first | (go_at_call 41; refine (partConn_any _ _).mono ?_; rintro e w' ⟨rfl, hb⟩; obtain ⟨hc1, hf1⟩ := bcell hb; have hz := hb.size; replace hb : Below w.heap.size w w' := bcall hb (by (focus repeat' (first | (with_reducible exact Below.refl _ _) | (with_reducible assumption) | (with_reducible refine Below.alloc ?_ ?_ _) | (with_reducible refine Below.drew ?_) | (with_reducible refine below_drewN ?_ _) | (with_reducible refine Below.setCell ?_ ?_ _) | (with_reducible refine Below.frame ?_ _) | go_size)))))
    refine bodyPost_ret (v := .tuple #[(noPart : PartS).v none 0 none 0, (⟨true, true, 1⟩ : Fault).v]) (by (simp [results, Tryd.results42, go_sem, noPart, noFault, PartS.v, Fault.v, hc1, hz]; try omega)) rfl ?_; exact PartQ.plain (by (focus repeat' (first | (with_reducible exact Below.refl _ _) | (with_reducible assumption) | (with_reducible refine Below.alloc ?_ ?_ _) | (with_reducible refine Below.drew ?_) | (with_reducible refine below_drewN ?_ _) | (with_reducible refine Below.setCell ?_ ?_ _) | (with_reducible refine Below.frame ?_ _) | go_size))) rfl rfl
end Go.Proofs.YthmfifcogokpoaaDoor
