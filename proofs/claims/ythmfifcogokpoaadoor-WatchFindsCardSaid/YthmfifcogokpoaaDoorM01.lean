/- What is proved here: contracts of the program's functions and plain lemmas that the claim's last text uses, in parts: float64 holds every integer of fewer than 54 bits exactly; sums, differences, comparisons and conversions of such floats are those of the integers; small facts on memory that all walks of this family use: ownership of blocks, slices that are read, append onto an owned slice. -/
import Derived.Laws.ComplexArith
import Derived.WalkKit
import Derived.WalkLawsBesides
import Derived.WalkSpells
import Derived.Maps.AppendAt
import Derived.Deep.AppendLies
import Derived.Deep.RegionHeld3
import Derived.Deep.QuietTactic
import Derived.Deep.Draws
import Derived.BigQuiet
import Derived.StillTailTactics
import Derived.Lib.Hide
import Derived.Handy
set_option linter.unusedVariables false
set_option linter.unusedSimpArgs false
namespace Go.Proofs.YthmfifcogokpoaaDoor
open Ieee

/-- The bits of float64(n). -/
def F (n : Int) : Nat := double.write (.number (n < 0) n.natAbs 0)

theorem sw_eq : double.signWeight = 2 ^ 63 := by decide
theorem bi_eq : double.binade = 2 ^ 52 := by decide
theorem inf_eq : double.infRung = 2047 * 2 ^ 52 := by decide
theorem lp_eq : double.leastPlace = -1074 := by decide
theorem fb_eq : double.fractionBits = 52 := rfl

theorem log2_pow (n d : Nat) (hn : n ≠ 0) : (n * 2 ^ d).log2 = n.log2 + d := by
  have hp := Nat.two_pow_pos d
  rw [Nat.log2_eq_iff (Nat.mul_ne_zero hn (by omega))]
  have h1 := Nat.log2_self_le hn
  have h2 : n < 2 ^ (n.log2 + 1) := Nat.lt_log2_self
  constructor
  · rw [Nat.pow_add]; exact Nat.mul_le_mul_right _ h1
  · rw [show n.log2 + d + 1 = n.log2 + 1 + d by omega, Nat.pow_add]; exact Nat.mul_lt_mul_of_pos_right h2 hp

theorem cut_exact (neg : Bool) (n d : Nat) : Toward.even.cut neg (n <<< d) d = n := by
  unfold Toward.cut
  have hlog : n ≠ 0 → (n <<< d).log2 = n.log2 + d := by
    intro hn
    rw [Nat.shiftLeft_eq, log2_pow _ _ hn]
  by_cases hn : n = 0
  · subst hn; simp
  have hm : min d ((n <<< d).log2 + 2) = d := by rw [hlog hn]; omega
  simp only [hm]
  have h1 : (n <<< d) / (1 <<< d) = n := by
    rw [Nat.shiftLeft_eq, Nat.shiftLeft_eq, Nat.one_mul]; exact Nat.mul_div_cancel _ (Nat.two_pow_pos d)
  have h2 : (n <<< d) % (1 <<< d) = 0 := by
    rw [Nat.shiftLeft_eq, Nat.shiftLeft_eq, Nat.one_mul]; exact Nat.mul_mod_left _ _
  rw [h1, h2]
  simp

/-- 'n * 2^j' at place '-j' is written as n is. -/
theorem nearest_shift (neg : Bool) (n j : Nat) (h0 : 0 < n) (hn : n < 2 ^ 53) :
    double.nearest neg (n <<< j) (-(j : Int)) = double.word neg ((n.log2 + 1022) * 2 ^ 52 + n * 2 ^ (52 - n.log2)) := by
  have hne : n <<< j ≠ 0 := by rw [Nat.shiftLeft_eq]; exact Nat.mul_ne_zero (by omega) (by have := Nat.two_pow_pos j; omega)
  have hlog : (n <<< j).log2 = n.log2 + j := by rw [Nat.shiftLeft_eq, log2_pow _ _ (by omega)]
  have hL : n.log2 < 53 := (Nat.log2_lt (by omega)).2 hn
  unfold Format.nearest
  rw [if_neg hne, hlog, fb_eq, lp_eq, bi_eq, inf_eq]
  have hlast : max (-(j : Int) + ((n.log2 + j : Nat) : Int) - ((52 : Nat) : Int)) (-1074) = (n.log2 : Int) - 52 := by omega
  simp only [hlast]
  have hkept : Toward.even.cut neg ((n <<< j) <<< (-(j : Int) - ((n.log2 : Int) - 52)).toNat) (((n.log2 : Int) - 52) - -(j : Int)).toNat = n * 2 ^ (52 - n.log2) := by
    by_cases hc : j + n.log2 ≤ 52
    · have e1 : (-(j : Int) - ((n.log2 : Int) - 52)).toNat = 52 - n.log2 - j := by omega
      have e2 : (((n.log2 : Int) - 52) - -(j : Int)).toNat = 0 := by omega
      rw [e1, e2, ← Nat.shiftLeft_add, show j + (52 - n.log2 - j) = 52 - n.log2 by omega]
      have := cut_exact neg (n <<< (52 - n.log2)) 0
      rw [Nat.shiftLeft_zero] at this
      rw [this, Nat.shiftLeft_eq]
    · have e1 : (-(j : Int) - ((n.log2 : Int) - 52)).toNat = 0 := by omega
      have e2 : (((n.log2 : Int) - 52) - -(j : Int)).toNat = j - (52 - n.log2) := by omega
      rw [e1, e2, Nat.shiftLeft_zero]
      have e3 : n <<< j = (n <<< (52 - n.log2)) <<< (j - (52 - n.log2)) := by rw [← Nat.shiftLeft_add, show 52 - n.log2 + (j - (52 - n.log2)) = j by omega]
      rw [e3, cut_exact, Nat.shiftLeft_eq]
  rw [hkept]
  congr 1
  have e4 : (((n.log2 : Int) - 52) - -1074).toNat = n.log2 + 1022 := by omega
  rw [e4]
  have hb : n * 2 ^ (52 - n.log2) < 2 ^ 53 := by
    have h1 : n < 2 ^ (n.log2 + 1) := Nat.lt_log2_self
    calc n * 2 ^ (52 - n.log2) < 2 ^ (n.log2 + 1) * 2 ^ (52 - n.log2) := Nat.mul_lt_mul_of_pos_right h1 (Nat.two_pow_pos _)
      _ = 2 ^ 53 := by rw [← Nat.pow_add]; congr 1; omega
  omega

theorem F_zero : F 0 = 0 := by decide

theorem F_pos (n : Int) (h0 : n ≠ 0) (hn : n.natAbs < 2 ^ 53) :
    F n = double.word (n < 0) ((n.natAbs.log2 + 1022) * 2 ^ 52 + n.natAbs * 2 ^ (52 - n.natAbs.log2)) := by
  have := nearest_shift (n < 0) n.natAbs 0 (by omega) hn
  rw [Nat.shiftLeft_zero] at this
  exact this

/-- What the word of n is read as. -/
theorem word_parts (b : Bool) (r : Nat) (hr : r < 2 ^ 63) : (double.word b r) / 2 ^ 63 % 2 = b.toNat ∧ (double.word b r) % 2 ^ 63 = r := by
  unfold Format.word
  rw [sw_eq]
  cases b <;> simp <;> omega
theorem toNat_beq (b : Bool) : (b.toNat == 1) = b := by cases b <;> rfl
theorem read_F (n : Int) (hn : n.natAbs < 2 ^ 53) :
    ∃ m e, double.read (F n) = .number (n < 0) m e ∧ (∃ j : Nat, e = -(j : Int) ∧ m = n.natAbs <<< j) := by
  by_cases h0 : n = 0
  · subst h0
    exact ⟨0, -1074, by decide, 1074, by decide, by decide⟩
  have hpos : 0 < n.natAbs := by omega
  have hL : n.natAbs.log2 < 53 := (Nat.log2_lt (by omega)).2 hn
  generalize hN : n.natAbs = N at *
  have hlo : 2 ^ N.log2 ≤ N := Nat.log2_self_le (by omega)
  have hhi : N < 2 ^ (N.log2 + 1) := Nat.lt_log2_self
  have hb1 : 2 ^ 52 ≤ N * 2 ^ (52 - N.log2) := by
    calc 2 ^ 52 = 2 ^ N.log2 * 2 ^ (52 - N.log2) := by rw [← Nat.pow_add]; congr 1; omega
      _ ≤ N * 2 ^ (52 - N.log2) := Nat.mul_le_mul_right _ hlo
  have hb2 : N * 2 ^ (52 - N.log2) < 2 ^ 53 := by
    calc N * 2 ^ (52 - N.log2) < 2 ^ (N.log2 + 1) * 2 ^ (52 - N.log2) := Nat.mul_lt_mul_of_pos_right hhi (Nat.two_pow_pos _)
      _ = 2 ^ 53 := by rw [← Nat.pow_add]; congr 1; omega
  refine ⟨N * 2 ^ (52 - N.log2), (N.log2 : Int) - 52, ?_, 52 - N.log2, by omega, by rw [Nat.shiftLeft_eq]⟩
  rw [F_pos n h0 (by omega), hN]
  generalize hK : N * 2 ^ (52 - N.log2) = K at *
  generalize hE : N.log2 = L at *
  unfold Format.read
  rw [sw_eq, bi_eq, inf_eq, lp_eq]
  have hr : (L + 1022) * 2 ^ 52 + K < 2 ^ 63 := by omega
  have hw := word_parts (decide (n < 0)) _ hr
  have e1 : ((L + 1022) * 2 ^ 52 + K) % 2 ^ 52 = K - 2 ^ 52 := by omega
  have e2 : ((L + 1022) * 2 ^ 52 + K) / 2 ^ 52 = L + 1023 := by omega
  have l1 : ¬ (L + 1022) * 2 ^ 52 + K < 2 ^ 52 := by omega
  have l2 : (L + 1022) * 2 ^ 52 + K < 2047 * 2 ^ 52 := by omega
  generalize (L + 1022) * 2 ^ 52 + K = R at *
  rw [hw.1, hw.2, if_neg l1, if_pos l2, e1, e2, toNat_beq]
  have e3 : 2 ^ 52 + (K - 2 ^ 52) = K := by omega
  have e4 : (-1074 : Int) + ((L + 1023 - 1 : Nat) : Int) = (L : Int) - 52 := by omega
  rw [e3, e4]

theorem signed_shift (n : Int) (j : Nat) (d : Nat) : signed (n < 0) (n.natAbs <<< j) d = n * ((2 ^ (j + d) : Nat) : Int) := by
  unfold signed
  have e : ((n.natAbs <<< j) <<< d : Nat) = n.natAbs * 2 ^ (j + d) := by rw [← Nat.shiftLeft_add, Nat.shiftLeft_eq]
  rw [e]
  generalize 2 ^ (j + d) = q
  by_cases h : n < 0
  · simp only [h, decide_true, if_true]
    have : (n.natAbs : Int) = -n := by omega
    rw [Int.natCast_mul, this]
    simp [Int.neg_mul]
  · simp only [h, decide_false]
    have : (n.natAbs : Int) = n := by omega
    rw [Int.natCast_mul, this]
    simp

theorem mul_pow_inj {a b : Int} {q : Nat} (hq : 0 < q) : (a * (q : Int) < b * (q : Int) ↔ a < b) ∧ (a * (q : Int) = b * (q : Int) ↔ a = b) := by
  constructor
  · exact ⟨fun h => Int.lt_of_mul_lt_mul_right h (by omega), fun h => Int.mul_lt_mul_of_pos_right h (by omega)⟩
  · exact ⟨fun h => Int.eq_of_mul_eq_mul_right (by omega) h, fun h => by rw [h]⟩

/-- Two such floats stand to each other as the integers do. -/
theorem order_F (a b : Int) (ha : a.natAbs < 2 ^ 53) (hb : b.natAbs < 2 ^ 53) : double.order (F a) (F b) = some (compare a b) := by
  obtain ⟨m, e, hr, i, rfl, rfl⟩ := read_F a ha
  obtain ⟨m', e', hr', j, rfl, rfl⟩ := read_F b hb
  unfold Format.order
  rw [hr, hr']
  simp only [Datum.order]
  rw [signed_shift, signed_shift]
  have e1 : i + (-(i : Int) - min (-(i : Int)) (-(j : Int))).toNat = max i j := by omega
  have e2 : j + (-(j : Int) - min (-(i : Int)) (-(j : Int))).toNat = max i j := by omega
  rw [e1, e2]
  have hq := Nat.two_pow_pos (max i j)
  generalize 2 ^ max i j = q at hq
  congr 1
  simp only [compare, compareOfLessAndEq, (mul_pow_inj (a := a) (b := b) hq).1, (mul_pow_inj (a := a) (b := b) hq).2]

theorem write_total (c : Int) (q : Nat) (s : Bool) (hs : c = 0 → s = false) (hc : c.natAbs < 2 ^ 53) :
    double.write (.number (if c * ((2 ^ q : Nat) : Int) = 0 then s else c * ((2 ^ q : Nat) : Int) < 0) (c * ((2 ^ q : Nat) : Int)).natAbs (-(q : Int))) = F c := by
  have hq := Nat.two_pow_pos q
  by_cases h0 : c = 0
  · subst h0
    simp [hs rfl, Format.write, Format.nearest, F_zero, Format.word]
  · have hne : c * ((2 ^ q : Nat) : Int) ≠ 0 := Int.mul_ne_zero h0 (by omega)
    rw [if_neg hne]
    have hlt : (c * ((2 ^ q : Nat) : Int) < 0) ↔ c < 0 := by
      have := (mul_pow_inj (a := c) (b := 0) hq).1
      rwa [Int.zero_mul] at this
    rw [show (decide (c * ((2 ^ q : Nat) : Int) < 0)) = decide (c < 0) from decide_eq_decide.2 hlt]
    have habs : (c * ((2 ^ q : Nat) : Int)).natAbs = c.natAbs <<< q := by rw [Int.natAbs_mul, Nat.shiftLeft_eq]; rfl
    rw [habs]
    show double.nearest _ _ _ = _
    rw [nearest_shift _ _ _ (by omega) hc, F_pos c h0 hc]

/-- Sums are exact. -/
theorem add_F (a b : Int) (ha : a.natAbs < 2 ^ 53) (hb : b.natAbs < 2 ^ 53) (hc : (a + b).natAbs < 2 ^ 53) : double.add (F a) (F b) = some (F (a + b)) := by
  obtain ⟨m, e, hr, i, rfl, rfl⟩ := read_F a ha
  obtain ⟨m', e', hr', j, rfl, rfl⟩ := read_F b hb
  unfold Format.add
  rw [hr, hr']
  simp only [Datum.sum, Option.map_some]
  rw [signed_shift, signed_shift]
  have e1 : i + (-(i : Int) - min (-(i : Int)) (-(j : Int))).toNat = max i j := by omega
  have e2 : j + (-(j : Int) - min (-(i : Int)) (-(j : Int))).toNat = max i j := by omega
  have e3 : min (-(i : Int)) (-(j : Int)) = -((max i j : Nat) : Int) := by omega
  rw [e1, e2, e3, ← Int.add_mul]
  congr 1
  exact write_total (a + b) (max i j) _ (by intro h; have h3 : ¬ (a < 0 ∧ b < 0) := by omega
                                            cases h1 : decide (a < 0) <;> cases h2 : decide (b < 0) <;> first | rfl | exact absurd ⟨of_decide_eq_true h1, of_decide_eq_true h2⟩ h3) hc

theorem signed_not (n : Int) (j d : Nat) : signed (!decide (n < 0)) (n.natAbs <<< j) d = -(n * ((2 ^ (j + d) : Nat) : Int)) := by
  have h := signed_shift n j d
  unfold signed at *
  cases hn : decide (n < 0) <;> simp only [hn, Bool.not_true, Bool.not_false, if_true, Bool.false_eq_true, if_false] at * <;> omega

theorem sub_F (a b : Int) (ha : a.natAbs < 2 ^ 53) (hb : b.natAbs < 2 ^ 53) (hc : (a - b).natAbs < 2 ^ 53) : double.sub (F a) (F b) = some (F (a - b)) := by
  obtain ⟨m, e, hr, i, rfl, rfl⟩ := read_F a ha
  obtain ⟨m', e', hr', j, rfl, rfl⟩ := read_F b hb
  unfold Format.sub
  rw [hr, hr']
  simp only [Datum.opposite, Datum.sum, Option.map_some]
  rw [signed_shift, signed_not]
  have e1 : i + (-(i : Int) - min (-(i : Int)) (-(j : Int))).toNat = max i j := by omega
  have e2 : j + (-(j : Int) - min (-(i : Int)) (-(j : Int))).toNat = max i j := by omega
  have e3 : min (-(i : Int)) (-(j : Int)) = -((max i j : Nat) : Int) := by omega
  rw [e1, e2, e3, ← Int.sub_eq_add_neg, ← Int.sub_mul]
  congr 1
  refine write_total (a - b) (max i j) _ ?_ hc
  intro h
  have : a = b := by omega
  subst this
  cases decide (a < 0) <;> rfl

theorem toInt_F (n : Int) (hn : n.natAbs < 2 ^ 53) : (double.read (F n)).toInt .zero = some n := by
  obtain ⟨m, e, hr, j, rfl, rfl⟩ := read_F n hn
  rw [hr]
  simp only [Datum.toInt, Datum.integral]
  have e1 : (-(j : Int)).toNat = 0 := by omega
  have e2 : (- -(j : Int)).toNat = j := by omega
  rw [e1, e2, Nat.shiftLeft_zero]
  have hc : Toward.zero.cut (decide (n < 0)) (n.natAbs <<< j) j = n.natAbs := by
    have := cut_exact (decide (n < 0)) n.natAbs j
    unfold Toward.cut at this ⊢
    simp only at this ⊢
    have h1 : (n.natAbs <<< j) / (1 <<< min j ((n.natAbs <<< j).log2 + 2)) = n.natAbs := by
      by_cases h0 : n.natAbs = 0
      · rw [h0]; simp
      · have hlog : (n.natAbs <<< j).log2 = n.natAbs.log2 + j := by rw [Nat.shiftLeft_eq, log2_pow _ _ h0]
        rw [hlog, show min j (n.natAbs.log2 + j + 2) = j by omega, Nat.shiftLeft_eq, Nat.shiftLeft_eq, Nat.one_mul]
        exact Nat.mul_div_cancel _ (Nat.two_pow_pos j)
    rw [h1]; rfl
  rw [hc]
  have h2 := signed_shift n 0 0
  rw [Nat.shiftLeft_zero] at h2
  rw [h2]
  simp

end Go.Proofs.YthmfifcogokpoaaDoor
namespace Go.Proofs.YthmfifcogokpoaaDoor
open Go.RowKit

theorem ret_int {k : IntKind} {a b : Int} (h : a = b) : Ending.returned (.int k a) = .returned (.int k b) := by rw [h]
theorem ret_bool {a b : Bool} (h : a = b) : Ending.returned (.bool a) = .returned (.bool b) := by rw [h]

/-- Behind a call that only makes memory: all old cells and marks read as before. -/
theorem bcell {W w1 : World} (hb : Below W.heap.size W w1) : (∀ b o, b < W.heap.size → w1.cell? ⟨b, o, none⟩ = W.cell? ⟨b, o, none⟩) ∧ (∀ b o, b < W.heap.size → w1.frozen? ⟨b, o, none⟩ = W.frozen? ⟨b, o, none⟩) :=
  ⟨fun b o h => hb.cell (p := ⟨b, o, none⟩) h, fun b o h => hb.frozen (p := ⟨b, o, none⟩) h⟩

/-- A call that only makes memory, seen from an earlier world. -/
theorem below_call {B : Nat} {w W w' : World} (h : Below W.heap.size W w') (h0 : Below B w W) (hs : B ≤ W.heap.size) : Below B w w' := h0.trans (h.mono hs)

/-! ### Bytes -/
def by8 (b : UInt8) : Value := .int .u8 b.toNat
def bys (l : List UInt8) : List Value := l.map by8
theorem bys_length (l : List UInt8) : (bys l).length = l.length := by simp [bys]
theorem bys_get (l : List UInt8) (j : Nat) (h : j < l.length) : (bys l)[j]? = some (by8 l[j]) := by simp [bys, h]
theorem bys_append (a b : List UInt8) : bys (a ++ b) = bys a ++ bys b := by simp [bys]
theorem bys_one (l : List UInt8) : ∀ u ∈ bys l, u.oneCell' = true := by
  intro u hu
  simp only [bys, List.mem_map] at hu
  obtain ⟨b, _, rfl⟩ := hu
  rfl

/-! ### Worlds -/
/-- Blocks, held. -/
abbrev Own := Nat → Prop
/-- Of the blocks that were there, only those of S may have changed; S' are held behind it. -/
structure Upd (S S' : Own) (w w' : World) : Prop where
  os : w'.os = w.os
  tape : w'.tape = w.tape
  output : w'.output = w.output
  size : w.heap.size ≤ w'.heap.size
  block : ∀ k, k < w.heap.size → ¬ S k → w'.heap[k]? = w.heap[k]?
  own : ∀ k, S' k → S k ∨ w.heap.size ≤ k

def none_ : Own := fun _ => False

theorem Upd.refl (S : Own) (w : World) : Upd S S w w := ⟨rfl, rfl, rfl, Nat.le_refl _, fun _ _ _ => rfl, fun _ h => .inl h⟩
theorem Upd.trans {S S' S'' : Own} {a b c : World} (h : Upd S S' a b) (k : Upd S' S'' b c) : Upd S S'' a c :=
  ⟨k.os.trans h.os, k.tape.trans h.tape, k.output.trans h.output, Nat.le_trans h.size k.size,
   fun i hi hn => (k.block i (Nat.lt_of_lt_of_le hi h.size) (fun hs => by rcases h.own i hs with h' | h'; exact hn h'; omega)).trans (h.block i hi hn),
   fun i hi => by
     rcases k.own i hi with h1 | h1
     · exact h.own i h1
     · exact .inr (Nat.le_trans h.size h1)⟩
theorem Upd.of_below {S S' : Own} {w w' : World} (h : Below w.heap.size w w') (ho : ∀ k, S' k → S k ∨ w.heap.size ≤ k) : Upd S S' w w' :=
  ⟨h.os, h.tape, h.output, h.size, fun k hk _ => h.block k hk, ho⟩
theorem Upd.below {S S' : Own} {w w' : World} {B : Nat} (h : Upd S S' w w') (hB : ∀ k, S k → B ≤ k) (hs : B ≤ w.heap.size) : Below B w w' :=
  ⟨h.os, h.tape, h.output, h.size, fun k hk => h.block k (by omega) (fun hS => by have := hB k hS; omega)⟩
theorem Upd.cell {S S' : Own} {w w' : World} (h : Upd S S' w w') {a : Addr} (hb : a.block < w.heap.size) (hn : ¬ S a.block) : w'.cell? a = w.cell? a := World.cell?_of_block (h.block _ hb hn)
theorem Upd.frozen {S S' : Own} {w w' : World} (h : Upd S S' w w') {a : Addr} (hb : a.block < w.heap.size) (hn : ¬ S a.block) : w'.frozen? a = w.frozen? a := World.frozen?_of_block (h.block _ hb hn)

theorem Upd.drew {S S' : Own} {a w : World} (h : Upd S S' a w) : Upd S S' a w.drew := ⟨h.os, h.tape, h.output, h.size, h.block, h.own⟩
theorem Upd.drewN {S S' : Own} {a w : World} (h : Upd S S' a w) (n : Nat) : Upd S S' a (w.drewN n) := ⟨h.os, h.tape, h.output, h.size, h.block, h.own⟩
theorem Upd.alloc {S S' : Own} {a w : World} (h : Upd S S' a w) (o : Obj) : Upd S S' a (w.alloc o) :=
  ⟨h.os, h.tape, h.output, by have := h.size; simp; omega, fun k hk hn => (Below.heap_alloc w o k (Nat.lt_of_lt_of_le hk h.size)).trans (h.block k hk hn), h.own⟩
theorem Upd.setCell {S S' : Own} {a w : World} (h : Upd S S' a w) {p : Addr} (hp : S p.block ∨ a.heap.size ≤ p.block) (v : Value) : Upd S S' a (w.setCell p v) :=
  ⟨h.os, h.tape, h.output, by have := h.size; simpa [World.setCell] using this, fun k hk hn => (Below.heap_setCell w p v k (by rintro rfl; rcases hp with hp | hp; exact hn hp; omega)).trans (h.block k hk hn), h.own⟩
/-- Another holding behind it. -/
theorem Upd.holds {S S' S'' : Own} {a w : World} (h : Upd S S' a w) (ho : ∀ k, S'' k → S k ∨ a.heap.size ≤ k) : Upd S S'' a w := ⟨h.os, h.tape, h.output, h.size, h.block, ho⟩
/-- Fewer blocks may have changed. -/
theorem Upd.wider {S S' R : Own} {a w : World} (h : Upd S S' a w) (hR : ∀ k, S k → R k) : Upd R S' a w := ⟨h.os, h.tape, h.output, h.size, fun k hk hn => h.block k hk (fun hs => hn (hR k hs)), fun k hk => (h.own k hk).imp (hR k) id⟩

theorem heap_lt {w : World} {b : Nat} {o : Obj} (h : w.heap[b]? = some o) : b < w.heap.size := (Array.getElem?_eq_some_iff.1 h).1
theorem heap_set_same {w : World} {b o : Nat} {cs : Array Value} {t : TypeId} {fz : Nat × Nat} (h : w.heap[b]? = some (.cells cs t fz)) (v : Value) :
    (w.setCell ⟨b, o, none⟩ v).heap[b]? = some (.cells (cs.setIfInBounds o v) t fz) := by
  simp [World.setCell, Array.getElem?_modify, h]
theorem heap_set_other {w : World} {b : Nat} {a : Addr} (v : Value) (h : b ≠ a.block) : (w.setCell a v).heap[b]? = w.heap[b]? := Below.heap_setCell w a v b h

/-- A block that is known whole. -/
def Blk (w : World) (b : Nat) (t : TypeId) (cs : List Value) : Prop := w.heap[b]? = some (.cells cs.toArray t (0, 0))
theorem Blk.lt {w : World} {b : Nat} {t : TypeId} {cs : List Value} (h : Blk w b t cs) : b < w.heap.size := heap_lt h
theorem Blk.cell {w : World} {b : Nat} {t : TypeId} {cs : List Value} (h : Blk w b t cs) (i : Nat) : w.cell? ⟨b, i, none⟩ = cs[i]? := by
  rw [cell_of_row w b i _ t (0, 0) h]; simp
theorem Blk.frozen {w : World} {b : Nat} {t : TypeId} {cs : List Value} (h : Blk w b t cs) (i : Nat) : w.frozen? ⟨b, i, none⟩ = false := by
  unfold Blk at h
  simp [World.frozen?, h]
theorem Blk.new (w : World) (t : TypeId) (cs : List Value) : Blk (w.alloc (.cells cs.toArray t)) w.heap.size t cs := heap_alloc_new w _
theorem Blk.alloc {w : World} {b : Nat} {t : TypeId} {cs : List Value} (h : Blk w b t cs) (o : Obj) : Blk (w.alloc o) b t cs := (Below.heap_alloc w o b h.lt).trans h
theorem Blk.set {w : World} {b : Nat} {t : TypeId} {cs : List Value} (h : Blk w b t cs) (i : Nat) (v : Value) : Blk (w.setCell ⟨b, i, none⟩ v) b t (cs.set i v) := by
  unfold Blk
  rw [heap_set_same h v]
  simp
theorem Blk.far {w : World} {b : Nat} {t : TypeId} {cs : List Value} (h : Blk w b t cs) {a : Addr} (hn : b ≠ a.block) (v : Value) : Blk (w.setCell a v) b t cs := (heap_set_other v hn).trans h
theorem Blk.keep {w w' : World} {b : Nat} {t : TypeId} {cs : List Value} (h : Blk w b t cs) (hk : w'.heap[b]? = w.heap[b]?) : Blk w' b t cs := hk.trans h
theorem Blk.upd {S S' : Own} {w w' : World} {b : Nat} {t : TypeId} {cs : List Value} (h : Blk w b t cs) (hu : Upd S S' w w') (hn : ¬ S b) : Blk w' b t cs := (hu.block b h.lt hn).trans h
theorem Blk.below {B : Nat} {w w' : World} {b : Nat} {t : TypeId} {cs : List Value} (h : Blk w b t cs) (hu : Below B w w') (hn : b < B) : Blk w' b t cs := (hu.block b hn).trans h
theorem Blk.ne {w : World} {b b' : Nat} {t t' : TypeId} {cs cs' : List Value} (h : Blk w b t cs) (h' : Blk w b' t' cs') (hne : t ≠ t') : b ≠ b' := by
  rintro rfl
  unfold Blk at h h'
  rw [h] at h'
  simp at h'
  exact hne h'.2

/-- The cells of a block, one by one, each with its mark. -/
def Cells (w : World) (b : Nat) : Nat → List Value → Prop
  | _, [] => True
  | k, v :: l => w.cell? ⟨b, k, none⟩ = some v ∧ w.frozen? ⟨b, k, none⟩ = false ∧ Cells w b (k + 1) l
theorem cells_of (w : World) (b : Nat) (t : TypeId) (all : List Value) (h : Blk w b t all) : ∀ (l : List Value) (k : Nat), (∀ j, l[j]? = all[k + j]?) → Cells w b k l
  | [], _, _ => trivial
  | v :: l, k, hj => ⟨by rw [h.cell]; have := hj 0; simpa using this.symm, h.frozen k, cells_of w b t all h l (k + 1) (fun j => by have := hj (j + 1); rw [show k + 1 + j = k + (j + 1) by omega]; simpa using this)⟩
theorem Blk.cells {w : World} {b : Nat} {t : TypeId} {cs : List Value} (h : Blk w b t cs) : Cells w b 0 cs := cells_of w b t cs h cs 0 (fun j => by simp)

/-! ### Slices that are read -/
/-- '.slice A n c' holds n elements, the cells xs. -/
structure Rd (w : World) (size : Nat) (A : Option Addr) (n c : Nat) (xs : List Value) : Prop where
  le : n ≤ c
  cap : c ≤ maxLen
  len : xs.length = n * size
  nil : A = none → c = 0
  at_ : ∀ ad, A = some ad → (0 < c → ad.spot = none) ∧ ∀ j u, xs[j]? = some u → w.cell? (ad.add j) = some u

theorem add_plain (b o j : Nat) : (⟨b, o, none⟩ : Addr).add j = ⟨b, o + j, none⟩ := by unfold Addr.add; split <;> simp_all
theorem add_block (a : Addr) (n : Nat) : (a.add n).block = a.block := by unfold Addr.add; split <;> rfl

/-- The block of a slice. -/
def blockOf (A : Option Addr) : Option Nat := A.map (·.block)

theorem Rd.none_ (w : World) (size : Nat) : Rd w size none 0 0 [] := ⟨Nat.le_refl _, by simp [maxLen], by simp, fun _ => rfl, fun _ h => by cases h⟩
theorem Rd.keep {w w' : World} {size : Nat} {A : Option Addr} {n c : Nat} {xs : List Value} (h : Rd w size A n c xs) (hk : ∀ b, blockOf A = some b → w'.heap[b]? = w.heap[b]?) : Rd w' size A n c xs :=
  ⟨h.le, h.cap, h.len, h.nil, fun ad ha => ⟨(h.at_ ad ha).1, fun j u hu => by
    rw [World.cell?_of_block (w := w) (by rw [add_block]; exact hk _ (by rw [ha]; rfl))]
    exact (h.at_ ad ha).2 j u hu⟩⟩
theorem Rd.upd {S S' : Own} {w w' : World} {size : Nat} {A : Option Addr} {n c : Nat} {xs : List Value} (h : Rd w size A n c xs) (hu : Upd S S' w w') (hn : ∀ b, blockOf A = some b → b < w.heap.size ∧ ¬ S b) : Rd w' size A n c xs :=
  h.keep fun b hb => hu.block b (hn b hb).1 (hn b hb).2
theorem Rd.below {B : Nat} {w w' : World} {size : Nat} {A : Option Addr} {n c : Nat} {xs : List Value} (h : Rd w size A n c xs) (hu : Below B w w') (hn : ∀ b, blockOf A = some b → b < B) : Rd w' size A n c xs :=
  h.keep fun b hb => hu.block b (hn b hb)
/-- An element is there. -/
theorem Rd.form {w : World} {size : Nat} {A : Option Addr} {n c : Nat} {xs : List Value} (h : Rd w size A n c xs) (hn : 0 < n) : ∃ b o, A = some ⟨b, o, none⟩ ∧ ∀ j u, xs[j]? = some u → w.cell? ⟨b, o + j, none⟩ = some u := by
  cases A with
  | none => have := h.nil rfl; have := h.le; omega
  | some ad =>
    obtain ⟨b, o, s⟩ := ad
    have hs := (h.at_ _ rfl).1 (by have := h.le; omega)
    simp only at hs
    subst hs
    exact ⟨b, o, rfl, fun j u hu => by rw [← add_plain]; exact (h.at_ _ rfl).2 j u hu⟩
theorem Rd.block_lt {w : World} {size : Nat} {A : Option Addr} {n c : Nat} {xs : List Value} (h : Rd w size A n c xs) (hn : 0 < n) (hs : 0 < size) : ∀ b, blockOf A = some b → b < w.heap.size := by
  intro b hb
  obtain ⟨b', o, rfl, hc⟩ := h.form hn
  simp [blockOf] at hb
  subst hb
  have hl : 0 < xs.length := by rw [h.len]; exact Nat.mul_pos hn hs
  have := hc 0 xs[0] (by simp [hl])
  exact World.block_lt_of_cell? w _ this
/-- The first k elements. -/
theorem Rd.take {w : World} {size : Nat} {A : Option Addr} {n c : Nat} {xs : List Value} (h : Rd w size A n c xs) {k : Nat} (hk : k ≤ n) : Rd w size A k c (xs.take (k * size)) :=
  ⟨by have := h.le; omega, h.cap, by rw [List.length_take, h.len]; exact Nat.min_eq_left (Nat.mul_le_mul_right _ hk), h.nil, fun ad ha => ⟨(h.at_ ad ha).1, fun j u hu => (h.at_ ad ha).2 j u (by
    rw [List.getElem?_take] at hu
    split at hu
    · exact hu
    · cases hu)⟩⟩
/-- What is behind the first k elements ('s[k:]' as the model spells it). -/
theorem Rd.drop {w : World} {size : Nat} {A : Option Addr} {n c : Nat} {xs : List Value} (h : Rd w size A n c xs) {k : Nat} (hk : k ≤ n) : Rd w size (if c = k then A else A.map (·.add (k * size))) (n - k) (c - k) (xs.drop (k * size)) := by
  have hle := h.le
  refine ⟨by omega, by have := h.cap; omega, by rw [List.length_drop, h.len, Nat.sub_mul], ?_, ?_⟩
  · intro ha
    split at ha
    · have := h.nil ha; omega
    · simp at ha; have := h.nil ha; omega
  · intro ad ha
    split at ha
    · rename_i hc
      have hn : n - k = 0 := by omega
      refine ⟨fun _ => by rename_i hp; omega, fun j u hu => ?_⟩
      have : (xs.drop (k * size)).length = 0 := by rw [List.length_drop, h.len, ← Nat.sub_mul, hn, Nat.zero_mul]
      rw [List.eq_nil_of_length_eq_zero this] at hu
      cases hu
    · cases A with
      | none => simp at ha
      | some a0 =>
        simp at ha
        subst ha
        obtain ⟨b, o, s⟩ := a0
        have hs := (h.at_ _ rfl).1 (by have := h.le; rename_i hc; by_cases h0 : c = 0
                                       · omega
                                       · omega)
        simp only at hs
        subst hs
        refine ⟨fun _ => by rw [add_plain], fun j u hu => ?_⟩
        rw [add_plain, add_plain, Nat.add_assoc, ← add_plain]
        exact (h.at_ _ rfl).2 _ u (by rw [← hu, List.getElem?_drop])

/-! ### Slices that are held -/
/-- '.slice A n c' holds the cells xs and its block alone; it may be appended to. -/
def Row (e : TypeId) (size : Nat) (A : Option Addr) (n c : Nat) (xs : List Value) (S : Own) (w : World) : Prop :=
  n ≤ c ∧ c ≤ maxLen ∧ xs.length = n * size ∧
  ((A = none ∧ c = 0 ∧ ∀ k, ¬ S k) ∨
   ∃ g o cur, A = some ⟨g, o, none⟩ ∧ w.heap[g]? = some (.cells cur e (0, 0)) ∧ o + c * size ≤ cur.size ∧ (∀ j u, xs[j]? = some u → cur[o + j]? = some u) ∧ ∀ k, S k ↔ k = g)

theorem Row.nil (e : TypeId) (size : Nat) (w : World) : Row e size none 0 0 [] none_ w := ⟨Nat.le_refl _, by simp [maxLen], by simp, .inl ⟨rfl, rfl, fun _ h => h⟩⟩
theorem Row.rd {e : TypeId} {size : Nat} {A : Option Addr} {n c : Nat} {xs : List Value} {S : Own} {w : World} (h : Row e size A n c xs S w) : Rd w size A n c xs := by
  obtain ⟨h1, h2, h3, h4⟩ := h
  refine ⟨h1, h2, h3, ?_, ?_⟩
  · rintro rfl
    rcases h4 with ⟨_, h, _⟩ | ⟨g, o, cur, h, _⟩
    · exact h
    · cases h
  · rintro ad rfl
    rcases h4 with ⟨h, _, _⟩ | ⟨g, o, cur, h, hg, _, hc, _⟩
    · cases h
    · cases h
      exact ⟨fun _ => rfl, fun j u hu => by rw [add_plain, cell_of_row w g _ cur e (0, 0) hg]; exact hc j u hu⟩
theorem Row.loc {e : TypeId} {size : Nat} {A : Option Addr} {n c : Nat} {xs : List Value} {S : Own} {w w' : World} (h : Row e size A n c xs S w) (hk : ∀ k, S k → w'.heap[k]? = w.heap[k]?) : Row e size A n c xs S w' := by
  obtain ⟨h1, h2, h3, h4⟩ := h
  refine ⟨h1, h2, h3, ?_⟩
  rcases h4 with h4 | ⟨g, o, cur, ha, hg, r1, r2, hS⟩
  · exact .inl h4
  · exact .inr ⟨g, o, cur, ha, (hk g ((hS g).2 rfl)).trans hg, r1, r2, hS⟩
theorem Row.lt {e : TypeId} {size : Nat} {A : Option Addr} {n c : Nat} {xs : List Value} {S : Own} {w : World} (h : Row e size A n c xs S w) : ∀ k, S k → k < w.heap.size := by
  intro k hk
  rcases h.2.2.2 with ⟨_, _, h4⟩ | ⟨g, o, cur, ha, hg, _, _, hS⟩
  · exact absurd hk (h4 k)
  · rw [(hS k).1 hk]; exact heap_lt hg
theorem Row.block {e : TypeId} {size : Nat} {A : Option Addr} {n c : Nat} {xs : List Value} {S : Own} {w : World} (h : Row e size A n c xs S w) : ∀ b, blockOf A = some b → S b := by
  intro b hb
  rcases h.2.2.2 with ⟨rfl, _, _⟩ | ⟨g, o, cur, rfl, hg, _, _, hS⟩
  · cases hb
  · simp [blockOf] at hb
    exact (hS b).2 hb.symm
/-- A block that was just made is a row. -/
theorem Row.made {e : TypeId} {size : Nat} {w : World} {g n c : Nat} {cs : List Value} {xs : List Value} (hg : Blk w g e cs) (hn : n ≤ c) (hc : c ≤ maxLen) (hs : c * size ≤ cs.length) (hx : xs = cs.take (n * size)) :
    Row e size (some ⟨g, 0, none⟩) n c xs (· = g) w := by
  have hle : n * size ≤ c * size := Nat.mul_le_mul_right _ hn
  refine ⟨hn, hc, by rw [hx, List.length_take]; omega, .inr ⟨g, 0, cs.toArray, rfl, hg, by simpa using hs, fun j u hu => ?_, fun k => Iff.rfl⟩⟩
  rw [hx, List.getElem?_take] at hu
  split at hu
  · simpa using hu
  · cases hu
theorem Row.take {e : TypeId} {size : Nat} {A : Option Addr} {n c : Nat} {xs : List Value} {S : Own} {w : World} (h : Row e size A n c xs S w) {k : Nat} (hk : k ≤ n) : Row e size A k c (xs.take (k * size)) S w := by
  obtain ⟨h1, h2, h3, h4⟩ := h
  refine ⟨by omega, h2, by rw [List.length_take, h3]; exact Nat.min_eq_left (Nat.mul_le_mul_right _ hk), ?_⟩
  rcases h4 with h4 | ⟨g, o, cur, ha, hg, r1, r2, hS⟩
  · exact .inl h4
  · exact .inr ⟨g, o, cur, ha, hg, r1, fun j u hu => r2 j u (by rw [List.getElem?_take] at hu; split at hu; exact hu; cases hu), hS⟩
theorem Row.drop {e : TypeId} {size : Nat} {A : Option Addr} {n c : Nat} {xs : List Value} {S : Own} {w : World} (h : Row e size A n c xs S w) {k : Nat} (hk : k ≤ n) : Row e size (if c = k then A else A.map (·.add (k * size))) (n - k) (c - k) (xs.drop (k * size)) S w := by
  obtain ⟨h1, h2, h3, h4⟩ := h
  refine ⟨by omega, by omega, by rw [List.length_drop, h3, Nat.sub_mul], ?_⟩
  rcases h4 with ⟨rfl, h4, h5⟩ | ⟨g, o, cur, rfl, hg, r1, r2, hS⟩
  · refine .inl ⟨by simp, by omega, h5⟩
  · by_cases hc : c = k
    · rw [if_pos hc]
      refine .inr ⟨g, o, cur, rfl, hg, by rw [show c - k = 0 by omega]; omega, fun j u hu => ?_, hS⟩
      have : (xs.drop (k * size)).length = 0 := by rw [List.length_drop, h3, ← Nat.sub_mul, show n - k = 0 by omega, Nat.zero_mul]
      rw [List.eq_nil_of_length_eq_zero this] at hu
      cases hu
    · rw [if_neg hc]
      refine .inr ⟨g, o + k * size, cur, by simp [add_plain], hg, by rw [Nat.sub_mul]; have := Nat.mul_le_mul_right size (show k ≤ c by omega); omega, fun j u hu => ?_, hS⟩
      rw [Nat.add_assoc]
      exact r2 _ u (by rw [← hu, List.getElem?_drop])

/-! ### append -/
section
variable {P : Program}
/-- What is appended: a slice or a string whose cells are known. -/
structure Src (P : Program) (w : World) (size : Nat) (x : Value) (m : Nat) (news : List Value) : Prop where
  lenOf : Builtin.lenOf x = pure m
  len : news.length = m * size
  one : ∀ u ∈ news, u.oneCell' = true
  cells : ∀ W : World, W.heap = w.heap → (Builtin.firstCells size m x).run P W = .ok news.toArray W
theorem Src.of_rd {w : World} {size : Nat} {A : Option Addr} {n c : Nat} {xs : List Value} (h : Rd w size A n c xs) (h1 : ∀ u ∈ xs, u.oneCell' = true) : Src P w size (.slice A n c) n xs := by
  refine ⟨rfl, h.len, h1, fun W hW => ?_⟩
  cases A with
  | none =>
    have h0 := h.nil rfl
    have : n = 0 := by have := h.le; omega
    subst this
    have hx : xs = [] := List.eq_nil_of_length_eq_zero (by simpa using h.len)
    subst hx
    simp [Builtin.firstCells]
  | some ad =>
    exact run_firstCells_some (P := P) W size n ad n c xs h.len (fun j v hv => by rw [World.cell?_of_block (w := w) (by rw [hW])]; exact (h.at_ ad rfl).2 j v hv)
theorem Src.heap {w W : World} {size : Nat} {x : Value} {m : Nat} {news : List Value} (h : Src P w size x m news) (e : W.heap = w.heap) : Src P W size x m news := ⟨h.lenOf, h.len, h.one, fun V hV => h.cells V (hV.trans e)⟩
/-- One element in a new block of its own. -/
theorem Src.one_new (w : World) (e : TypeId) (v : Value) (h : v.oneCell' = true) : Src P (w.alloc (.cells #[v] e)) 1 (.slice (some ⟨w.heap.size, 0, none⟩) 1 1) 1 [v] :=
  Src.of_rd (Row.made (e := e) (cs := [v]) (Blk.new w e [v]) (Nat.le_refl _) (by simp [maxLen]) (by simp) rfl).rd (by simpa using h)
theorem Src.of_string (w : World) (s : ByteArray) : Src P w 1 (.string s) s.size (bys s.data.toList) := by
  refine ⟨rfl, by simp [bys_length], bys_one _, fun W _ => ?_⟩
  have : s.extract 0 s.size = s := by
    apply ByteArray.ext
    simp
  simp only [Builtin.firstCells]
  rw [this]
  simp only [Sem.run_pure]
  congr 1
  apply Array.ext'
  simp [bys]
  intro a _
  rfl

theorem run_append_row {w : World} (t u ty e : TypeId) (i : TypeInfo) (z : Value) (size bytes : Nat) (ht : P.underlying t = some (.slice e)) (d : TypeDesc) (hu : P.underlying u = some d) (hnd : (∃ e2, d = .slice e2) ∨ d = .string) (hi : P.info? e = some i) (hz : i.zero = some z)
    (hsize : i.size = size) (hby : i.bytes = bytes) (hzs : z.cells.size = size)
    {A : Option Addr} {n c : Nat} {xs : List Value} {S : Own} (h : Row e size A n c xs S w) {x : Value} {m : Nat} {news : List Value} (hs : Src P w size x m news)
    (h63 : n + m ≤ maxLen) (hbytes : (n + m) * bytes ≤ 140737488355328) :
    ∃ A' c' w' S', (Builtin.append_ #[t, u] ty #[.slice A n c, x]).run P w = .ok (.slice A' (n + m) c') w' ∧ Row e size A' (n + m) c' (xs ++ news) S' w' ∧ Upd S S' w w' ∧ (A' = A ∨ A' = some ⟨w.heap.size, 0, none⟩) := by
  subst hsize
  subst hby
  have hint : ∀ W : World, (underlying u).run P W = .ok d W := fun W => run_underlying hu (w := W)
  have hlen : (xs ++ news).length = (n + m) * i.size := by rw [List.length_append, h.2.2.1, hs.len, Nat.add_mul]
  obtain ⟨h1, h2, h3, h4⟩ := h
  have hx : Src P w i.size x m news := hs
  obtain ⟨hl1, hl2, hl3, hl4⟩ := hs
  by_cases hroom : n + m ≤ c
  · rcases h4 with ⟨rfl, rfl, h5⟩ | ⟨g, o, cur, rfl, hg, hfit, hc, hS⟩
    · have hm0 : m = 0 := by omega
      have hn0 : n = 0 := by omega
      subst hm0 hn0
      have hx0 : xs = [] := List.eq_nil_of_length_eq_zero (by simpa using h3)
      have hn0 : news = [] := List.eq_nil_of_length_eq_zero (by simpa using hl2)
      subst hx0 hn0
      refine ⟨none, 0, w, S, ?_, ⟨by omega, h2, by simp, .inl ⟨rfl, rfl, h5⟩⟩, Upd.refl _ _, .inl rfl⟩
      rcases hnd with ⟨e2, rfl⟩ | rfl <;> simp [Builtin.append_, run_underlying ht, hint, sizeOf, typeInfo, hi, hl1, hl4 w rfl]
    · have hst := run_storeCells_at P g (o + n * i.size) e news 0 cur w hg (by
        rw [hl2]
        have := Nat.mul_le_mul_right i.size hroom
        rw [Nat.add_mul] at this
        omega) hl3
      simp only [Nat.add_zero] at hst
      refine ⟨some ⟨g, o, none⟩, c, w.setRow g (cur.toList.take (o + n * i.size) ++ news ++ cur.toList.drop (o + n * i.size + news.length)).toArray, S, ?_, ?_, ?_, .inl rfl⟩
      · rcases hnd with ⟨e2, rfl⟩ | rfl <;> simp [Builtin.append_, run_underlying ht, hint, sizeOf, typeInfo, hi, hl1, hroom, hl4 w rfl, Addr.add_lit, hst]
      · refine ⟨hroom, h2, hlen, .inr ⟨g, o, _, rfl, setRow_heap w g cur _ e _ hg, ?_, ?_, hS⟩⟩
        · simp only [List.size_toArray, List.length_append, List.length_take, List.length_drop, Array.length_toList]
          have h5 := Nat.mul_le_mul_right i.size hroom
          rw [Nat.add_mul] at h5
          omega
        · intro j v hv
          have hcs : o + n * i.size + m * i.size ≤ cur.size := by
            have h5 := Nat.mul_le_mul_right i.size hroom
            rw [Nat.add_mul] at h5
            omega
          simp only [List.getElem?_toArray]
          have hcl : cur.toList.length = cur.size := Array.length_toList
          by_cases hj : j < n * i.size
          · rw [List.getElem?_append_left (by rw [h3]; exact hj)] at hv
            rw [List.append_assoc, List.getElem?_append_left (by rw [List.length_take, Array.length_toList]; omega), List.getElem?_take, if_pos (by omega)]
            simpa using hc j v hv
          · rw [List.getElem?_append_right (by rw [h3]; omega)] at hv
            rw [List.append_assoc, List.getElem?_append_right (by rw [List.length_take, Array.length_toList]; omega)]
            rw [List.length_take, Nat.min_eq_left (by omega)]
            have hlt : j - xs.length < news.length := (List.getElem?_eq_some_iff.1 hv).1
            rw [List.getElem?_append_left (by rw [h3] at hlt; omega)]
            rw [← hv]
            congr 1
            rw [h3]
            omega
      · exact ⟨rfl, rfl, rfl, by simp, fun k _ hk => setRow_other w g k _ (fun e => hk ((hS k).2 e)), fun k hk => .inl hk⟩
  · have h63' : ¬ (9223372036854775807 < ((n : Int) + (m : Int))) := by simp only [maxLen] at h63; omega
    have h48' : ¬ (281474976710656 < Builtin.nextslicecap (n + m) c * i.bytes) := by
      have := growslice_fits (need := n + m) (old := c) (by omega) hbytes
      omega
    have hrow : Row e i.size A n c xs S w := ⟨h1, h2, h3, h4⟩
    have hone : ∀ W : World, W.heap = w.heap → (Builtin.firstCells i.size n (.slice A n c)).run P W = .ok xs.toArray W := by
      intro W hW
      cases A with
      | none =>
        have h0 := hrow.rd.nil rfl
        have hn0 : n = 0 := by omega
        subst hn0
        have hx0 : xs = [] := List.eq_nil_of_length_eq_zero (by simpa using h3)
        subst hx0
        simp [Builtin.firstCells]
      | some ad =>
        exact run_firstCells_some (P := P) W i.size n ad n c xs h3 (fun j v hv => by rw [World.cell?_of_block (w := w) (by rw [hW])]; exact (hrow.rd.at_ ad rfl).2 j v hv)
    have hgc := grownCap_ge w (n + m) c e
    have hgm := grownCap_le_maxLen w (n + m) c e h63
    have hsz : (xs.toArray ++ news.toArray ++ Builtin.zeroCells z.cells (grownCap w (n + m) c e - (n + m))).size = grownCap w (n + m) c e * i.size := by
      simp only [Array.size_append, List.size_toArray, size_zeroCells, hzs, h3, hl2, ← Nat.add_mul]
      congr 1
      omega
    refine ⟨some ⟨w.heap.size, 0, none⟩, grownCap w (n + m) c e, w.drew.alloc (.cells (xs.toArray ++ news.toArray ++ Builtin.zeroCells z.cells (grownCap w (n + m) c e - (n + m))) e), (· = w.heap.size), ?_, ?_, ?_, .inr rfl⟩
    · rcases hnd with ⟨e2, rfl⟩ | rfl <;> simp [Builtin.append_, run_underlying ht, hint, sizeOf, typeInfo, zeroValue, hi, hz, hl1, hroom, h63', h48', Question.forced, hone w.drew rfl, hl4 w.drew rfl, newRow, grownCap] <;> simp only [← List.append_toArray, Array.append_assoc]
    · refine ⟨hgc, hgm, hlen, .inr ⟨w.heap.size, 0, _, rfl, heap_alloc_new w.drew _, by rw [hsz]; omega, fun j v hv => ?_, fun k => Iff.rfl⟩⟩
      have hlt := (List.getElem?_eq_some_iff.1 hv).1
      rw [Nat.zero_add, Array.getElem?_append_left (by simpa using hlt)]
      rw [← hv]
      simp
    · exact ⟨rfl, rfl, rfl, by simp, fun k hk _ => Below.heap_alloc w.drew _ k hk, fun k hk => .inr (by rw [hk]; exact Nat.le_refl _)⟩
end
end Go.Proofs.YthmfifcogokpoaaDoor
