/- What is proved here: contracts of the program's functions and plain lemmas that the claim's last text uses, in parts: what pint.Get computes; what huff.opened lays and what huff.Decode computes. -/
import Derived.Test.YthmfifcogokpoaaDoorM02
import Derived.Outline
import Derived.Deep.OwnRows
import Derived.LoopTactic
set_option linter.unusedVariables false
set_option linter.unusedSimpArgs false
namespace Go.Proofs.YthmfifcogokpoaaDoor
open Go.RowKit

def onesS (bits : Int) : Int := if bits < 1 ∨ 8 < bits then 0 else 2 ^ bits.toNat - 1
theorem ones_any (bits : Int) (w : World) (h : 1 ≤ bits ∧ bits ≤ 8) :
    Calls Tryd.prog 78 #[.int .i64 bits] w fun e w' => e = .returned (.int .i64 (onesS bits)) ∧ w = w' := by
  obtain ⟨h1, h2⟩ := h
  unfold onesS
  rw [if_neg (by omega)]
  have : bits = 1 ∨ bits = 2 ∨ bits = 3 ∨ bits = 4 ∨ bits = 5 ∨ bits = 6 ∨ bits = 7 ∨ bits = 8 := by omega
  rcases this with rfl | rfl | rfl | rfl | rfl | rfl | rfl | rfl
  all_goals
    go_enter Tryd.func78, Tryd.ntmps78
    go_wp2
    go_ret
    exact ⟨rfl, rfl⟩

def getLoop : Nat → List UInt8 → Nat → Nat → Int × Int × Int
  | 0, _, _, _ => (0, 0, 1)
  | fuel + 1, l, n, k =>
    if k = l.length then (0, 0, 4)
    else
      let b := (l.getD k 0).toNat
      let n' := n + b % 128 * 2 ^ (7 * (k - 1))
      if 2147483647 < n' ∨ k + 1 = 6 ∧ 128 ≤ b then (0, 0, 1)
      else if 128 ≤ b then getLoop fuel l n' (k + 1)
      else (n', (k + 1 : Nat), 0)

noncomputable def getBody : Code := ((Tryd.f74.body.bind firstScope).getD .skip)

theorem and127 (x : Nat) (h : x < 256) : bits .and .u8 (x : Int) 127 = ((x % 128 : Nat) : Int) := by
  have : ∀ x : Fin 256, bits .and .u8 ((x.val : Nat) : Int) 127 = ((x.val % 128 : Nat) : Int) := by decide +kernel
  exact this ⟨x, h⟩
theorem pow_bound (k : Nat) (h1 : 1 ≤ k) (h2 : k ≤ 5) : 2 ^ (7 * (k - 1)) ≤ 268435456 := by
  have : k = 1 ∨ k = 2 ∨ k = 3 ∨ k = 4 ∨ k = 5 := by omega
  rcases this with rfl | rfl | rfl | rfl | rfl <;> decide

def GetQ (l : List UInt8) (fuel n k : Nat) (w : World) : Exit → Act → World → Prop :=
  bodyPost Tryd.prog Tryd.f74 fun e w' => e = .returned (.tuple #[.int .i64 (getLoop fuel l n k).1, .int .i64 (getLoop fuel l n k).2.1, .int .i64 (getLoop fuel l n k).2.2]) ∧ w = w'

set_option maxRecDepth 100000 in
set_option maxHeartbeats 1000000 in
theorem get_loop (l : List UInt8) (A : Option Addr) (c : Nat) (w : World) (hr : Rd w 1 A l.length c (bys l)) (full : Int) (fuel : Nat) : ∀ (k n : Nat) (u1 u2 u3 u4 u5 u6 u10 u11 u12 u13 u14 u15 u16 u17 u18 u19 u20 u21 u22 u23 u24 u25 u26 u27 u28 u29 u30 u31 u32 u33 u34 u35 u36 u37 u38 u39 u40 u41 u42 u43 u44 u45 u46 u47 u48 u49 u50 u51 u52 u53 u54 u55 u56 u57 u58 u59 u60 u61 u62 u63 u64 u65 u66 u67 : Value), 1 ≤ k → k ≤ l.length → k + fuel = 6 → n ≤ 2147483647 → 1 ≤ fuel →
    Lab Tryd.prog getBody (GetQ l fuel n k w)
      fuel 0 ⟨#[.slice A l.length c, u1, u2, u3, u4, u5, u6, .int .i64 full, .int .i64 n, .int .i64 k, u10, u11, u12, u13, u14, u15, u16, u17, u18, u19, u20, u21, u22, u23, u24, u25, u26, u27, u28, u29, u30, u31, u32, u33, u34, u35, u36, u37, u38, u39, u40, u41, u42, u43, u44, u45, u46, u47, u48, u49, u50, u51, u52, u53, u54, u55, u56, u57, u58, u59, u60, u61, u62, u63, u64, u65, u66, u67], []⟩ w := by
  induction fuel with
  | zero => intro k n u1 u2 u3 u4 u5 u6 u10 u11 u12 u13 u14 u15 u16 u17 u18 u19 u20 u21 u22 u23 u24 u25 u26 u27 u28 u29 u30 u31 u32 u33 u34 u35 u36 u37 u38 u39 u40 u41 u42 u43 u44 u45 u46 u47 u48 u49 u50 u51 u52 u53 u54 u55 u56 u57 u58 u59 u60 u61 u62 u63 u64 u65 u66 u67 h1 h2 h3 h4 h5; omega
  | succ fuel ih =>
    intro k n u1 u2 u3 u4 u5 u6 u10 u11 u12 u13 u14 u15 u16 u17 u18 u19 u20 u21 u22 u23 u24 u25 u26 u27 u28 u29 u30 u31 u32 u33 u34 u35 u36 u37 u38 u39 u40 u41 u42 u43 u44 u45 u46 u47 u48 u49 u50 u51 u52 u53 u54 u55 u56 u57 u58 u59 u60 u61 u62 u63 u64 u65 u66 u67 h1 h2 h3 h4 h5
    have IH := Lib.hid ih
    clear ih
    by_cases hk : k = l.length
    · have hkb : ((k : Int) == (l.length : Int)) = true := by simp; omega
      have HG : Hid (getLoop (fuel + 1) l n k = (0, 0, 4)) := by unfold Hid; simp only [getLoop]; rw [if_pos hk]
      clear hr hk
      refine ⟨by kernel_rfl, ?_⟩
      show Code.wp _ _ _ _ _
      go_wp2
      unfold GetQ
      go_ret3
      exact ⟨by rw [HG.out]; rfl, rfl⟩
    · obtain ⟨b, o, hA, hcell⟩ := hr.form (by omega)
      have HR := Lib.hid hr
      subst hA
      have hkl : k < l.length := by omega
      have hc := hcell k _ (bys_get l k hkl)
      have hkb : ((k : Int) == (l.length : Int)) = false := by simp; omega
      clear hcell hr
      have HG : Hid (getLoop (fuel + 1) l n k = if 2147483647 < n + l[k].toNat % 128 * 2 ^ (7 * (k - 1)) ∨ k + 1 = 6 ∧ 128 ≤ l[k].toNat then (0, 0, 1) else if 128 ≤ l[k].toNat then getLoop fuel l (n + l[k].toNat % 128 * 2 ^ (7 * (k - 1))) (k + 1) else ((n + l[k].toNat % 128 * 2 ^ (7 * (k - 1)) : Nat), (k + 1 : Nat), 0)) := by
        unfold Hid
        simp only [getLoop]
        rw [if_neg hk, show l.getD k 0 = l[k] by simp [hkl]]
      have hx2 : l[k].toNat < 256 := l[k].toNat_lt
      unfold by8 at hc
      generalize l[k].toNat = x at *
      have hb := pow_bound k h1 (by omega)
      have hpow : ((x % 128 : Nat) : Int) * 2 ^ (7 * (k - 1)) = ((x % 128 * 2 ^ (7 * (k - 1)) : Nat) : Int) := by simp
      have hy : x % 128 * 2 ^ (7 * (k - 1)) ≤ 127 * 268435456 := Nat.mul_le_mul (by omega) hb
      have ha := and127 x hx2
      have i1 : (0 : Int) ≤ (k : Int) := by omega
      have i2 : (k : Int) < (l.length : Int) := by omega
      clear hb
      generalize x % 128 * 2 ^ (7 * (k - 1)) = y at *
      have hm : x % 128 < 128 := by omega
      generalize x % 128 = m at *
      refine ⟨by kernel_rfl, ?_⟩
      show Code.wp _ _ _ _ _
      by_cases hbig : 2147483647 < n + y
      · go_wp2
        unfold GetQ
        go_ret3
        exact ⟨by rw [HG.out, if_pos (.inl hbig)]; rfl, rfl⟩
      · by_cases h6 : k = 5
        · have h6b : ((k : Int) + 1 == 6) = true := by simp; omega
          have H6 := Lib.hid h6
          clear h6
          by_cases h128 : 128 ≤ x
          · go_wp2
            unfold GetQ
            go_ret3
            exact ⟨by rw [HG.out, if_pos (.inr ⟨by rw [H6.out], h128⟩)]; rfl, rfl⟩
          · go_wp2
            unfold GetQ
            go_ret3
            exact ⟨by rw [HG.out, if_neg (by omega), if_neg h128]; simp, rfl⟩
        · have h6b : ((k : Int) + 1 == 6) = false := by simp; omega
          by_cases h128 : 128 ≤ x
          · go_wp2
            go_step3
            simp only [Exit.then, Jumps_goto]
            have := IH.out (k + 1) (n + y)
            unfold GetQ at this ⊢
            rw [HG.out, if_neg (by omega), if_pos h128]
            exact this _ _ _ _ _ _ _ _ _ _ _ _ _ _ _ _ _ _ _ _ _ _ _ _ _ _ _ _ _ _ _ _ _ _ _ _ _ _ _ _ _ _ _ _ _ _ _ _ _ _ _ _ _ _ _ _ _ _ _ _ _ _ _ _ (by omega) (by omega) (by omega) (by omega) (by omega)
          · go_wp2
            unfold GetQ
            go_ret3
            exact ⟨by rw [HG.out, if_neg (by omega), if_neg h128]; simp, rfl⟩

theorem getD_zero (l : List UInt8) (h : 0 < l.length) : l.getD 0 0 = l[0] := by
  rw [List.getD_eq_getElem?_getD, List.getElem?_eq_getElem h]; rfl
def getS (l : List UInt8) (bits : Nat) : Int × Int × Int :=
  if l.length = 0 then (0, 0, 4)
  else
    let n := (l.getD 0 0).toNat % 2 ^ bits
    if n < 2 ^ bits - 1 then ((n : Int), 1, 0) else getLoop 5 l n 1

theorem andFull (x b : Nat) (h : x < 256) (h1 : 1 ≤ b) (h2 : b ≤ 8) : Go.bits .and .i64 (x : Int) ((2 ^ b - 1 : Nat) : Int) = ((x % 2 ^ b : Nat) : Int) := by
  have : ∀ x : Fin 256, ∀ b : Fin 9, 1 ≤ b.val → Go.bits .and .i64 ((x.val : Nat) : Int) ((2 ^ b.val - 1 : Nat) : Int) = ((x.val % 2 ^ b.val : Nat) : Int) := by decide +kernel
  exact this ⟨x, h⟩ ⟨b, by omega⟩ h1

set_option maxRecDepth 100000 in
theorem get_any (l : List UInt8) (A : Option Addr) (c : Nat) (w : World) (bits : Nat) (hb : 1 ≤ bits ∧ bits ≤ 8) (hr : Rd w 1 A l.length c (bys l)) :
    Calls Tryd.prog 74 #[.slice A l.length c, .int .i64 bits] w fun e w' => e = .returned (.tuple #[.int .i64 (getS l bits).1, .int .i64 (getS l bits).2.1, .int .i64 (getS l bits).2.2]) ∧ w = w' := by
  have hp : 2 ^ 1 ≤ 2 ^ bits := Nat.pow_le_pow_right (by omega) hb.1
  have hp8 : 2 ^ bits ≤ 2 ^ 8 := Nat.pow_le_pow_right (by omega) hb.2
  have hones : onesS bits = ((2 ^ bits - 1 : Nat) : Int) := by
    unfold onesS
    rw [if_neg (by omega)]
    rw [Int.toNat_natCast, Int.ofNat_sub (by omega)]
    simp
  have hz : (((2 ^ bits - 1 : Nat) : Int) == 0) = false := beq_eq_false_iff_ne.2 (by omega)
  have hc1 : (1 : Int) ≤ (bits : Int) ∧ (bits : Int) ≤ 8 := by omega
  have HO : ∀ w, Calls Tryd.prog 78 #[.int .i64 bits] w fun e w' => e = .returned (.int .i64 ((2 ^ bits - 1 : Nat) : Int)) ∧ w = w' := fun w => by rw [← hones]; exact ones_any bits w hc1
  have HO2 := Lib.hid HO
  clear hones HO
  by_cases hl : l.length = 0
  · have hg : getS l bits = (0, 0, 4) := by unfold getS; rw [if_pos hl]
    rw [hg]
    have hl2 : ((l.length : Int) == 0) = true := beq_iff_eq.2 (by omega)
    clear hr hl hg
    generalize 2 ^ bits - 1 = full at *
    go_enter Tryd.func74, Tryd.ntmps74
    go_wp2
    refine wp_scope_labels 6 ?_
    go_wp2_with (go_at_call 78; refine (HO2.out _).mono ?_; rintro e w' ⟨rfl, rfl⟩)
    simp only [Jumps_ret]
    go_ret3
    exact ⟨rfl, rfl⟩
  · obtain ⟨b, o, hA, hcell⟩ := hr.form (by omega)
    have hc := hcell 0 _ (bys_get l 0 (by omega))
    rw [Nat.add_zero] at hc
    have hl2 : ((l.length : Int) == 0) = false := beq_eq_false_iff_ne.2 (by omega)
    have hlp : (0 : Int) < (l.length : Int) := by omega
    have hx2 : l[0].toNat < 256 := l[0].toNat_lt
    have ha := andFull l[0].toNat bits hx2 hb.1 hb.2
    have hg : Hid (getS l bits = if l[0].toNat % 2 ^ bits < 2 ^ bits - 1 then (((l[0].toNat % 2 ^ bits : Nat) : Int), (1 : Int), (0 : Int)) else getLoop 5 l (l[0].toNat % 2 ^ bits) 1) := by
      unfold Hid getS
      rw [if_neg hl, getD_zero l (by omega)]
    have HR := Lib.hid hr
    clear hr hcell
    subst hA
    unfold by8 at hc
    generalize l[0].toNat = x at *
    have hm : x % 2 ^ bits < 2 ^ bits := Nat.mod_lt _ (by omega)
    generalize x % 2 ^ bits = m at *
    generalize hfull : 2 ^ bits - 1 = full at *
    have HF := Lib.hid hfull
    clear hfull
    by_cases hlt : m < full
    · rw [hg.out, if_pos hlt]
      go_enter Tryd.func74, Tryd.ntmps74
      go_wp2
      refine wp_scope_labels 6 ?_
      go_wp2_with (go_at_call 78; refine (HO2.out _).mono ?_; rintro e w' ⟨rfl, rfl⟩)
      try simp only [Jumps_ret]
      go_ret3
      exact ⟨rfl, rfl⟩
    · rw [hg.out, if_neg hlt]
      have hl0 : 1 ≤ l.length := by omega
      clear hg
      go_enter Tryd.func74, Tryd.ntmps74
      go_wp2
      show Code.wp _ (Code.scope getBody) _ _ _
      refine wp_scope_from 4 0 (by kernel_rfl) ?_
      show Code.wp _ _ _ _ _
      go_wp2_with (go_at_call 78; refine (HO2.out _).mono ?_; rintro e w' ⟨rfl, rfl⟩)
      repeat (show Code.wp _ _ _ _ _; go_wp2)
      show Lab _ _ _ _ _ _ _
      have hr : Rd w 1 (some ⟨b, o, none⟩) l.length c (bys l) := HR.out
      exact get_loop l (some ⟨b, o, none⟩) c w hr full 5 1 m _ _ _ _ _ _ _ _ _ _ _ _ _ _ _ _ _ _ _ _ _ _ _ _ _ _ _ _ _ _ _ _ _ _ _ _ _ _ _ _ _ _ _ _ _ _ _ _ _ _ _ _ _ _ _ _ _ _ _ _ _ _ _ _ (by omega) (by omega) (by omega) (by omega) (by omega)
end Go.Proofs.YthmfifcogokpoaaDoor
namespace Go.Proofs.YthmfifcogokpoaaDoor
open Go.RowKit

/-- How many bits the code of each sign has (257 signs, the last one for the end). -/
def lensL : List Nat := [13, 23, 28, 28, 28, 28, 28, 28, 28, 24, 30, 28, 28, 30, 28, 28, 28, 28, 28, 28, 28, 28, 30, 28, 28, 28, 28, 28, 28, 28, 28, 28, 6, 10, 10, 12, 13, 6, 8, 11, 10, 10, 8, 11, 8, 6, 6, 6, 5, 5, 5, 6, 6, 6, 6, 6, 6, 6, 7, 8, 15, 6, 12, 10, 13, 6, 7, 7, 7, 7, 7, 7, 7, 7, 7, 7, 7, 7, 7, 7, 7, 7, 7, 7, 7, 7, 7, 7, 8, 7, 8, 13, 19, 13, 14, 6, 15, 5, 6, 5, 6, 5, 6, 6, 6, 5, 7, 7, 6, 6, 6, 5, 6, 7, 6, 5, 5, 6, 7, 7, 7, 7, 7, 15, 11, 14, 13, 28, 20, 22, 20, 20, 22, 22, 22, 23, 22, 23, 23, 23, 23, 23, 24, 23, 24, 24, 22, 23, 24, 23, 23, 23, 23, 21, 22, 23, 22, 23, 23, 24, 22, 21, 20, 22, 22, 23, 23, 21, 23, 22, 22, 24, 21, 22, 23, 23, 21, 21, 22, 21, 23, 22, 23, 23, 20, 22, 22, 22, 23, 22, 22, 23, 26, 26, 20, 19, 22, 23, 22, 25, 26, 26, 26, 27, 27, 26, 24, 25, 19, 21, 26, 27, 27, 26, 27, 24, 21, 21, 26, 26, 28, 27, 27, 27, 20, 24, 20, 21, 22, 21, 21, 23, 22, 22, 25, 25, 24, 24, 26, 23, 26, 27, 26, 26, 27, 27, 27, 27, 27, 28, 27, 27, 27, 27, 27, 26, 30]
def bl (s : Nat) : Nat := lensL.getD s 0

set_option maxRecDepth 100000 in
theorem bitsOf_any (s : Nat) (w : World) (h : s < 257) :
    Calls Tryd.prog 84 #[.int .i64 s] w fun e w' => e = .returned (.int .i64 (bl s)) ∧ w = w' := by
  have h1 : (0 : Int) ≤ (s : Int) := by omega
  have h2 : (s : Int) < 257 := by omega
  go_enter Tryd.func84, Tryd.ntmps84
  go_wp2
  go_ret
  refine ⟨ret_int ?_, rfl⟩

  obtain ⟨x, rfl⟩ : ∃ x : Fin 257, x.val = s := ⟨⟨s, h⟩, rfl⟩
  revert x
  decide +kernel

/-- The signs in the order of their codes, as far as n bits. -/
def ordS : Nat → List Nat
  | 0 => []
  | n + 1 => ordS n ++ (List.range 257).filter (bl · == n)
def manyS (n : Nat) : Nat := (ordS (n + 1)).length - (ordS n).length
/-- The first code of n bits. -/
def codeS : Nat → Nat
  | 0 => 0
  | n + 1 => (codeS n + manyS n) * 2
/-- The book's cells. -/
def bookF (a b : Nat) (o : Value) (i : Nat) : Value :=
  if i < 31 then .int .i64 ((if i < a then codeS i else 0 : Nat) : Int)
  else if i < 62 then .int .i64 ((if i - 31 < b then manyS (i - 31) else 0 : Nat) : Int)
  else if i < 93 then .int .i64 ((if i - 62 < a then (ordS (i - 62)).length else 0 : Nat) : Int)
  else o
def ints (l : List Nat) : List Value := l.map fun (x : Nat) => .int .i64 (x : Int)

theorem zeroBook : Tryd.zeroCells144 = ((List.range 94).map (bookF 5 5 (.slice none 0 0))).toArray := by kernel_rfl
theorem tyInts : ElemTy Tryd.prog 142 3 1 8 := elemTy_of Tryd.underlying142 (z := .int .i64 0) (by kernel_rfl) rfl

theorem book_first (k : Nat) (h1 : k < 31) (h5 : 5 ≤ k) (o : Value) : ∀ i, i < 94 →
    (if i = 62 + k then Value.int .i64 (ordS k).length else if i = k then .int .i64 (codeS k) else bookF k k o i) = bookF (k + 1) k o i := by
  intro i hi
  unfold bookF
  by_cases ha : i = 62 + k
  · subst ha
    rw [if_pos rfl, if_neg (by omega), if_neg (by omega), if_pos (by omega), if_pos (by omega), show 62 + k - 62 = k by omega]
  · rw [if_neg ha]
    by_cases hb : i = k
    · subst hb
      rw [if_pos rfl, if_pos h1, if_pos (by omega)]
    · rw [if_neg hb]
      by_cases c1 : i < 31
      · rw [if_pos c1, if_pos c1]
        by_cases c2 : i < k
        · rw [if_pos c2, if_pos (by omega)]
        · rw [if_neg c2, if_neg (by omega)]
      · rw [if_neg c1, if_neg c1]
        by_cases c2 : i < 62
        · rw [if_pos c2, if_pos c2]
        · rw [if_neg c2, if_neg c2]
          by_cases c3 : i < 93
          · rw [if_pos c3, if_pos c3]
            by_cases c4 : i - 62 < k
            · rw [if_pos c4, if_pos (by omega)]
            · rw [if_neg c4, if_neg (by omega)]
          · rw [if_neg c3, if_neg c3]
theorem book_many (k : Nat) (h1 : k < 31) (o : Value) : ∀ i, i < 94 →
    (if i = 31 + k then Value.int .i64 (manyS k) else bookF (k + 1) k o i) = bookF (k + 1) (k + 1) o i := by
  intro i hi
  unfold bookF
  by_cases ha : i = 31 + k
  · subst ha
    rw [if_pos rfl, if_neg (by omega), if_pos (by omega), if_pos (by omega), show 31 + k - 31 = k by omega]
  · rw [if_neg ha]
    by_cases c1 : i < 31
    · rw [if_pos c1, if_pos c1]
    · rw [if_neg c1, if_neg c1]
      by_cases c2 : i < 62
      · rw [if_pos c2, if_pos c2]
        by_cases c4 : i - 31 < k
        · rw [if_pos c4, if_pos (by omega)]
        · rw [if_neg c4, if_neg (by omega)]
      · rw [if_neg c2, if_neg c2]
theorem book_ord (a b : Nat) (o o' : Value) : ∀ i, i < 94 → (if i = 93 then o' else bookF a b o i) = bookF a b o' i := by
  intro i hi
  unfold bookF
  by_cases ha : i = 93
  · subst ha; rfl
  · rw [if_neg ha]
    by_cases c1 : i < 31
    · rw [if_pos c1, if_pos c1]
    · rw [if_neg c1, if_neg c1]
      by_cases c2 : i < 62
      · rw [if_pos c2, if_pos c2]
      · have h93 : i < 93 := by omega
        rw [if_neg c2, if_neg c2, if_pos h93, if_pos h93]

theorem ordS_len (k : Nat) (h : k ≤ 31) : (ordS k).length ≤ 257 := by
  have : ∀ x : Fin 32, (ordS x.val).length ≤ 257 := by decide +kernel
  exact this ⟨k, by omega⟩
theorem grow_ord (k s : Nat) (h : k ≤ 31) (hs : s ≤ 257) : (ordS k ++ (List.range s).filter (bl · == k)).length ≤ 1000 := by
  have h1 := ordS_len k h
  have h2 := List.length_filter_le (bl · == k) (List.range s)
  rw [List.length_range] at h2
  rw [List.length_append]
  omega
theorem codeS_le (k : Nat) (h : k ≤ 31) : codeS k ≤ 2147483648 := by
  have : ∀ x : Fin 32, codeS x.val ≤ 2147483648 := by decide +kernel
  exact this ⟨k, by omega⟩
theorem manyS_le (k : Nat) (h : k ≤ 30) : (ordS k).length + manyS k = (ordS (k + 1)).length ∧ manyS k ≤ 257 := by
  have : ∀ x : Fin 31, (ordS x.val).length + manyS x.val = (ordS (x.val + 1)).length ∧ manyS x.val ≤ 257 := by decide +kernel
  exact this ⟨k, by omega⟩
theorem ints_snoc (l : List Nat) (s : Nat) : ints (l ++ [s]) = ints l ++ [.int .i64 (s : Int)] := by simp [ints]

/-- A pointer to a whole book. -/
def OpenedQ (w : World) (e : Ending) (w' : World) : Prop := ∃ b A c S, e = .returned (.pointer (some ⟨b, 0, none⟩)) ∧ w'.rowIs b 144 94 (bookF 31 31 (.slice A 257 c)) ∧ Row 3 1 A 257 c (ints (ordS 31)) S w' ∧ ¬ S b ∧ Upd none_ (fun k => k = b ∨ S k) w w'

set_option maxRecDepth 100000 in
theorem opened_any (w : World) : Calls Tryd.prog 81 #[] w (OpenedQ w) := by
  go_enter Tryd.func81, Tryd.ntmps81
  go_wp2
  go_loopw [2, 3] (fun c n wr => ∃ k : Nat, 5 ≤ k ∧ k ≤ 31 ∧ n = .int .i64 k ∧ c = .int .i64 (codeS k) ∧ ∃ A cp S, wr.rowIs w.heap.size 144 94 (bookF k k (.slice A (ordS k).length cp)) ∧ Row 3 1 A (ordS k).length cp (ints (ordS k)) S wr ∧ ¬ S w.heap.size ∧ Upd none_ (fun k => k = w.heap.size ∨ S k) w wr) (fun _ n _ => 31 - (intOf n).toNat)
  case atStart =>
    have ho : ordS 5 = [] := by decide +kernel
    have hc5 : codeS 5 = 0 := by decide +kernel
    refine ⟨5, by omega, by omega, rfl, by rw [hc5]; rfl, none, 0, none_, ?_, ?_, fun h => h, ?_⟩
    · rw [ho, zeroBook]
      have h := World.rowIs_alloc w ((List.range 94).map (bookF 5 5 (.slice none 0 0))).toArray 144 (bookF 5 5 (.slice none 0 0)) (fun i hi => by simp at hi; simp [hi])
      simpa using h
    · rw [ho]; exact Row.nil _ _ _
    · exact (Upd.refl none_ w).alloc _ |>.holds (fun k hk => by rcases hk with h | h; exact .inr (by rw [h]; exact Nat.le_refl _); exact h.elim)
  case round =>
    obtain ⟨k, hk5, hk31, rfl, rfl, A, cp, S, hbook, hrow, hS, hu⟩ := hrel
    generalize hB : w.heap.size = B at *
    have HB := Lib.hid hB
    clear hB
    by_cases hk : k = 31
    · have hl : (ordS 31).length = 257 := by decide +kernel
      have i3 : ¬ (k : Int) ≤ 30 := by omega
      rw [hk, hl] at hbook hrow
      have HK := Lib.hid hbook
      have HR := Lib.hid hrow
      have HU := Lib.hid hu
      clear hbook hrow hu hl hk
      go_wp2
      go_ret
      exact ⟨B, A, cp, S, rfl, HK.out, HR.out, hS, HU.out⟩
    · have i1 : (0 : Int) ≤ (k : Int) := by omega
      have i2 : (k : Int) < 31 := by omega
      have i3 : (k : Int) ≤ 30 := by omega
      have c93 : wr.cell? ⟨B, 93, none⟩ = some (.slice A (ordS k).length cp) := (hbook.cell (i := 93) (by omega)).trans rfl
      have c0 := hbook.cell (i := k) (by omega)
      have c1 := hbook.cell (i := 31 + k) (by omega)
      have c2 := hbook.cell (i := 62 + k) (by omega)
      have fz := hbook.frozen
      have hlt := hbook.lt
      have HK := Lib.hid hbook
      have HR := Lib.hid hrow
      have HU := Lib.hid hu
      clear hbook hrow hu
      go_wp2
      have n1 : (⟨B, k, none⟩ : Addr) ≠ ⟨B, 93, none⟩ := by intro h; injection h; omega
      have n2 : (⟨B, 62 + k, none⟩ : Addr) ≠ ⟨B, 93, none⟩ := by intro h; injection h; omega
      go_region_held3 (fun w' => w'.cell? ⟨B, 93, none⟩ = some (.slice A (ordS k).length cp)) (first | (go_keep; done) | (simp [World.cell?_setCell_other _ _ _ _ n1, World.cell?_setCell_other _ _ _ _ n2, c93])) (fail)
      clear c93 c0 c1 c2 n1 n2
      have hbook2 : ((wr.setCell ⟨B, k, none⟩ (.int .i64 (codeS k))).setCell ⟨B, 62 + k, none⟩ (.int .i64 (ordS k).length)).drew.rowIs B 144 94 (bookF (k + 1) k (.slice A (ordS k).length cp)) :=
        ((HK.out.set k _).set (62 + k) _).drew.congr (book_first k (by omega) hk5 _)
      have hrow2 : Row 3 1 A (ordS k).length cp (ints (ordS k)) S ((wr.setCell ⟨B, k, none⟩ (.int .i64 (codeS k))).setCell ⟨B, 62 + k, none⟩ (.int .i64 (ordS k).length)).drew :=
        HR.out.loc fun j hj => (heap_set_other _ (by rintro rfl; exact hS hj)).trans (heap_set_other _ (by rintro rfl; exact hS hj))
      have hu2 : Upd none_ (fun k => k = B ∨ S k) w ((wr.setCell ⟨B, k, none⟩ (.int .i64 (codeS k))).setCell ⟨B, 62 + k, none⟩ (.int .i64 (ordS k).length)).drew :=
        ((HU.out.setCell (p := ⟨B, k, none⟩) (.inr (by rw [HB.out]; exact Nat.le_refl _)) _).setCell (p := ⟨B, 62 + k, none⟩) (.inr (by rw [HB.out]; exact Nat.le_refl _)) _).drew
      generalize ((wr.setCell ⟨B, k, none⟩ (.int .i64 (codeS k))).setCell ⟨B, 62 + k, none⟩ (.int .i64 (ordS k).length)).drew = w2 at *
      clear HK HR HU fz hlt
      go_wp2
      go_loopw [27] (fun i w3 => ∃ s : Nat, s ≤ 257 ∧ i = .int .i64 s ∧ ∃ A cp S, w3.rowIs B 144 94 (bookF (k + 1) k (.slice A (ordS k ++ (List.range s).filter (bl · == k)).length cp)) ∧ Row 3 1 A (ordS k ++ (List.range s).filter (bl · == k)).length cp (ints (ordS k ++ (List.range s).filter (bl · == k))) S w3 ∧ ¬ S B ∧ Upd none_ (fun k => k = B ∨ S k) w w3) (fun i _ => 257 - (intOf i).toNat)
      case atStart => exact ⟨0, by omega, rfl, A, cp, S, by simpa using hbook2, by simpa using hrow2, hS, hu2⟩
      case round =>
        clear hbook2 hrow2 hu2 hS
        obtain ⟨s, hs, rfl, A, cp, S, hbook, hrow, hS, hu⟩ := hrel
        by_cases hs2 : s = 257
        · have hrow1 : ordS k ++ (List.range s).filter (bl · == k) = ordS (k + 1) := by rw [hs2]; rfl
          rw [hrow1] at hbook hrow
          have m1 := (manyS_le k (by omega)).1
          have m2 := (manyS_le k (by omega)).2
          have m3 := codeS_le k (by omega)
          have m4 := ordS_len k (by omega)
          have m5 : (((ordS (k + 1)).length : Int) - ((ordS k).length : Int)) = (manyS k : Int) := by omega
          have j1 : ¬ (s : Int) < 257 := by omega
          have c93 : wr.cell? ⟨B, 93, none⟩ = some (.slice A (ordS (k + 1)).length cp) := (hbook.cell (i := 93) (by omega)).trans rfl
          have cpl : wr.cell? ⟨B, 62 + k, none⟩ = some (.int .i64 (ordS k).length) := by
            rw [hbook.cell (i := 62 + k) (by omega)]
            unfold bookF
            rw [if_neg (by omega), if_neg (by omega), if_pos (by omega), if_pos (by omega), show 62 + k - 62 = k by omega]
          have cma := hbook.cell (i := 31 + k) (by omega)
          have fB := hbook.frozen
          have hlt := hbook.lt
          have HK := Lib.hid hbook
          have HU := Lib.hid hu
          have HR := Lib.hid hrow
          have HM := Lib.hid m1
          clear hbook hu hrow hrow1 hs2 m1
          go_wp2
          have n1 : (⟨B, 31 + k, none⟩ : Addr) ≠ ⟨B, 93, none⟩ := by intro h; injection h; omega
          have n2 : (⟨B, 31 + k, none⟩ : Addr) ≠ ⟨B, 62 + k, none⟩ := by intro h; injection h; omega
          have mw : IntKind.i64.wrap (manyS k : Int) = (manyS k : Int) := IntWalk.i64_in _ (by omega)
          go_region_held3 (fun w' => w'.cell? ⟨B, 93, none⟩ = some (.slice A (ordS (k + 1)).length cp) ∧ w'.cell? ⟨B, 62 + k, none⟩ = some (.int .i64 (ordS k).length)) (first | (go_keep; done) | (simp [World.cell?_setCell_other _ _ _ _ n1, World.cell?_setCell_other _ _ _ _ n2, c93, cpl])) (fail)
          clear c93 cpl n1 n2 mw
          go_wp2
          refine ⟨⟨k + 1, by omega, by omega, by go_num, ?_, A, cp, S, ?_, ?_, hS, ?_⟩, by simp [intOf]; omega⟩
          · simp [codeS]
          · exact ((HK.out.set (31 + k) _).congr (book_many k (by omega) _)).drew
          · exact HR.out.loc fun j hj => heap_set_other _ (by rintro rfl; exact hS hj)
          · exact (HU.out.setCell (p := ⟨B, 31 + k, none⟩) (.inr (by rw [HB.out]; exact Nat.le_refl _)) _).drew
        · have j1 : (s : Int) < 257 := by omega
          have hsl : s < 257 := by omega
          have c93 : wr.cell? ⟨B, 93, none⟩ = some (.slice A (ordS k ++ (List.range s).filter (bl · == k)).length cp) := (hbook.cell (i := 93) (by omega)).trans rfl
          have hlt := hbook.lt
          have hrange : (List.range (s + 1)).filter (bl · == k) = (List.range s).filter (bl · == k) ++ (if bl s == k then [s] else []) := by
            rw [List.range_succ, List.filter_append]
            cases h : bl s == k <;> simp [h]
          by_cases hbs : bl s = k
          · have hb1 : ((bl s : Int) == (k : Int)) = true := beq_iff_eq.2 (by omega)
            rw [if_pos (beq_iff_eq.2 hbs)] at hrange
            have HRA := Lib.hid hrange
            have HBS := Lib.hid hbs
            clear hrange hbs
            have hlen := grow_ord k s (by omega) (by omega)
            generalize hl : ordS k ++ (List.range s).filter (bl · == k) = l at *
            have HL := Lib.hid hl
            clear hl
            have hrow1 : Row 3 1 A l.length cp (ints l) S (wr.alloc (.cells #[.int .i64 s] 3)) := hrow.loc fun j hj => Below.heap_alloc wr _ j (hrow.lt j hj)
            have hsrc : Src Tryd.prog (wr.alloc (.cells #[.int .i64 s] 3)) 1 (.slice (some ⟨wr.heap.size, 0, none⟩) 1 1) 1 [.int .i64 s] :=
              Src.of_rd (Row.made (e := 3) (cs := [.int .i64 s]) (Blk.new wr 3 [.int .i64 s]) (Nat.le_refl _) (by simp [maxLen]) (by simp) rfl).rd (by simp [Value.oneCell'])
            have h63 : l.length + 1 ≤ maxLen := by simp [maxLen]; omega
            have hbb : (l.length + 1) * 8 ≤ big := by simp [big]; omega
            clear hlen
            have fB := hbook.frozen
            have HK := Lib.hid hbook
            have HU := Lib.hid hu
            clear hbook hu hrow
            go_wp2_with (first | (go_at_call 84; refine (bitsOf_any s _ hsl).mono ?_; rintro e w' ⟨rfl, rfl⟩) | (at_builtin; refine wpList_append (by rfl) _ _ _ _ (by rfl) 3 1 8 tyInts tyInts.src A l.length cp (ints l) S _ 1 _ (by rfl) (by rfl) hrow1 hsrc h63 hbb ?_; intro A' c' w4 S' hr4 hu4 ha4; have c4 : w4.cell? ⟨B, 93, none⟩ = some (.slice A l.length cp) := (hu4.cell (a := ⟨B, 93, none⟩) (by simp; omega) hS).trans ((World.cell?_alloc_lt wr _ _ hlt).trans c93); have f4 : w4.frozen? ⟨B, 93, none⟩ = false := (hu4.frozen (a := ⟨B, 93, none⟩) (by simp; omega) hS).trans ((World.frozen?_of_block (w := wr) (Below.heap_alloc wr _ B hlt)).trans (fB 93)); clear hrow1 hsrc h63 hbb fB c93))
            refine ⟨⟨s + 1, by omega, by go_num, A', c', S', ?_, ?_, ?_, ?_⟩, by simp [intOf]; omega⟩
            · rw [HRA.out, ← List.append_assoc, HL.out]
              have h5 := (((HK.out.alloc (.cells #[.int .i64 s] 3)).of_block (hu4.block B (by simp; omega) hS)).set 93 (.slice A' (l.length + 1) c')).congr (book_ord (k + 1) k _ _)
              simpa using h5
            · rw [HRA.out, ← List.append_assoc, HL.out, ints_snoc]
              have h5 := hr4.loc (w' := w4.setCell ⟨B, 93, none⟩ (.slice A' (l.length + 1) c')) fun j hj => heap_set_other _ (by
                rintro rfl
                rcases hu4.own _ hj with h | h
                · exact hS h
                · simp at h; omega)
              simpa using h5
            · intro h
              rcases hu4.own _ h with h | h
              · exact hS h
              · simp at h; omega
            · refine Upd.setCell ?_ (.inr (by rw [HB.out]; exact Nat.le_refl _)) _
              refine (HU.out.alloc _).trans (((hu4.wider (R := fun x => x = B ∨ S x) (fun x hx => .inr hx)).holds ?_))
              rintro x (rfl | hx)
              · exact .inl (.inl rfl)
              · rcases hu4.own _ hx with h | h
                · exact .inl (.inr h)
                · exact .inr h
          · have hb1 : ((bl s : Int) == (k : Int)) = false := beq_eq_false_iff_ne.2 (by omega)
            rw [if_neg (by simpa using hbs), List.append_nil] at hrange
            have HRA := Lib.hid hrange
            have HK := Lib.hid hbook
            have HU := Lib.hid hu
            have HR := Lib.hid hrow
            clear hrange hbs hbook hu hrow
            go_wp2_with (first | (go_at_call 84; refine (bitsOf_any s _ hsl).mono ?_; rintro e w' ⟨rfl, rfl⟩))
            refine ⟨⟨s + 1, by omega, by go_num, A, cp, S, ?_, ?_, hS, HU.out⟩, by simp [intOf]; omega⟩
            · rw [HRA.out]; exact HK.out
            · rw [HRA.out]; exact HR.out
end Go.Proofs.YthmfifcogokpoaaDoor
