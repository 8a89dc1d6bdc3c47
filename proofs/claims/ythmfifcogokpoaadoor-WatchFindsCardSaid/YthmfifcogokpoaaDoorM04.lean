/- What is proved here: contracts of the program's functions and plain lemmas that the claim's last text uses, in parts: what huff.Decode computes; the contract of huff.Decode; a region of open order where a condition S on the world holds until its last operation: what reads may be taken first, what writes comes when it must. -/
import Derived.Test.YthmfifcogokpoaaDoorM03
import Derived.Test.YthmfifcogokpoaaDoorM01
import Derived.OrdersHeld
import Derived.StillTail
import Derived.Deep.RegionHeld3
set_option linter.unusedVariables false
set_option linter.unusedSimpArgs false
namespace Go.Proofs.YthmfifcogokpoaaDoor
open Go.RowKit

def bitAt (l : List UInt8) (k : Nat) : Nat := (l.getD (k / 8) 0).toNat / 2 ^ (7 - k % 8) % 2
def decLoop : Nat → List UInt8 → Nat → Nat → Nat → Nat → List UInt8 → List UInt8 × Int
  | 0, _, _, _, _, _, _ => ([], 2)
  | fuel + 1, l, most, k, code, n, out =>
    if k = 8 * l.length then (if 7 < n ∨ code ≠ 2 ^ n - 1 then ([], 2) else (out, 0))
    else if codeS (n + 1) + manyS (n + 1) ≤ code * 2 + bitAt l k then decLoop fuel l most (k + 1) (code * 2 + bitAt l k) (n + 1) out
    else
      let sign := (ordS 31).getD ((ordS (n + 1)).length + (code * 2 + bitAt l k) - codeS (n + 1)) 0
      if sign = 256 then ([], 2) else if most ≤ out.length then ([], 3) else decLoop fuel l most (k + 1) 0 0 (out ++ [UInt8.ofNat sign])

noncomputable def decBody : Code := ((Tryd.f77.body.bind firstScope).getD .skip)

/-- What huff.Decode leaves. -/
def DecQ (r : List UInt8 × Int) (w : World) (e : Ending) (w' : World) : Prop :=
  ∃ A c S, e = .returned (.tuple #[.slice A r.1.length c, .int .i64 r.2]) ∧ Row 5 1 A r.1.length c (bys r.1) S w' ∧ Upd none_ S w w'

theorem pow_test (code n : Nat) (h : n ≤ 7) : ((code : Int) != wrap64 (wrap64 (2 ^ n) - 1)) = decide (code ≠ 2 ^ n - 1) := by
  have e : wrap64 (wrap64 (2 ^ n) - 1) = ((2 ^ n - 1 : Nat) : Int) := by
    have : n = 0 ∨ n = 1 ∨ n = 2 ∨ n = 3 ∨ n = 4 ∨ n = 5 ∨ n = 6 ∨ n = 7 := by omega
    rcases this with rfl | rfl | rfl | rfl | rfl | rfl | rfl | rfl <;> decide +kernel
  rw [e, Bool.eq_iff_iff, bne_iff_ne, decide_eq_true_iff]
  omega

set_option maxRecDepth 100000 in
theorem dec_over (Q : Ending → World → Prop) (code n jumps : Nat) (u0 u1 u2 u3 u4 u5 u6 u10 u11 u12 u13 u14 u15 u16 u17 u18 u19 u20 u21 u22 u23 u24 u25 u26 u27 u28 u29 u30 u31 u32 u33 u34 u35 u36 u37 u38 u39 u40 u41 u42 u43 u44 u45 u46 u47 u48 u49 u50 u51 u52 u53 u54 u55 u56 u57 u58 u59 u60 u61 u62 u63 u64 u65 u66 u67 u68 u69 u70 u71 u72 u73 u74 u75 u76 u77 u78 u79 u80 u81 u82 u83 u84 u85 u86 u87 u88 u89 u90 u91 u92 u93 u94 u95 u96 u97 u98 u99 u100 u101 u102 : Value) (w : World) (A : Option Addr) (m c : Nat)
    (h : Q (if 7 < n ∨ code ≠ 2 ^ n - 1 then .returned (.tuple #[.slice none 0 0, .int .i64 2]) else .returned (.tuple #[.slice A m c, .int .i64 0])) w) :
    Lab Tryd.prog decBody (bodyPost Tryd.prog Tryd.f77 Q) (jumps + 1) 0 ⟨#[u0, u1, u2, u3, u4, u5, u6, .slice A m c, .int .i64 code, .int .i64 n, u10, u11, u12, u13, u14, u15, u16, u17, u18, u19, u20, u21, u22, u23, u24, u25, u26, u27, u28, u29, u30, u31, u32, u33, u34, u35, u36, u37, u38, u39, u40, u41, u42, u43, u44, u45, u46, u47, u48, u49, u50, u51, u52, u53, u54, u55, u56, u57, u58, u59, u60, u61, u62, u63, u64, u65, u66, u67, u68, u69, u70, u71, u72, u73, u74, u75, u76, u77, u78, u79, u80, u81, u82, u83, u84, u85, u86, u87, u88, u89, u90, u91, u92, u93, u94, u95, u96, u97, u98, u99, u100, u101, u102], []⟩ w := by
  refine ⟨by kernel_rfl, ?_⟩
  show Code.wp _ _ _ _ _
  by_cases h7 : 7 < n
  · rw [if_pos (.inl h7)] at h
    have H := Lib.hid h
    clear h
    go_wp2
    exact H.out
  · have ht := pow_test code n (by omega)
    by_cases he : code ≠ 2 ^ n - 1
    · rw [if_pos (.inr he)] at h
      rw [decide_eq_true he] at ht
      have H := Lib.hid h
      clear h he
      go_wp2
      exact H.out
    · rw [if_neg (by rintro (h | h); exact h7 h; exact he h)] at h
      rw [decide_eq_false he] at ht
      have H := Lib.hid h
      clear h he
      go_wp2
      exact H.out

theorem bit_and (x j : Nat) (h : x < 256) : Go.bits .and .u8 ((x : Int) / 2 ^ j) 1 = ((x / 2 ^ j % 2 : Nat) : Int) := by
  have e : (x : Int) / 2 ^ j = ((x / 2 ^ j : Nat) : Int) := by simp
  rw [e]
  have hy : x / 2 ^ j < 256 := Nat.lt_of_le_of_lt (Nat.div_le_self _ _) h
  generalize x / 2 ^ j = y at *
  have : ∀ y : Fin 256, Go.bits .and .u8 ((y.val : Nat) : Int) 1 = ((y.val % 2 : Nat) : Int) := by decide +kernel
  exact this ⟨y, hy⟩
theorem ofInt_i64 (a : Nat) (ha : a < 9223372036854775808) : (BitVec.ofInt 64 (a : Int)).toNat = a := by
  rw [BitVec.ofInt_natCast, BitVec.toNat_ofNat]; exact Nat.mod_eq_of_lt (by omega)
theorem i64_or_nat (a b : Nat) (ha : a < 9223372036854775808) (hb : b < 9223372036854775808) : Go.bits .or .i64 (a : Int) (b : Int) = ((a ||| b : Nat) : Int) := by
  have hx : a ||| b < 2 ^ 63 := Nat.or_lt_two_pow (by omega) (by omega)
  show IntKind.i64.wrap ((BitVec.ofInt 64 (a : Int) ||| BitVec.ofInt 64 (b : Int)).toNat : Int) = _
  rw [BitVec.toNat_or, ofInt_i64 a ha, ofInt_i64 b hb, IntKind.wrap_i64]
  omega
theorem or_bit (code d : Nat) (h : code < 1073741824) (hd : d < 2) : Go.bits .or .i64 ((code : Int) * 2) (d : Int) = ((code * 2 + d : Nat) : Int) := by
  have := i64_or_nat (code * 2) d (by omega) (by omega)
  rw [Int.natCast_mul] at this
  rw [show ((code : Int) * 2) = (code : Int) * ((2 : Nat) : Int) from rfl, this]
  congr 1
  have := Nat.two_pow_add_eq_or_of_lt (i := 1) (b := d) (by omega) code
  rw [Nat.mul_comm code 2]
  simpa using this.symm

/-- The book in memory. -/
def Bk (w : World) (b : Nat) (A : Option Addr) (c : Nat) (S : Own) : Prop := w.rowIs b 144 94 (bookF 31 31 (.slice A 257 c)) ∧ Row 3 1 A 257 c (ints (ordS 31)) S w
theorem book_first_at (w : World) (b : Nat) (A : Option Addr) (c : Nat) (S : Own) (h : Bk w b A c S) (n : Nat) (hn : n ≤ 30) :
    w.cell? ⟨b, n, none⟩ = some (.int .i64 (codeS n)) ∧ w.cell? ⟨b, 31 + n, none⟩ = some (.int .i64 (manyS n)) ∧ w.cell? ⟨b, 62 + n, none⟩ = some (.int .i64 (ordS n).length) ∧ w.cell? ⟨b, 93, none⟩ = some (.slice A 257 c) := by
  refine ⟨?_, ?_, ?_, ?_⟩
  · rw [h.1.cell (i := n) (by omega)]
    unfold bookF
    rw [if_pos (by omega), if_pos (by omega)]
  · rw [h.1.cell (i := 31 + n) (by omega)]
    unfold bookF
    rw [if_neg (by omega), if_pos (by omega), if_pos (by omega), show 31 + n - 31 = n by omega]
  · rw [h.1.cell (i := 62 + n) (by omega)]
    unfold bookF
    rw [if_neg (by omega), if_neg (by omega), if_pos (by omega), if_pos (by omega), show 62 + n - 62 = n by omega]
  · rw [h.1.cell (i := 93) (by omega)]
    rfl
theorem code_full : codeS 30 + manyS 30 = 2 ^ 30 := by decide +kernel
theorem ordS_lt : ∀ x ∈ ordS 31, x < 257 := by decide +kernel
theorem ordS_31 : (ordS 31).length = 257 := by decide +kernel
theorem ord_step (n : Nat) (h : n ≤ 30) : (ordS n).length + manyS n ≤ 257 := by rw [(manyS_le n h).1]; exact ordS_len _ (by omega)

set_option maxRecDepth 100000 in
set_option maxHeartbeats 2000000 in
theorem dec_loop (l : List UInt8) (A0 : Option Addr) (c0 : Nat) (most : Nat) (b : Nat) (Ab : Option Addr) (cb : Nat) (Sb : Own) (w0 : World) (hl : l.length ≤ 1000000000000) (hr : Rd w0 1 A0 l.length c0 (bys l))
    (hb : Bk w0 b Ab cb Sb) (wv : World) (HV : Hid (Upd none_ none_ wv w0)) (fuel : Nat) : ∀ (k code n : Nat) (out : List UInt8) (u2 u3 u4 u5 u11 u12 u13 u14 u15 u16 u17 u18 u19 u20 u21 u22 u23 u24 u25 u26 u27 u28 u29 u30 u31 u32 u33 u34 u35 u36 u37 u38 u39 u40 u41 u42 u43 u44 u45 u46 u47 u48 u49 u50 u51 u52 u53 u54 u55 u56 u57 u58 u59 u60 u61 u62 u63 u64 u65 u66 u67 u68 u69 u70 u71 u72 u73 u74 u75 u76 u77 u78 u79 u80 u81 u82 u83 u84 u85 u86 u87 u88 u89 u90 u91 u92 u93 u94 u95 u96 u97 u98 u99 u100 u101 u102 : Value) (w : World) (A : Option Addr) (c : Nat) (S : Own),
    k + fuel = 8 * l.length + 1 → 1 ≤ fuel → n ≤ 29 → codeS n + manyS n ≤ code → code < 2 ^ n → out.length ≤ k → Row 5 1 A out.length c (bys out) S w → Upd none_ S w0 w →
    Lab Tryd.prog decBody (bodyPost Tryd.prog Tryd.f77 (DecQ (decLoop fuel l most k code n out) wv)) (fuel + 1) 1
      ⟨#[.slice A0 l.length c0, .int .i64 most, u2, u3, u4, u5, .pointer (some ⟨b, 0, none⟩), .slice A out.length c, .int .i64 code, .int .i64 n, .int .i64 k, u11, u12, u13, u14, u15, u16, u17, u18, u19, u20, u21, u22, u23, u24, u25, u26, u27, u28, u29, u30, u31, u32, u33, u34, u35, u36, u37, u38, u39, u40, u41, u42, u43, u44, u45, u46, u47, u48, u49, u50, u51, u52, u53, u54, u55, u56, u57, u58, u59, u60, u61, u62, u63, u64, u65, u66, u67, u68, u69, u70, u71, u72, u73, u74, u75, u76, u77, u78, u79, u80, u81, u82, u83, u84, u85, u86, u87, u88, u89, u90, u91, u92, u93, u94, u95, u96, u97, u98, u99, u100, u101, u102], []⟩ w := by
  induction fuel with
  | zero => intros; omega
  | succ fuel ih =>
    intro k code n out u2 u3 u4 u5 u11 u12 u13 u14 u15 u16 u17 u18 u19 u20 u21 u22 u23 u24 u25 u26 u27 u28 u29 u30 u31 u32 u33 u34 u35 u36 u37 u38 u39 u40 u41 u42 u43 u44 u45 u46 u47 u48 u49 u50 u51 u52 u53 u54 u55 u56 u57 u58 u59 u60 u61 u62 u63 u64 u65 u66 u67 u68 u69 u70 u71 u72 u73 u74 u75 u76 u77 u78 u79 u80 u81 u82 u83 u84 u85 u86 u87 u88 u89 u90 u91 u92 u93 u94 u95 u96 u97 u98 u99 u100 u101 u102 w A c S h1 h2 h3 h4 h5 h6 hrow hu
    have IH := Lib.hid ih
    clear ih
    by_cases hk : k = 8 * l.length
    · have hkb : ((k : Int) == 8 * (l.length : Int)) = true := beq_iff_eq.2 (by omega)
      have HD := Lib.hid (show decLoop (fuel + 1) l most k code n out = _ from by simp only [decLoop]; rw [if_pos hk])
      have HR := Lib.hid hrow
      have HU := Lib.hid hu
      have h30 : n ≤ 30 := by omega
      clear hrow hu hr hb hk
      refine ⟨by kernel_rfl, ?_⟩
      show Code.wp _ _ _ _ _
      go_wp2
      go_step3
      simp only [Exit.then, Jumps_goto]
      refine dec_over _ code n fuel _ _ _ _ _ _ _ _ _ _ _ _ _ _ _ _ _ _ _ _ _ _ _ _ _ _ _ _ _ _ _ _ _ _ _ _ _ _ _ _ _ _ _ _ _ _ _ _ _ _ _ _ _ _ _ _ _ _ _ _ _ _ _ _ _ _ _ _ _ _ _ _ _ _ _ _ _ _ _ _ _ _ _ _ _ _ _ _ _ _ _ _ _ _ _ _ _ _ _ _ w A out.length c ?_
      rw [HD.out]
      by_cases ht : 7 < n ∨ code ≠ 2 ^ n - 1
      · rw [if_pos ht, if_pos ht]
        exact ⟨none, 0, none_, rfl, Row.nil _ _ _, HV.out.trans (HU.out.holds (fun _ h => h.elim))⟩
      · rw [if_neg ht, if_neg ht]
        exact ⟨A, c, S, rfl, HR.out, HV.out.trans HU.out⟩
    · obtain ⟨ab, ao, hA, hcell⟩ := hr.form (by omega)
      have hkl : k / 8 < l.length := by omega
      have hc := hcell (k / 8) _ (bys_get l (k / 8) hkl)
      have hkb : ((k : Int) == 8 * (l.length : Int)) = false := beq_eq_false_iff_ne.2 (by omega)
      have hx2 : l[k / 8].toNat < 256 := l[k / 8].toNat_lt
      have hbit : bitAt l k = l[k / 8].toNat / 2 ^ (7 - k % 8) % 2 := by
        unfold bitAt
        rw [List.getD_eq_getElem?_getD, List.getElem?_eq_getElem hkl]
        rfl
      unfold by8 at hc
      generalize l[k / 8].toNat = x at *
      have hAb : ab < w0.heap.size := World.block_lt_of_cell? _ _ hc
      have hAw : w.cell? ⟨ab, ao + k / 8, none⟩ = some (.int .u8 x) := (hu.cell (a := ⟨ab, ao + k / 8, none⟩) hAb (fun h => h)).trans hc
      have hbl : b < w0.heap.size := hb.1.lt
      have hbw : Bk w b Ab cb Sb := ⟨hb.1.of_block (hu.block b hbl (fun h => h)), hb.2.loc fun j hj => hu.block j (hb.2.lt j hj) (fun h => h)⟩
      obtain ⟨f1, f2, f3, f4⟩ := book_first_at w b Ab cb Sb hbw (n + 1) (by omega)
      have hpn : 2 ^ n ≤ 2 ^ 29 := Nat.pow_le_pow_right (by omega) h3
      have hcb : code < 536870912 := by omega
      have hm1 := (manyS_le (n + 1) (by omega)).2
      have hm2 := codeS_le (n + 1) (by omega)
      have hm3 := ord_step (n + 1) (by omega)
      have hcs : codeS (n + 1) = (codeS n + manyS n) * 2 := rfl
      have ha := bit_and x (7 - k % 8) hx2
      rw [← hbit] at ha
      have hd2 : bitAt l k < 2 := by rw [hbit]; exact Nat.mod_lt _ (by omega)
      have ho := or_bit code (bitAt l k) (by omega) hd2
      have HD := Lib.hid (show decLoop (fuel + 1) l most k code n out = _ from by simp only [decLoop]; rw [if_neg hk])
      generalize bitAt l k = d at *
      have hnext : code * 2 + d < 2 ^ (n + 1) := by rw [Nat.pow_succ]; omega
      have hlow : codeS (n + 1) ≤ code * 2 + d := by omega
      have hcd : code * 2 + d ≤ 1073741824 := by omega
      have HN := Lib.hid hnext
      generalize hcdv : code * 2 + d = cd at *
      have HCD := Lib.hid hcdv
      have HHB := Lib.hid hbw
      have HR := Lib.hid hrow
      have HU := Lib.hid hu
      have HRD := Lib.hid hr
      have HB0 := Lib.hid hb
      have i1 : (0 : Int) ≤ (k : Int) / 8 := by omega
      have i2 : (k : Int) / 8 < (l.length : Int) := by omega
      have i4 : (n : Int) + 1 < 31 := by omega
      clear hr hb hcell hrow hu hc hbw hbit hcs hpn hcdv hnext hbl hAb
      subst hA
      by_cases hmiss : codeS (n + 1) + manyS (n + 1) ≤ cd
      · have t1 : (manyS (n + 1) : Int) ≤ (cd : Int) - (codeS (n + 1) : Int) := by omega
        refine ⟨by kernel_rfl, ?_⟩
        show Code.wp _ _ _ _ _
        go_wp2
        go_quiet (fail)
        go_wp2
        go_step3
        simp only [Exit.then, Jumps_goto]
        have h29 : n + 1 ≤ 29 := by
          rcases Nat.lt_or_ge n 29 with h | h
          · omega
          · have hn29 : n = 29 := by omega
            have h1 : codeS (n + 1) + manyS (n + 1) = 2 ^ (n + 1) := by rw [hn29]; exact code_full
            have h2 := HN.out
            omega
        have hI := IH.out (k + 1) cd (n + 1) out
        rw [HD.out, if_pos hmiss]
        exact hI _ _ _ _ _ _ _ _ _ _ _ _ _ _ _ _ _ _ _ _ _ _ _ _ _ _ _ _ _ _ _ _ _ _ _ _ _ _ _ _ _ _ _ _ _ _ _ _ _ _ _ _ _ _ _ _ _ _ _ _ _ _ _ _ _ _ _ _ _ _ _ _ _ _ _ _ _ _ _ _ _ _ _ _ _ _ _ _ _ _ _ _ _ _ _ _ _ A c S (by omega) (by omega) h29 hmiss HN.out (by omega) (HR.out.loc fun _ _ => rfl) (HU.out.drewN _)
      · have t1 : ¬ (manyS (n + 1) : Int) ≤ (cd : Int) - (codeS (n + 1) : Int) := by omega
        have t1b : decide ((manyS (n + 1) : Int) ≤ (cd : Int) - (codeS (n + 1) : Int)) = false := by simpa using t1
        have t2 : ¬ (cd : Int) < (codeS (n + 1) : Int) := by omega
        refine ⟨by kernel_rfl, ?_⟩
        show Code.wp _ _ _ _ _
        have hbw := HHB.out
        obtain ⟨gb, ob, rfl, hcells⟩ := hbw.2.rd.form (by omega)
        have hidx : (ordS (n + 1)).length + cd - codeS (n + 1) < 257 := by omega
        have hsg : (ordS 31)[(ordS (n + 1)).length + cd - codeS (n + 1)]? = some ((ordS 31).getD ((ordS (n + 1)).length + cd - codeS (n + 1)) 0) := by
          rw [List.getD_eq_getElem?_getD, List.getElem?_eq_getElem (by rw [ordS_31]; exact hidx)]
          rfl
        have hsl := ordS_lt _ (List.mem_of_getElem? hsg)
        have hcs := hcells ((ordS (n + 1)).length + cd - codeS (n + 1)) (.int .i64 ((ordS 31).getD ((ordS (n + 1)).length + cd - codeS (n + 1)) 0 : Nat)) (by unfold ints; rw [List.getElem?_map, hsg]; rfl)
        have HD2 := Lib.hid (HD.out.trans (if_neg hmiss))
        have ei : ((ordS (n + 1)).length : Int) + (cd : Int) - (codeS (n + 1) : Int) = (((ordS (n + 1)).length + cd - codeS (n + 1) : Nat) : Int) := by omega
        clear hcells hsg
        have HB1 := Lib.hid hbw
        clear hbw HHB HD
        generalize (ordS 31).getD ((ordS (n + 1)).length + cd - codeS (n + 1)) 0 = sign at *
        have j1 : (0 : Int) ≤ (((ordS (n + 1)).length + cd - codeS (n + 1) : Nat) : Int) := by omega
        have j2 : (((ordS (n + 1)).length + cd - codeS (n + 1) : Nat) : Int) < 257 := by omega
        have hlen1 := ordS_len (n + 1) (by omega)
        have w1 : IntKind.i64.wrap (((ordS (n + 1)).length : Int) + (cd : Int)) = ((ordS (n + 1)).length : Int) + (cd : Int) := IntWalk.i64_in _ (by omega)
        have w2 : IntKind.i64.wrap (((ordS (n + 1)).length : Int) + (cd : Int) - (codeS (n + 1) : Int)) = (((ordS (n + 1)).length + cd - codeS (n + 1) : Nat) : Int) := by rw [IntWalk.i64_in _ (by omega)]; exact ei
        clear ei hlen1
        generalize (ordS (n + 1)).length + cd - codeS (n + 1) = idx at *
        have hs8 : IntKind.u8.wrap (sign : Int) = ((sign % 256 : Nat) : Int) := by rw [IntKind.wrap_u8]; omega
        by_cases hsg : sign = 256
        · have hsb : ((sign : Int) == 256) = true := beq_iff_eq.2 (by omega)
          have HD3 := Lib.hid (HD2.out.trans (if_pos hsg))
          clear hsg
          go_wp2
          go_quiet (fail)
          go_wp2
          go_quiet (fail)
          go_wp2
          try simp only [Jumps_ret]
          go_ret2
          rw [HD3.out]
          exact ⟨none, 0, none_, rfl, Row.nil _ _ _, HV.out.trans ((HU.out.drewN _).holds (fun _ h => h.elim))⟩
        · have hsb : ((sign : Int) == 256) = false := beq_eq_false_iff_ne.2 (by omega)
          have HD3 := Lib.hid (HD2.out.trans (if_neg hsg))
          by_cases hmost : most ≤ out.length
          · have HD4 := Lib.hid (HD3.out.trans (if_pos hmost))
            clear hsg
            go_wp2
            go_quiet (fail)
            go_wp2
            go_quiet (fail)
            go_wp2
            try simp only [Jumps_ret]
            go_ret2
            rw [HD4.out]
            exact ⟨none, 0, none_, rfl, Row.nil _ _ _, HV.out.trans ((HU.out.drewN _).holds (fun _ h => h.elim))⟩
          · have HD4 := Lib.hid (HD3.out.trans (if_neg hmost))
            have hs256 : sign < 256 := by omega
            have hsm : ((sign : Int) % 256) = (sign : Int) := by omega
            have h63 : out.length + 1 ≤ maxLen := by simp only [maxLen]; omega
            have hbb : (out.length + 1) * 1 ≤ big := by simp only [big]; omega
            have hol : out.length ≤ k := h6
            have HRQ := Lib.hid (show ∀ q : Nat, Row 5 1 A out.length c (bys out) S ((w.drewN q).alloc (.cells #[.int .u8 sign] 5)) from fun q => HR.out.loc fun j hj => Below.heap_alloc (w.drewN q) _ j (HR.out.lt j hj))
            have HSQ := Lib.hid (show ∀ q : Nat, Src Tryd.prog ((w.drewN q).alloc (.cells #[.int .u8 sign] 5)) 1 (.slice (some ⟨w.heap.size, 0, none⟩) 1 1) 1 [.int .u8 sign] from fun q => Src.one_new (w.drewN q) 5 _ rfl)
            clear hsg
            go_wp2
            go_quiet (fail)
            go_wp2
            go_quiet (fail)
            go_wp2_with (at_builtin; refine wpList_append (by rfl) _ _ _ _ (by rfl) 5 1 1 tyBytes tyBytes.src A out.length c (bys out) S (.slice (some ⟨w.heap.size, 0, none⟩) 1 1) 1 [.int .u8 sign] (by rfl) (by rfl) (HRQ.out _) (HSQ.out _) h63 hbb ?_; intro A' c' w4 S' hr4 hu4 ha4)
            go_step3
            simp only [Exit.then, Jumps_goto]
            have hlen : (out ++ [UInt8.ofNat sign]).length = out.length + 1 := by simp
            have hbys : bys (out ++ [UInt8.ofNat sign]) = bys out ++ [.int .u8 sign] := by
              rw [bys_append]
              congr 1
              have : (UInt8.ofNat sign).toNat = sign := by rw [UInt8.toNat_ofNat']; omega
              simp [bys, by8, this]
            have hI := IH.out (k + 1) 0 0 (out ++ [UInt8.ofNat sign])
            rw [hlen, hbys] at hI
            rw [HD4.out]
            exact hI _ _ _ _ _ _ _ _ _ _ _ _ _ _ _ _ _ _ _ _ _ _ _ _ _ _ _ _ _ _ _ _ _ _ _ _ _ _ _ _ _ _ _ _ _ _ _ _ _ _ _ _ _ _ _ _ _ _ _ _ _ _ _ _ _ _ _ _ _ _ _ _ _ _ _ _ _ _ _ _ _ _ _ _ _ _ _ _ _ _ _ _ _ _ _ _ _ A' c' S' (by omega) (by omega) (by omega) (by decide) (by omega) (by omega) hr4 (((HU.out.drewN _).alloc _).trans hu4)

end Go.Proofs.YthmfifcogokpoaaDoor
namespace Go.Proofs.YthmfifcogokpoaaDoor
open Go.RowKit

/-- What huff.Decode gives. -/
def hdec (l : List UInt8) (most : Nat) : List UInt8 × Int := decLoop (8 * l.length + 1) l most 0 0 0 []

set_option maxRecDepth 100000 in
theorem huffDecode_any (l : List UInt8) (A0 : Option Addr) (c0 : Nat) (most : Nat) (w : World) (hl : l.length ≤ 1000000000000) (hr : Rd w 1 A0 l.length c0 (bys l)) :
    Calls Tryd.prog 77 #[.slice A0 l.length c0, .int .i64 most] w (DecQ (hdec l most) w) := by
  have HR := Lib.hid hr
  have HL := Lib.hid hl
  clear hr hl
  go_enter Tryd.func77, Tryd.ntmps77
  go_wp2
  show Code.wp _ (Code.scope decBody) _ _ _
  refine wp_scope_from (8 * l.length + 1) 1 (by kernel_rfl) ?_
  show Code.wp _ _ _ _ _
  go_wp2_with (go_at_call 81; refine (opened_any _).mono ?_; rintro e w' ⟨B, A, cp, S, rfl, hk, hrow, hS, hu⟩; have HK := Lib.hid hk; have HRW := Lib.hid hrow; have HU := Lib.hid hu; clear hk hrow hu hS)
  repeat (show Code.wp _ _ _ _ _; go_wp2)
  show Lab _ _ _ _ _ _ _
  have hr : Rd w' 1 A0 l.length c0 (bys l) := by
    rcases Nat.eq_zero_or_pos l.length with h0 | h0
    · have hl0 : l = [] := List.eq_nil_of_length_eq_zero h0
      subst hl0
      exact ⟨HR.out.le, HR.out.cap, rfl, HR.out.nil, fun ad ha => ⟨(HR.out.at_ ad ha).1, fun j u hu => by cases hu⟩⟩
    · exact HR.out.upd HU.out fun b hb => ⟨HR.out.block_lt h0 (by omega) b hb, fun h => h⟩
  exact dec_loop l A0 c0 most B A cp S w' HL.out hr ⟨HK.out, HRW.out⟩ w (Lib.hid (HU.out.holds fun _ h => h.elim)) (8 * l.length + 1) 0 0 0 [] _ _ _ _ _ _ _ _ _ _ _ _ _ _ _ _ _ _ _ _ _ _ _ _ _ _ _ _ _ _ _ _ _ _ _ _ _ _ _ _ _ _ _ _ _ _ _ _ _ _ _ _ _ _ _ _ _ _ _ _ _ _ _ _ _ _ _ _ _ _ _ _ _ _ _ _ _ _ _ _ _ _ _ _ _ _ _ _ _ _ _ _ _ _ _ _ w' none 0 none_ (by omega) (by omega) (by omega) (by decide +kernel) (by decide) (by simp) (Row.nil _ _ _) (Upd.refl _ _)
end Go.Proofs.YthmfifcogokpoaaDoor
namespace Go.Proofs.YthmfifcogokpoaaDoor
open Go.RowKit
section
variable {P : Program} {ops : Array Oper} {Q : Exit → Act → World → Prop} {md : Region.Mode} {S : World → Prop} {L : Nat}

/-- Nothing from L on has come up. -/
def NoneP (L : Nat) (done : Array Bool) : Prop := ∀ k, L ≤ k → k < done.size → done.getD k false = false
def noneB (L : Nat) (done : Array Bool) : Bool := (List.range done.size).all fun k => Nat.blt k L || !(done.getD k false)
theorem NoneP.of {L : Nat} {done : Array Bool} (h : noneB L done = true) : NoneP L done := fun k hk hs => by
  have h1 := List.all_eq_true.1 h k (List.mem_range.2 hs)
  rw [Bool.or_eq_true] at h1
  rcases h1 with h1 | h1
  · have : k < L := by simpa using h1
    omega
  · exact (Bool.not_eq_true' _).mp h1
theorem NoneP.not {L : Nat} {done : Array Bool} (h : noneB L done = false) : ¬ NoneP L done := fun hn => by
  have h1 : noneB L done = true := List.all_eq_true.2 fun k hk => by
    rw [Bool.or_eq_true]
    rcases Nat.lt_or_ge k L with h2 | h2
    · exact .inl (by simpa using h2)
    · exact .inr (by rw [hn k h2 (List.mem_range.1 hk)]; rfl)
  rw [h1] at h
  cases h
theorem getD_set (done : Array Bool) (i k : Nat) (hs : k < done.size) : (done.setIfInBounds i true).getD k false = if k = i then true else done.getD k false := by
  rw [Array.getD_eq_getD_getElem?, Array.getD_eq_getD_getElem?, Array.getElem?_setIfInBounds]
  by_cases h : i = k
  · subst h
    rw [if_pos rfl, if_pos hs, if_pos rfl]
    rfl
  · rw [if_neg h, if_neg (fun e => h e.symm)]
theorem NoneP.set {L i : Nat} {done : Array Bool} (h : NoneP L done) (hi : i < L) : NoneP L (done.setIfInBounds i true) := fun k hk hs => by
  rw [Array.size_setIfInBounds] at hs
  rw [getD_set done i k hs, if_neg (by omega)]
  exact h k hk hs
theorem NoneP.unset {L i : Nat} {done : Array Bool} (h : NoneP L (done.setIfInBounds i true)) (hu : done.getD i true = false) : NoneP L done ∧ i < L := by
  have his : i < done.size := by
    rcases Nat.lt_or_ge i done.size with h1 | h1
    · exact h1
    · rw [Array.getD_eq_getD_getElem?, Array.getElem?_eq_none h1] at hu
      cases hu
  refine ⟨fun k hk hs => ?_, ?_⟩
  · have h1 := h k hk (by simpa using hs)
    rw [getD_set done i k hs] at h1
    rcases Decidable.em (k = i) with h2 | h2
    · rw [if_pos h2] at h1; cases h1
    · rw [if_neg h2] at h1; exact h1
  · rcases Nat.lt_or_ge i L with h1 | h1
    · exact h1
    · have h2 := h i h1 (by simpa using his)
      rw [getD_set done i i his, if_pos rfl] at h2
      cases h2

/-- Whatever comes up next, and S holds behind it as long as nothing from L on has come up. -/
def AnyS (P : Program) (md : Region.Mode) (ops : Array Oper) (Q : Exit → Act → World → Prop) (S : World → Prop) (L : Nat) : Nat → Array Bool → Act → World → Prop
  | 0, done, a, w => Region.ready md ops done = [] ∧ Q .normal a w
  | n + 1, done, a, w =>
    (Region.ready md ops done = [] → Q .normal a w) ∧
    ∀ i ∈ Region.ready md ops done, wpOp P ops Q i (fun a' w' => (NoneP L (done.setIfInBounds i true) → S w') ∧ AnyS P md ops Q S L n (done.setIfInBounds i true) a' w') a w

theorem AnyS.any : ∀ (n : Nat) (done : Array Bool) (a : Act) (w : World), AnyS P md ops Q S L n done a w → wpAny P md ops Q n done a w
  | 0, _, _, _, h => h
  | n + 1, _, _, _, h => ⟨h.1, fun i hi => wpOp_mono (fun _ _ h' => AnyS.any n _ _ _ h'.2) (h.2 i hi)⟩

/-- What stands from L on waits for number i. -/
def lastB (md : Region.Mode) (ops : Array Oper) (L i : Nat) : Bool := Nat.blt i L && (List.range ops.size).all fun j => Nat.blt j L || Region.waitsFor md ops j i

theorem AnyS_first {T : World → Prop} {i : Nat} {oi : Oper} {v : Value} (hi : ops[i]? = some oi) (hsel : ∀ (j : Nat) (o : Oper) cs b, ops[j]? = some o → o.op ≠ .select cs b)
    (hQ : ∀ c a w, Q (.panic c) (a.put oi.dst v) w → Q (.panic c) a w) (hT : (∀ w, T w) ∨ (T = S ∧ lastB md ops L i = true)) :
    ∀ (n : Nat) (done : Array Bool) (a : Act) (w : World),
      ((∀ w, T w) ∧ i < L ∨ (∀ w, T w) ∧ ¬ NoneP L done ∨ NoneP L done) →
      (∀ j oj, ops[j]? = some oj → j ≠ i → done.getD j true = false → (∀ e ∈ oj.after, Region.binds md e = true → e.on ≠ i) → oi.apart ops oj = true) →
      i ∈ Region.ready md ops done → YieldsIf P ops T oi v a → T w → (NoneP L done → i < L ∧ S w) →
      AnyS P md ops Q S L n (done.setIfInBounds i true) (a.put oi.dst v) w → AnyS P md ops Q S L (n + 1) done a w := by
  intro n
  induction n with
  | zero =>
    intro done a w _ _ hr hy hS hS2 H
    refine ⟨fun h => (by rw [h] at hr; cases hr), fun j hj => ?_⟩
    rcases Decidable.em (j = i) with rfl | hji
    · exact hy.wpOp hi hS ⟨fun h => (hS2 (h.unset (mem_ready.1 hr).1).1).2, H⟩
    · have h2 := ready_mono hj hji
      rw [H.1] at h2
      cases h2
  | succ n ih =>
    intro done a w hN hap hr hy hS hS2 H
    have hun : done.getD i true = false := (mem_ready.1 hr).1
    refine ⟨fun h => (by rw [h] at hr; cases hr), fun j hj => ?_⟩
    rcases Decidable.em (j = i) with rfl | hji
    · exact hy.wpOp hi hS ⟨fun h => (hS2 (h.unset hun).1).2, H⟩
    · have h1 := H.2 j (ready_mono hj hji)
      obtain ⟨hjun, oj, hoj, hall⟩ := mem_ready.1 hj
      have hnot : ∀ e ∈ oj.after, Region.binds md e = true → e.on ≠ i := by
        intro e he hb heq
        have h3 := hall e he hb
        rw [heq] at h3
        by_cases hl : i < done.size
        · rw [Array.getD_eq_getD_getElem?, Array.getElem?_eq_getElem hl] at hun h3
          simp only [Option.getD_some] at hun h3
          rw [hun] at h3
          cases h3
        · rw [Array.getD_eq_getD_getElem?, Array.getElem?_eq_none (by omega)] at hun
          cases hun
      have hjL : lastB md ops L i = true → j < L := by
        intro hB
        rw [lastB, Bool.and_eq_true] at hB
        rcases Nat.lt_or_ge j L with h | h
        · exact h
        · have hjs : j < ops.size := by obtain ⟨h, _⟩ := Array.getElem?_eq_some_iff.1 hoj; exact h
          have h4 := List.all_eq_true.1 hB.2 j (List.mem_range.2 hjs)
          rw [Bool.or_eq_true] at h4
          rcases h4 with h4 | h4
          · simpa using h4
          · obtain ⟨o2, ho2, e, he, hb, hon⟩ := Region.waitsFor_spec h4
            rw [hoj] at ho2
            cases ho2
            exact absurd hon (hnot e he hb)
      have h2 := wpOp_putIf hoj (hap j oj hoj hji hjun hnot) (fun cs b => hsel i oi cs b hi) (fun cs b => hsel j oj cs b hoj) hQ hy h1
      refine wpOp_mono (fun a' w' h3 => ?_) h2
      have hri : i ∈ Region.ready md ops (done.setIfInBounds j true) := ready_mono hr (Ne.symm hji)
      obtain ⟨hy', hS', h4⟩ := h3
      have hswap : (done.setIfInBounds i true).setIfInBounds j true = (done.setIfInBounds j true).setIfInBounds i true := Array.setIfInBounds_comm _ _ (Ne.symm hji)
      rw [hswap] at h4 hS'
      have hSj : NoneP L (done.setIfInBounds j true) → i < L ∧ S w' := fun hn => by
        have h5 := (hS2 (hn.unset hjun).1).1
        exact ⟨h5, hS' (hn.set h5)⟩
      have hTw : T w' ∧ ((∀ w, T w) ∧ i < L ∨ (∀ w, T w) ∧ ¬ NoneP L (done.setIfInBounds j true) ∨ NoneP L (done.setIfInBounds j true)) := by
        rcases hT with hT | ⟨rfl, hB⟩
        · refine ⟨hT w', ?_⟩
          rcases Classical.em (NoneP L (done.setIfInBounds j true)) with h6 | h6
          · exact .inr (.inr h6)
          · exact .inr (.inl ⟨hT, h6⟩)
        · rcases hN with ⟨h6, h7⟩ | ⟨h6, h7⟩ | h6
          · exact ⟨h6 w', .inl ⟨h6, h7⟩⟩
          · refine ⟨h6 w', .inr (.inl ⟨h6, fun h8 => h7 (h8.unset hjun).1⟩)⟩
          · have h7 := h6.set (hjL hB)
            exact ⟨(hSj h7).2, .inr (.inr h7)⟩
      refine ⟨fun h => (hSj h).2, ih (done.setIfInBounds j true) a' w' hTw.2 (fun k ok hk hki hkun hno => hap k ok hk hki ?_ hno) hri hy' hTw.1 hSj h4⟩
      rcases Decidable.em (j = k) with rfl | hjk
      · exact hjun
      · rw [getD_set_ne true hjk] at hkun
        exact hkun

variable {l : List Oper}
/-- Number i, which reads, is taken first. -/
theorem AnyS_take {i : Nat} {oi : Oper} {v : Value} {n : Nat} {done : Array Bool} {a : Act} {w : World} (hi : l[i]? = some oi) (hL : lastB md l.toArray L i = true) (hN : noneB L done = true)
    (hs : Region.noSelect l.toArray = true) (hf : Region.free md l.toArray done i = true) (hr : (Region.ready md l.toArray done).contains i = true)
    (hQ : ∀ c a w, Q (.panic c) (a.put oi.dst v) w → Q (.panic c) a w) (hy : YieldsIf P l.toArray S oi v a) (hS : S w)
    (h : AnyS P md l.toArray Q S L n (done.setIfInBounds i true) (a.put oi.dst v) w) : AnyS P md l.toArray Q S L (n + 1) done a w :=
  AnyS_first (T := S) (by rw [List.getElem?_toArray]; exact hi) (Region.noSelect_spec hs) hQ (.inr ⟨rfl, hL⟩) n done a w (.inr (.inr (NoneP.of hN))) (Region.free_spec (by rw [List.getElem?_toArray]; exact hi) hf) (by simpa using hr) hy hS
    (fun _ => ⟨by rw [lastB, Bool.and_eq_true] at hL; simpa using hL.1, hS⟩) h
/-- Number i, which asks nothing of the world, is taken first, ahead of L's. -/
theorem AnyS_plain {i : Nat} {oi : Oper} {v : Value} {n : Nat} {done : Array Bool} {a : Act} {w : World} (hi : l[i]? = some oi) (hiL : Nat.blt i L = true)
    (hs : Region.noSelect l.toArray = true) (hf : Region.free md l.toArray done i = true) (hr : (Region.ready md l.toArray done).contains i = true)
    (hQ : ∀ c a w, Q (.panic c) (a.put oi.dst v) w → Q (.panic c) a w) (hy : YieldsIf P l.toArray (fun _ => True) oi v a) (hS : S w)
    (h : AnyS P md l.toArray Q S L n (done.setIfInBounds i true) (a.put oi.dst v) w) : AnyS P md l.toArray Q S L (n + 1) done a w :=
  AnyS_first (T := fun _ => True) (by rw [List.getElem?_toArray]; exact hi) (Region.noSelect_spec hs) hQ (.inl fun _ => trivial) n done a w (.inl ⟨fun _ => trivial, by simpa using hiL⟩) (Region.free_spec (by rw [List.getElem?_toArray]; exact hi) hf) (by simpa using hr) hy trivial (fun _ => ⟨by simpa using hiL, hS⟩) h
/-- The same where something from L on has come up. -/
theorem AnyS_free {i : Nat} {oi : Oper} {v : Value} {n : Nat} {done : Array Bool} {a : Act} {w : World} (hi : l[i]? = some oi) (hN : noneB L done = false)
    (hs : Region.noSelect l.toArray = true) (hf : Region.free md l.toArray done i = true) (hr : (Region.ready md l.toArray done).contains i = true)
    (hQ : ∀ c a w, Q (.panic c) (a.put oi.dst v) w → Q (.panic c) a w) (hy : YieldsIf P l.toArray (fun _ => True) oi v a)
    (h : AnyS P md l.toArray Q S L n (done.setIfInBounds i true) (a.put oi.dst v) w) : AnyS P md l.toArray Q S L (n + 1) done a w :=
  AnyS_first (T := fun _ => True) (by rw [List.getElem?_toArray]; exact hi) (Region.noSelect_spec hs) hQ (.inl fun _ => trivial) n done a w (.inr (.inl ⟨fun _ => trivial, NoneP.not hN⟩)) (Region.free_spec (by rw [List.getElem?_toArray]; exact hi) hf) (by simpa using hr) hy trivial (fun h => absurd h (NoneP.not hN)) h
/-- The step of an operation that comes up; behind it S. -/
def StepS (P : Program) (md : Region.Mode) (ops : Array Oper) (Q : Exit → Act → World → Prop) (S : World → Prop) (L n : Nat) (done : Array Bool) (oi : Oper) (i : Nat) (a : Act) (w : World) : Prop :=
  ∀ K : Act → World → Prop, Hid (∀ a' w', S w' → (S w' → AnyS P md ops Q S L n (done.setIfInBounds i true) a' w') → K a' w') → Oper.wp P oi a w K Q
/-- The step of one from L on. -/
def StepT (P : Program) (md : Region.Mode) (ops : Array Oper) (Q : Exit → Act → World → Prop) (S : World → Prop) (L n : Nat) (done : Array Bool) (oi : Oper) (i : Nat) (a : Act) (w : World) : Prop :=
  ∀ K : Act → World → Prop, Hid (∀ a' w', AnyS P md ops Q S L n (done.setIfInBounds i true) a' w' → K a' w') → Oper.wp P oi a w K Q
/-- One operation may come up, i. -/
theorem AnyS_step {i : Nat} {oi : Oper} {n : Nat} {done : Array Bool} {a : Act} {w : World} (hi : l[i]? = some oi) (hr : Region.ready md l.toArray done = [i]) (hg : oi.guard = none)
    (h : StepS P md l.toArray Q S L n done oi i a w) : AnyS P md l.toArray Q S L (n + 1) done a w := by
  refine ⟨fun h0 => (by rw [hr] at h0; cases h0), fun j hj => ?_⟩
  rw [hr, List.mem_singleton] at hj
  subst hj
  unfold wpOp
  rw [List.getElem?_toArray, hi]
  have hw : Region.wanted oi (yielded l.toArray a.tmps) = true := by simp [Region.wanted, hg]
  simp only [hw, if_true]
  exact .inl (h _ (Lib.hid fun _ _ h1 h2 => ⟨fun _ => h1, h2 h1⟩))
theorem AnyS_stepT {i : Nat} {oi : Oper} {n : Nat} {done : Array Bool} {a : Act} {w : World} (hi : l[i]? = some oi) (hN : noneB L (done.setIfInBounds i true) = false) (hr : Region.ready md l.toArray done = [i]) (hg : oi.guard = none)
    (h : StepT P md l.toArray Q S L n done oi i a w) : AnyS P md l.toArray Q S L (n + 1) done a w := by
  refine ⟨fun h0 => (by rw [hr] at h0; cases h0), fun j hj => ?_⟩
  rw [hr, List.mem_singleton] at hj
  subst hj
  unfold wpOp
  rw [List.getElem?_toArray, hi]
  have hw : Region.wanted oi (yielded l.toArray a.tmps) = true := by simp [Region.wanted, hg]
  simp only [hw, if_true]
  exact .inl (h _ (Lib.hid fun _ _ h1 => ⟨fun h => absurd h (NoneP.not hN), h1⟩))
/-- Two operations may come up, i and j. -/
theorem AnyS_two {i j : Nat} {oi oj : Oper} {n : Nat} {done : Array Bool} {a : Act} {w : World} (hi : l[i]? = some oi) (hj : l[j]? = some oj) (hr : Region.ready md l.toArray done = [i, j]) (hg : oi.guard = none) (hg2 : oj.guard = none)
    (h : StepS P md l.toArray Q S L n done oi i a w) (h2 : StepS P md l.toArray Q S L n done oj j a w) : AnyS P md l.toArray Q S L (n + 1) done a w := by
  refine ⟨fun h0 => (by rw [hr] at h0; cases h0), fun k hk => ?_⟩
  rw [hr] at hk
  have hw : Region.wanted oi (yielded l.toArray a.tmps) = true := by simp [Region.wanted, hg]
  have hw2 : Region.wanted oj (yielded l.toArray a.tmps) = true := by simp [Region.wanted, hg2]
  simp only [List.mem_cons, List.not_mem_nil, or_false] at hk
  unfold wpOp
  rw [List.getElem?_toArray]
  rcases hk with rfl | rfl
  · rw [hi]
    simp only [hw, if_true]
    exact .inl (h _ (Lib.hid fun _ _ h1 h2 => ⟨fun _ => h1, h2 h1⟩))
  · rw [hj]
    simp only [hw2, if_true]
    exact .inl (h2 _ (Lib.hid fun _ _ h1 h2 => ⟨fun _ => h1, h2 h1⟩))
theorem AnyS_done {ops : Array Oper} {done : Array Bool} {a : Act} {w : World} (hr : Region.ready md ops done = []) (h : Q .normal a w) : ∀ n, AnyS P md ops Q S L n done a w
  | 0 => ⟨hr, h⟩
  | _ + 1 => ⟨fun _ => h, by rw [hr]; simp⟩
/-- The beginning. -/
theorem wp_region_S (S : World → Prop) (L : Nat) {id : Nat} {a : Act} {w : World} (hm : P.follows .mixedOrders = true) (hS : S w.drew) (h : S w.drew → AnyS P .any ops (NoPanic Q) S L ops.size (Array.replicate ops.size false) a w.drew) : (Code.region id ops true).wp P Q a w :=
  wp_region_noPanic (wp_region_any hm (AnyS.any _ _ _ _ (h hS)))
end
end Go.Proofs.YthmfifcogokpoaaDoor
