/- What is proved here: contracts of the program's functions and plain lemmas that the claim's last text uses, in parts: package unpack: a block that is read; its numbers; package unpack: the strings of a block; package unpack: at, literal; package unpack: literal. -/
import Derived.Test.YthmfifcogokpoaaDoorM11
import Derived.Test.YthmfifcogokpoaaDoorM10
import Derived.Laws.BytesString
import Derived.Lib.BufferRead
import Derived.Test.YthmfifcogokpoaaDoorM04
import Derived.Test.YthmfifcogokpoaaDoorM09
set_option linter.unusedVariables false
set_option linter.unusedSimpArgs false
namespace Go.Proofs.YthmfifcogokpoaaDoor
open Go.RowKit

theorem fold_push (l : List UInt8) : ∀ acc : ByteArray, ((l.map fun b => (b.toNat : Int)).foldl (fun r n => r.push (UInt8.ofNat n.toNat)) acc) = ⟨(acc.data.toList ++ l).toArray⟩ := by
  induction l with
  | nil => intro acc; apply ByteArray.ext; simp
  | cons b l ih =>
    intro acc
    rw [List.map_cons, List.foldl_cons, ih]
    apply ByteArray.ext
    simp
/-- 'string(b)'. -/
theorem run_str {w : World} {A : Option Addr} {c : Nat} {l : List UInt8} (h : Rd w 1 A l.length c (bys l)) :
    (convert 26 9 (.slice A l.length c)).run Tryd.prog w = .ok (.string ⟨l.toArray⟩) w := by
  cases A with
  | none =>
    have h0 := h.nil rfl
    subst h0
    have hl : l.length = 0 := by have := h.le; omega
    have hl0 : l = [] := List.eq_nil_of_length_eq_zero hl
    subst hl0
    exact Lib.run_convert_nil_bytes w _ _ _ 0 Tryd.underlying26 Tryd.underlying5 Tryd.underlying9
  | some ad =>
    rw [run_convert_bytes_string w _ _ _ _ _ _ Tryd.underlying26 Tryd.underlying5 Tryd.underlying9]
    have h1 := run_firstCells_some (P := Tryd.prog) w 1 l.length ad l.length c (bys l) h.len (fun j v hv => (h.at_ ad rfl).2 j v hv)
    simp only [Builtin.firstCells, Nat.mul_one] at h1
    have h2 := run_bytesToString (P := Tryd.prog) w ad l.length c (l.map fun b => (b.toNat : Int)) (by rw [h1]; congr 1; congr 1; simp [bys]; intro a _; rfl)
    rw [h2, fold_push]
    simp

theorem getLoop_ok : ∀ (fuel : Nat) (l : List UInt8) (n k : Nat), k ≤ l.length → (getLoop fuel l n k).2.2 = 0 → 0 ≤ (getLoop fuel l n k).1 ∧ (getLoop fuel l n k).1 ≤ 2147483647 ∧ (k : Int) ≤ (getLoop fuel l n k).2.1 ∧ (getLoop fuel l n k).2.1 ≤ l.length
  | 0, l, n, k, _, h => by simp [getLoop] at h
  | fuel + 1, l, n, k, hk, h => by
    simp only [getLoop] at h ⊢
    by_cases h1 : k = l.length
    · rw [if_pos h1] at h; simp at h
    · rw [if_neg h1] at h ⊢
      by_cases h2 : 2147483647 < n + (l.getD k 0).toNat % 128 * 2 ^ (7 * (k - 1)) ∨ k + 1 = 6 ∧ 128 ≤ (l.getD k 0).toNat
      · rw [if_pos h2] at h; simp at h
      · rw [if_neg h2] at h ⊢
        by_cases h3 : 128 ≤ (l.getD k 0).toNat
        · rw [if_pos h3] at h ⊢
          have := getLoop_ok fuel l _ (k + 1) (by omega) h
          omega
        · rw [if_neg h3] at h ⊢
          simp only
          omega
theorem getS_ok (l : List UInt8) (bits : Nat) (h : (getS l bits).2.2 = 0) : 0 ≤ (getS l bits).1 ∧ (getS l bits).1 ≤ 2147483647 ∧ 1 ≤ (getS l bits).2.1 ∧ (getS l bits).2.1 ≤ l.length := by
  unfold getS at h ⊢
  by_cases h1 : l.length = 0
  · rw [if_pos h1] at h; simp at h
  · rw [if_neg h1] at h ⊢
    simp only at h ⊢
    by_cases h2 : (l.getD 0 0).toNat % 2 ^ bits < 2 ^ bits - 1
    · rw [if_pos h2] at h ⊢
      have hx := (l.getD 0 0).toNat_lt
      have := Nat.mod_le (l.getD 0 0).toNat (2 ^ bits)
      simp only
      omega
    · rw [if_neg h2] at h ⊢
      have := getLoop_ok 5 l _ 1 (by omega) h
      omega

/-- A block that is read: the bytes that are left, the room, the total, the fields. -/
def KAt (w : World) (kb tb : Nat) (l : List UInt8) (room total : Int) (fs : List FieldS) (S : Own) : Prop :=
  ∃ A c A2 c2 S1 S2, Blk w kb 123 [.slice A l.length c, .pointer (some ⟨tb, 0, none⟩), .int .i64 room, .int .i64 total, .slice A2 fs.length c2] ∧ Row 5 1 A l.length c (bys l) S1 w ∧ Row 109 3 A2 fs.length c2 (fieldCells fs) S2 w ∧ ¬ S1 kb ∧ ¬ S2 kb ∧ Apart S1 S2 ∧ ∀ k, S k ↔ k = kb ∨ S1 k ∨ S2 k
theorem KAt.loc {w w' : World} {kb tb : Nat} {l : List UInt8} {room total : Int} {fs : List FieldS} {S : Own} (h : KAt w kb tb l room total fs S) (hk : ∀ k, S k → w'.heap[k]? = w.heap[k]?) : KAt w' kb tb l room total fs S := by
  obtain ⟨A, c, A2, c2, S1, S2, h1, h2, h3, h4, h5, h6, h7⟩ := h
  exact ⟨A, c, A2, c2, S1, S2, h1.keep (hk kb ((h7 kb).2 (.inl rfl))), h2.loc fun k hs => hk k ((h7 k).2 (.inr (.inl hs))), h3.loc fun k hs => hk k ((h7 k).2 (.inr (.inr hs))), h4, h5, h6, h7⟩
theorem KAt.lt {w : World} {kb tb : Nat} {l : List UInt8} {room total : Int} {fs : List FieldS} {S : Own} (h : KAt w kb tb l room total fs S) : ∀ k, S k → k < w.heap.size := by
  obtain ⟨A, c, A2, c2, S1, S2, h1, h2, h3, h4, h5, h6, h7⟩ := h
  intro k hk
  rcases (h7 k).1 hk with rfl | h8 | h8
  · exact h1.lt
  · exact h2.lt k h8
  · exact h3.lt k h8
theorem KAt.base {w : World} {kb tb : Nat} {l : List UInt8} {room total : Int} {fs : List FieldS} {S : Own} (h : KAt w kb tb l room total fs S) : S kb := by
  obtain ⟨A, c, A2, c2, S1, S2, h1, h2, h3, h4, h5, h6, h7⟩ := h
  exact (h7 kb).2 (.inl rfl)

def numS (l : List UInt8) (bits : Nat) : Option (Nat × List UInt8) := if (getS l bits).2.2 = 0 then some ((getS l bits).1.toNat, l.drop (getS l bits).2.1.toNat) else none
def NumQ (r : Option (Nat × List UInt8)) (kb tb : Nat) (room total : Int) (fs : List FieldS) (S : Own) (w : World) (e : Ending) (w' : World) : Prop :=
  match r with
  | some (n, l) => e = .returned (.tuple #[.int .i64 n, .bool true]) ∧ KAt w' kb tb l room total fs S ∧ Upd S S w w'
  | none => e = .returned (.tuple #[.int .i64 0, .bool false]) ∧ w' = w

set_option maxRecDepth 100000 in
set_option maxHeartbeats 1000000 in
theorem number_any (kb tb : Nat) (l : List UInt8) (room total : Int) (fs : List FieldS) (S : Own) (w : World) (h : KAt w kb tb l room total fs S) (bits : Nat) (hb : 1 ≤ bits ∧ bits ≤ 8) :
    Calls Tryd.prog 69 #[.pointer (some ⟨kb, 0, none⟩), .int .i64 bits] w (NumQ (numS l bits) kb tb room total fs S w) := by
  obtain ⟨A, c, A2, c2, S1, S2, h1, h2, h3, h4, h5, h6, h7⟩ := h
  have e0 := h1.cell 0
  have f0 := h1.frozen 0
  simp only [List.getElem?_cons_zero] at e0
  have hlt := h1.lt
  have HC := Lib.hid (get_any l A c w bits hb h2.rd)
  unfold numS
  by_cases hz : (getS l bits).2.2 = 0
  · rw [if_pos hz]
    obtain ⟨g1, g2, g3, g4⟩ := getS_ok l bits hz
    obtain ⟨n, hn⟩ := Int.eq_ofNat_of_zero_le g1
    obtain ⟨k, hk⟩ := Int.eq_ofNat_of_zero_le (show 0 ≤ (getS l bits).2.1 by omega)
    rw [hz, hn, hk] at HC
    rw [hn, hk, Int.toNat_natCast, Int.toNat_natCast]
    rw [hk] at g3 g4
    obtain ⟨Ac, kc, hsc, hrc⟩ := Row.cut h2 k (by omega)
    have H1 := Lib.hid h1
    have H3 := Lib.hid h3
    have HRC := Lib.hid hrc
    have H4 := Lib.hid h4
    have H5 := Lib.hid h5
    have H6 := Lib.hid h6
    have H7 := Lib.hid h7
    generalize hr : l.drop k = r at *
    clear h1 h2 h3 h4 h5 h6 h7 hrc hz hn hk g1 g2 hr
    go_enter Tryd.func69, Tryd.ntmps69
    go_wp2_with (go_at_call 74; refine HC.out.mono ?_; rintro e w' ⟨rfl, rfl⟩)
    go_ret2
    refine ⟨rfl, ⟨Ac, kc, A2, c2, S1, S2, H1.out.set 0 _, ?_, ?_, H4.out, H5.out, H6.out, H7.out⟩, ?_⟩
    · exact HRC.out.loc fun j hj => heap_set_other _ (fun h => H4.out (by rw [← show j = kb from h]; exact hj))
    · exact H3.out.loc fun j hj => heap_set_other _ (fun h => H5.out (by rw [← show j = kb from h]; exact hj))
    · exact (Upd.refl S w).setCell (p := ⟨kb, 0, none⟩) (.inl ((H7.out kb).2 (.inl rfl))) _
  · rw [if_neg hz]
    have tz : ((getS l bits).2.2 != 0) = true := bne_iff_ne.2 hz
    clear h1 h2 h3 h4 h5 h6 h7 hz
    go_enter Tryd.func69, Tryd.ntmps69
    go_wp2_with (go_at_call 74; refine HC.out.mono ?_; rintro e w' ⟨rfl, rfl⟩)
    go_ret2
    exact ⟨rfl, rfl⟩
end Go.Proofs.YthmfifcogokpoaaDoor
namespace Go.Proofs.YthmfifcogokpoaaDoor
open Go.RowKit

theorem and128 (x : Nat) (h : x < 256) : bits .and .u8 (x : Int) 128 = ((x / 128 * 128 : Nat) : Int) := by
  have : ∀ x : Fin 256, bits .and .u8 ((x.val : Nat) : Int) 128 = ((x.val / 128 * 128 : Nat) : Int) := by decide +kernel
  exact this ⟨x, h⟩
def codedB (l : List UInt8) : Bool := decide (0 < l.length) && decide (128 ≤ (l.getD 0 0).toNat)
def textS (l : List UInt8) : Option (ByteArray × List UInt8) :=
  match numS l 7 with
  | none => none
  | some (n, r) =>
    if 16384 < n ∨ r.length < n then none
    else if codedB l then (if (hdec (r.take n) 16384).2 = 0 then some (⟨(hdec (r.take n) 16384).1.toArray⟩, r.drop n) else none)
    else some (⟨(r.take n).toArray⟩, r.drop n)
def TextQ (r : Option (ByteArray × List UInt8)) (kb tb : Nat) (room total : Int) (fs : List FieldS) (S : Own) (w : World) (e : Ending) (w' : World) : Prop :=
  match r with
  | some (s, l) => e = .returned (.tuple #[.string s, .bool true]) ∧ KAt w' kb tb l room total fs S ∧ Upd S S w w'
  | none => e = .returned (.tuple #[.string ⟨#[]⟩, .bool false]) ∧ Upd S S w w'

theorem numS_len (l r : List UInt8) (bits n : Nat) (h : numS l bits = some (n, r)) : r.length < l.length ∧ n ≤ 2147483647 := by
  unfold numS at h
  by_cases hz : (getS l bits).2.2 = 0
  · rw [if_pos hz] at h
    obtain ⟨g1, g2, g3, g4⟩ := getS_ok l bits hz
    simp only [Option.some.injEq, Prod.mk.injEq] at h
    obtain ⟨h1, h2⟩ := h
    rw [← h2, List.length_drop]
    omega
  · rw [if_neg hz] at h; cases h

theorem Row.upto {w : World} {S : Own} {A : Option Addr} {c : Nat} {l : List UInt8} (h : Row 5 1 A l.length c (bys l) S w) (k : Nat) (hk : k ≤ l.length) :
    ∃ A1 c1, (∀ W, (Instr.slice 26 (.slice A l.length c) none (some (.int .i64 k)) none).run Tryd.prog W = .ok (.slice A1 (l.take k).length c1) W) ∧ Row 5 1 A1 (l.take k).length c1 (bys (l.take k)) S w := by
  have hd := h.take (k := k) hk
  have hx : (bys l).take (k * 1) = bys (l.take k) := by simp [bys, List.map_take]
  have hl : (l.take k).length = k := by rw [List.length_take]; omega
  have hle := h.rd.le
  have hat := h.rd.at_
  rw [hx] at hd
  rw [hl]
  refine ⟨A, c, fun W => ?_, hd⟩
  rw [run_slice_h W _ A _ _ elemBytes .i64 k (by omega) (by omega)]
  simp only [Int.toNat_natCast]
  have hs : (sizeOf (Tryd.prog.elem 26)).run Tryd.prog W = .ok 1 W := by kernel_rfl
  rw [hs]
  simp only [Result.andThen, sliced, Nat.zero_mul, Nat.sub_zero]
  cases A with
  | none => simp
  | some a =>
    have : a.add 0 = a := by unfold Addr.add; simp
    simp [this]

noncomputable def textBody : Code := Tryd.f73.body.getD .skip

set_option maxRecDepth 100000 in
set_option maxHeartbeats 1000000 in
/-- Behind the number: world W. -/
theorem text_tail (kb tb : Nat) (r : List UInt8) (room total : Int) (fs : List FieldS) (S : Own) (w W : World) (hk : KAt W kb tb r room total fs S) (hu : Upd S S w W) (n : Nat) (hnr : n ≤ r.length) (hn : n ≤ 16384) (q : Bool) (u1 u6 u7 u8 u9 u10 u11 u12 u13 u14 u15 u16 u17 u18 u19 u20 u21 u22 u23 u24 u25 u26 u27 u28 u29 u30 u31 u32 u33 u34 u35 u36 u37 u38 u39 u40 u41 u42 u43 u44 u45 u46 u47 u48 u49 u50 u51 u52 u53 u54 u55 u56 u57 u58 u59 u60 u61 u62 u63 u64 u65 u66 u67 u68 u69 u70 u71 : Value) :
    tailW Tryd.prog 4 textBody (bodyPost Tryd.prog Tryd.f73 (TextQ (if q then (if (hdec (r.take n) 16384).2 = 0 then some (⟨(hdec (r.take n) 16384).1.toArray⟩, r.drop n) else none) else some (⟨(r.take n).toArray⟩, r.drop n)) kb tb room total fs S w))
      ⟨#[.pointer (some ⟨kb, 0, none⟩), u1, .string ⟨#[]⟩, .bool false, .bool q, .int .i64 n, u6, u7, u8, u9, u10, u11, u12, u13, u14, u15, u16, u17, u18, u19, u20, u21, u22, u23, u24, u25, u26, u27, u28, u29, u30, u31, u32, u33, u34, u35, u36, u37, u38, u39, u40, u41, u42, u43, u44, u45, u46, u47, u48, u49, u50, u51, u52, u53, u54, u55, u56, u57, u58, u59, u60, u61, u62, u63, u64, u65, u66, u67, u68, u69, u70, u71], []⟩ W := by
  have hkb := hk.base
  obtain ⟨A3, c3, A4, c4, S3, S4, g1, g2, g3, g4, g5, g6, g7⟩ := hk
  have e0 := g1.cell 0
  have f0 := g1.frozen 0
  simp only [List.getElem?_cons_zero] at e0
  have hlt := g1.lt
  obtain ⟨As, cs, hs1, hrs⟩ := Row.upto g2 n hnr
  obtain ⟨Ac, kc, hs2, hrc⟩ := Row.cut g2 n hnr
  have hl : (r.take n).length ≤ 1000000000000 := by rw [List.length_take]; omega
  have hle := g2.rd.le
  have hcap2 := g2.rd.cap
  simp only [maxLen] at hcap2
  have HRS := Lib.hid (show ∀ v, Row 5 1 As (r.take n).length cs (bys (r.take n)) S3 (W.setCell ⟨kb, 0, none⟩ v) from fun v => hrs.loc fun j hj => heap_set_other _ (fun h => g4 (by rw [← show j = kb from h]; exact hj)))
  have HK := Lib.hid (show KAt (W.setCell ⟨kb, 0, none⟩ (.slice Ac (r.drop n).length kc)) kb tb (r.drop n) room total fs S from
    ⟨Ac, kc, A4, c4, S3, S4, g1.set 0 _, hrc.loc fun j hj => heap_set_other _ (fun h => g4 (by rw [← show j = kb from h]; exact hj)), g3.loc fun j hj => heap_set_other _ (fun h => g5 (by rw [← show j = kb from h]; exact hj)), g4, g5, g6, g7⟩)
  have HU := Lib.hid (show ∀ v, Upd S S w (W.setCell ⟨kb, 0, none⟩ v) from fun v => hu.setCell (p := ⟨kb, 0, none⟩) (.inl hkb) _)
  have hdr : (r.drop n).length ≤ r.length := by rw [List.length_drop]; omega
  generalize r.take n = s at *
  generalize r.drop n = d at *
  have hconv := run_str (HRS.out (.slice Ac d.length kc)).rd
  have HDEC := Lib.hid (huffDecode_any s As cs 16384 _ hl (HRS.out (.slice Ac d.length kc)).rd)
  clear g1 g2 g3 g4 g5 g6 g7 hrs hrc hu hdr
  cases q with
  | false =>
    simp only [Bool.false_eq_true, if_false]
    show Code.wp _ _ _ _ _
    go_wp2
    go_ret2
    exact ⟨rfl, HK.out, HU.out _⟩
  | true =>
    simp only [if_true]
    by_cases hz : (hdec s 16384).2 = 0
    · rw [if_pos hz]
      have tz : ((hdec s 16384).2 != 0) = false := by rw [hz]; rfl
      generalize hdec s 16384 = h at *
      clear hz hconv
      show Code.wp _ _ _ _ _
      go_wp2_with (go_at_call 77; refine HDEC.out.mono ?_; rintro e w3 ⟨Ah, ch, Sh, rfl, hrow, hu⟩; have hconv := run_str hrow.rd; have HU3 := Lib.hid hu; clear hu hrow)
      go_ret2
      refine ⟨rfl, HK.out.loc (fun k hk => HU3.out.block k (HK.out.lt k hk) (fun h => h)), (HU.out _).trans ((HU3.out.wider (R := S) (fun k h => h.elim)).holds (fun k hk => .inl hk))⟩
    · rw [if_neg hz]
      have tz : ((hdec s 16384).2 != 0) = true := bne_iff_ne.2 hz
      generalize hdec s 16384 = h at *
      clear hz hconv
      show Code.wp _ _ _ _ _
      go_wp2_with (go_at_call 77; refine HDEC.out.mono ?_; rintro e w3 ⟨Ah, ch, Sh, rfl, hrow, hu⟩; have HU3 := Lib.hid hu; clear hu hrow)
      go_ret2
      exact ⟨rfl, (HU.out _).trans ((HU3.out.wider (R := S) (fun k h => h.elim)).holds (fun k hk => .inl hk))⟩

set_option maxRecDepth 100000 in
set_option maxHeartbeats 1000000 in
theorem text_any (kb tb : Nat) (l : List UInt8) (room total : Int) (fs : List FieldS) (S : Own) (w : World) (h : KAt w kb tb l room total fs S) (hl : l.length ≤ 1000000000) :
    Calls Tryd.prog 73 #[.pointer (some ⟨kb, 0, none⟩)] w (TextQ (textS l) kb tb room total fs S w) := by
  have H := Lib.hid h
  have HN := Lib.hid (number_any kb tb l room total fs S w h 7 ⟨by omega, by omega⟩)
  obtain ⟨A, c, A2, c2, S1, S2, h1, h2, h3, h4, h5, h6, h7⟩ := h
  have e0 := h1.cell 0
  simp only [List.getElem?_cons_zero] at e0
  have hco : ∃ q : Bool, codedB l = q := ⟨_, rfl⟩
  obtain ⟨q, hq⟩ := hco
  -- the first byte
  have HB : Hid (0 < l.length → ∃ ab ao x, A = some ⟨ab, ao, none⟩ ∧ w.cell? ⟨ab, ao, none⟩ = some (.int .u8 (x : Nat)) ∧ x < 256 ∧ decide (0 < x / 128 * 128) = q) := Lib.hid <| fun h0 => by
    obtain ⟨ab, ao, hA, hcell⟩ := h2.rd.form h0
    have hc0 := hcell 0 _ (bys_get l 0 h0)
    refine ⟨ab, ao, (l.getD 0 0).toNat, hA, ?_, (l.getD 0 0).toNat_lt, ?_⟩
    · rw [Nat.add_zero] at hc0
      rw [hc0, getD_zero l h0]
      rfl
    · rw [← hq]
      unfold codedB
      rw [decide_eq_true h0, Bool.true_and, decide_eq_decide]
      omega
  have HQ := Lib.hid hq
  clear h1 h2 h3 h4 h5 h6 h7 hq
  unfold textS
  rw [HQ.out]
  cases hn : numS l 7 with
  | none =>
    rw [hn] at HN
    by_cases h0 : 0 < l.length
    · obtain ⟨ab, ao, x, rfl, hx, hx2, hxq⟩ := HB.out h0
      have ha := and128 x hx2
      have HXQ := Lib.hid hxq
      have j1 : decide (0 < l.length) = true := decide_eq_true h0
      have j0 : (0 : Int) < (l.length : Int) := by omega
      clear hn HB hxq
      go_enter Tryd.func73, Tryd.ntmps73
      go_wp2_with (go_at_call 69; refine HN.out.mono ?_; rintro e w' ⟨rfl, rfl⟩)
      go_ret2
      exact ⟨rfl, Upd.refl _ _⟩
    · have j1 : decide (0 < l.length) = false := decide_eq_false h0
      clear hn HB h0
      go_enter Tryd.func73, Tryd.ntmps73
      go_wp2_with (go_at_call 69; refine HN.out.mono ?_; rintro e w' ⟨rfl, rfl⟩)
      go_ret2
      exact ⟨rfl, Upd.refl _ _⟩
  | some p =>
    obtain ⟨n, r⟩ := p
    obtain ⟨hrl, hnb⟩ := numS_len l r 7 n hn
    have h0 : 0 < l.length := by omega
    rw [hn] at HN
    obtain ⟨ab, ao, x, rfl, hx, hx2, hxq⟩ := HB.out h0
    have ha := and128 x hx2
    have HXQ := Lib.hid hxq
    have j1 : decide (0 < l.length) = true := decide_eq_true h0
    have j0 : (0 : Int) < (l.length : Int) := by omega
    clear hn HB
    simp only
    by_cases hbad : 16384 < n ∨ r.length < n
    · rw [if_pos hbad]
      have HBD := Lib.hid hbad
      clear hbad
      by_cases hb1 : 16384 < n
      · have t1 : decide ((16384 : Int) < (n : Int)) = true := decide_eq_true (by omega)
        have t2 : decide (16384 < n) = true := decide_eq_true hb1
        clear hxq hb1
        go_enter Tryd.func73, Tryd.ntmps73
        go_wp2_with (go_at_call 69; refine HN.out.mono ?_; rintro e w' ⟨rfl, -, hu⟩; have HU := Lib.hid hu; clear hu)
        go_ret2
        exact ⟨rfl, HU.out⟩
      · have t1 : decide ((16384 : Int) < (n : Int)) = false := decide_eq_false (by omega)
        have t2 : decide (16384 < n) = false := decide_eq_false hb1
        have hb2 : r.length < n := by rcases HBD.out with h | h; exact absurd h hb1; exact h
        have t3 : decide (r.length < n) = true := decide_eq_true hb2
        have t4 : decide ((r.length : Int) < (n : Int)) = true := decide_eq_true (by omega)
        clear hxq hb1 hb2
        go_enter Tryd.func73, Tryd.ntmps73
        go_wp2_with (go_at_call 69; refine HN.out.mono ?_; rintro e w' ⟨rfl, hk, hu⟩; obtain ⟨A3, c3, A4, c4, S3, S4, g1, g2, g3, g4, g5, g6, g7⟩ := hk; have e3 := g1.cell 0; simp only [List.getElem?_cons_zero] at e3; have HU := Lib.hid hu; clear hu g1 g2 g3 g4 g5 g6 g7)
        go_ret2
        exact ⟨rfl, HU.out⟩
    · rw [if_neg hbad]
      have t1 : decide ((16384 : Int) < (n : Int)) = false := decide_eq_false (by omega)
      have t2 : decide (16384 < n) = false := decide_eq_false (by omega)
      have t3 : decide (r.length < n) = false := decide_eq_false (by omega)
      have t4 : decide ((r.length : Int) < (n : Int)) = false := decide_eq_false (by omega)
      have hnr : n ≤ r.length := by omega
      have hnb2 : n ≤ 16384 := by omega
      clear hbad hnb
      have HT := Lib.hid (fun W hk hu => text_tail kb tb r room total fs S w W hk hu n hnr hnb2 q)
      generalize (if q = true then (if (hdec (r.take n) 16384).2 = 0 then some ((⟨(hdec (r.take n) 16384).1.toArray⟩ : ByteArray), r.drop n) else none) else some (⟨(r.take n).toArray⟩, r.drop n)) = res at *
      generalize x / 128 * 128 = y at *
      go_enter Tryd.func73, Tryd.ntmps73
      refine wp_cut_as textBody (by kernel_rfl) 4 ?_
      show Code.wp _ _ _ _ _
      go_wp2
      show Code.wp _ _ _ _ _
      go_wp2
      show Code.wp _ _ _ _ _
      go_wp2_with (go_at_call 69; refine HN.out.mono ?_; rintro e w' ⟨rfl, hk, hu⟩; have HK := Lib.hid hk; obtain ⟨A3, c3, A4, c4, S3, S4, g1, g2, g3, g4, g5, g6, g7⟩ := hk; have e3 := g1.cell 0; simp only [List.getElem?_cons_zero] at e3; have HU := Lib.hid hu; clear hu g1 g2 g3 g4 g5 g6 g7)
      show Code.wp _ _ _ _ _
      go_wp2
      show tailW _ _ _ _ _ _
      exact HT.out _ HK.out HU.out _ _ _ _ _ _ _ _ _ _ _ _ _ _ _ _ _ _ _ _ _ _ _ _ _ _ _ _ _ _ _ _ _ _ _ _ _ _ _ _ _ _ _ _ _ _ _ _ _ _ _ _ _ _ _ _ _ _ _ _ _ _ _ _ _ _ _
end Go.Proofs.YthmfifcogokpoaaDoor
namespace Go.Proofs.YthmfifcogokpoaaDoor
open Go.RowKit

noncomputable def atS (tab : List FieldS) (n : Nat) : FieldS × Bool := if n ≤ 61 then statGet n else dynGet tab ((n : Int) - 61)

set_option maxRecDepth 100000 in
set_option maxHeartbeats 1000000 in
theorem at_any (kb tb : Nat) (l : List UInt8) (room total : Int) (fs : List FieldS) (S : Own) (w : World) (h : KAt w kb tb l room total fs S) (tab : List FieldS) (most : Int) (St : Own) (ht : TableAt w tb tab most St) (hg : GlobOk w) (n : Nat) (hn : n ≤ 2147483647) :
    Calls Tryd.prog 70 #[.pointer (some ⟨kb, 0, none⟩), .int .i64 n] w fun e w' => e = .returned (.tuple #[(atS tab n).1.v, .bool (atS tab n).2]) ∧ Below w.heap.size w w' := by
  have hp := hg.pos
  have HG := Lib.hid (fun (o : Obj) => hg.below ((Below.refl w.heap.size w).alloc (Nat.le_refl _) o) hp)
  obtain ⟨A, c, A2, c2, S1, S2, h1, h2, h3, h4, h5, h6, h7⟩ := h
  have e1 := h1.cell 1
  simp only [List.getElem?_cons_succ, List.getElem?_cons_zero] at e1
  have hlt := h1.lt
  have hlt1 : kb < w.heap.size + 1 := by omega
  unfold atS
  have RB := fun (o : Obj) => Blk.new w 109 [.string ⟨#[]⟩, .string ⟨#[]⟩, .bool false]
  by_cases h61 : n ≤ 61
  · rw [if_pos h61]
    have HC := Lib.hid (fun o => statGet_any n (w.alloc o) (HG.out o))
    have t1 : (n : Int) ≤ 61 := by omega
    unfold FieldS.v at HC ⊢
    generalize statGet n = r at *
    clear h1 h2 h3 h4 h5 h6 h7 ht h61 hg RB
    go_enter Tryd.func70, Tryd.ntmps70
    go_wp2_with (go_at_call 75; refine (HC.out _).mono ?_; rintro e w' ⟨rfl, hb⟩; obtain ⟨hc1, hf1⟩ := bcell hb; have hz := hb.size; replace hb : Below w.heap.size w w' := bcall hb (by (focus repeat' (first | (with_reducible exact Below.refl _ _) | (with_reducible assumption) | (with_reducible refine Below.alloc ?_ ?_ _) | (with_reducible refine Below.drew ?_) | (with_reducible refine below_drewN ?_ _) | (with_reducible refine Below.setCell ?_ ?_ _) | (with_reducible refine Below.frame ?_ _) | go_size))))
    have RB := Blk.new w 109 [.string ⟨#[]⟩, .string ⟨#[]⟩, .bool false]
    have r0 := (hc1 w.heap.size 0 (by simp)).trans (RB.cell 0)
    have r1 := (hc1 w.heap.size 1 (by simp)).trans (RB.cell 1)
    have r2 := (hc1 w.heap.size 2 (by simp)).trans (RB.cell 2)
    simp only [List.getElem?_cons_succ, List.getElem?_cons_zero] at r0 r1 r2
    exact bodyPost_ret (v := .tuple #[.agg #[.string r.1.name, .string r.1.value, .bool r.1.never], .bool r.2]) (by (simp [results, Tryd.results70, go_sem, r0, r1, r2]; try omega)) rfl ⟨rfl, by (focus repeat' (first | (with_reducible exact Below.refl _ _) | (with_reducible assumption) | (with_reducible refine Below.alloc ?_ ?_ _) | (with_reducible refine Below.drew ?_) | (with_reducible refine below_drewN ?_ _) | (with_reducible refine Below.setCell ?_ ?_ _) | (with_reducible refine Below.frame ?_ _) | go_size))⟩
  · rw [if_neg h61]
    have HC := Lib.hid (fun o => dynGet_any tb tab most St (w.alloc o) (ht.loc fun k hk => Below.heap_alloc w o k (ht.lt k hk)) ((n : Int) - 61) ⟨by omega, by omega⟩)
    have t1 : ¬ (n : Int) ≤ 61 := by omega
    have t2 : (61 : Int) < (n : Int) := by omega
    unfold FieldS.v at HC ⊢
    generalize dynGet tab ((n : Int) - 61) = r at *
    clear h1 h2 h3 h4 h5 h6 h7 ht h61 hg RB
    go_enter Tryd.func70, Tryd.ntmps70
    go_wp2_with (go_at_call 76; refine (HC.out _).mono ?_; rintro e w' ⟨rfl, hb⟩; obtain ⟨hc1, hf1⟩ := bcell hb; have hz := hb.size; replace hb : Below w.heap.size w w' := bcall hb (by (focus repeat' (first | (with_reducible exact Below.refl _ _) | (with_reducible assumption) | (with_reducible refine Below.alloc ?_ ?_ _) | (with_reducible refine Below.drew ?_) | (with_reducible refine below_drewN ?_ _) | (with_reducible refine Below.setCell ?_ ?_ _) | (with_reducible refine Below.frame ?_ _) | go_size))))
    have RB := Blk.new w 109 [.string ⟨#[]⟩, .string ⟨#[]⟩, .bool false]
    have r0 := (hc1 w.heap.size 0 (by simp)).trans (RB.cell 0)
    have r1 := (hc1 w.heap.size 1 (by simp)).trans (RB.cell 1)
    have r2 := (hc1 w.heap.size 2 (by simp)).trans (RB.cell 2)
    simp only [List.getElem?_cons_succ, List.getElem?_cons_zero] at r0 r1 r2
    exact bodyPost_ret (v := .tuple #[.agg #[.string r.1.name, .string r.1.value, .bool r.1.never], .bool r.2]) (by (simp [results, Tryd.results70, go_sem, r0, r1, r2]; try omega)) rfl ⟨rfl, by (focus repeat' (first | (with_reducible exact Below.refl _ _) | (with_reducible assumption) | (with_reducible refine Below.alloc ?_ ?_ _) | (with_reducible refine Below.drew ?_) | (with_reducible refine below_drewN ?_ _) | (with_reducible refine Below.setCell ?_ ?_ _) | (with_reducible refine Below.frame ?_ _) | go_size))⟩

def LitQ (r : Option (FieldS × List UInt8)) (kb tb : Nat) (room total : Int) (fs : List FieldS) (S : Own) (w : World) (e : Ending) (w' : World) : Prop :=
  match r with
  | some (f, l) => e = .returned (.tuple #[f.v, .bool true]) ∧ KAt w' kb tb l room total fs S ∧ Upd S S w w'
  | none => (∃ f : FieldS, e = .returned (.tuple #[f.v, .bool false])) ∧ Upd S S w w'
end Go.Proofs.YthmfifcogokpoaaDoor
namespace Go.Proofs.YthmfifcogokpoaaDoor
open Go.RowKit

theorem GlobOk.upd {S S' : Own} {w w' : World} (h : GlobOk w) (hu : Upd S S' w w') (h0 : ¬ S 0) : GlobOk w' := by
  have hp := h.pos
  obtain ⟨m, h⟩ := h
  exact ⟨m, (hu.cell (a := ⟨0, 0, none⟩) hp h0).trans h⟩

noncomputable def litBody : Code := Tryd.f68.body.getD .skip

/-- Behind the name: world W. -/
structure LitM (w W : World) (kb tb : Nat) (l : List UInt8) (room total : Int) (fs : List FieldS) (S : Own) (fb : Nat) (f : FieldS) : Prop where
  k : KAt W kb tb l room total fs S
  upd : Upd S S w W
  res : Blk W w.heap.size 109 [.string ⟨#[]⟩, .string ⟨#[]⟩, .bool false]
  fld : Blk W fb 109 [.string f.name, .string f.value, .bool f.never]
  low : w.heap.size < fb
  apart : ¬ S w.heap.size ∧ ¬ S fb

set_option maxRecDepth 100000 in
set_option maxHeartbeats 1000000 in
theorem lit_tail (w W : World) (kb tb : Nat) (l : List UInt8) (room total : Int) (fs : List FieldS) (S : Own) (fb : Nat) (name val : ByteArray) (never : Bool) (hM : LitM w W kb tb l room total fs S fb ⟨name, val, never⟩) (hl : l.length ≤ 1000000000) (u1 u2 u3 u6 u9 u10 u11 u12 u13 u14 u15 u16 u17 u18 u19 u20 u21 u22 u23 u24 u25 u26 u27 u28 u29 u30 u31 u32 u33 u34 u35 u36 u37 u38 u39 u40 u41 u42 : Value) :
    tailW Tryd.prog 5 litBody (bodyPost Tryd.prog Tryd.f68 (LitQ ((textS l).map fun p => (⟨name, p.1, never⟩, p.2)) kb tb room total fs S w))
      ⟨#[.pointer (some ⟨kb, 0, none⟩), u1, u2, u3, .pointer (some ⟨w.heap.size, 0, none⟩), .bool false, u6, .bool true, .pointer (some ⟨fb, 0, none⟩), u9, u10, u11, u12, u13, u14, u15, u16, u17, u18, u19, u20, u21, u22, u23, u24, u25, u26, u27, u28, u29, u30, u31, u32, u33, u34, u35, u36, u37, u38, u39, u40, u41, u42], []⟩ W := by
  have HC := Lib.hid (text_any kb tb l room total fs S W hM.k hl)
  have HM := Lib.hid hM
  obtain ⟨hk, hu, hres, hfld, hlow, hn0, hn1⟩ := hM
  have hlr := hres.lt
  have hlf := hfld.lt
  have ne1 : ¬ fb = w.heap.size := by omega
  have ne2 : ¬ w.heap.size = fb := by omega
  clear hk hu hres hfld
  cases ht : textS l with
  | none =>
    rw [ht] at HC
    clear ht
    show Code.wp _ _ _ _ _
    go_wp2_with (go_at_call 73; refine HC.out.mono ?_; rintro e w3 ⟨rfl, hu3⟩; have hr3 := HM.out.res.upd hu3 hn0; have hf3 := HM.out.fld.upd hu3 hn1; have r0 := hr3.cell 0; have r1 := hr3.cell 1; have r2 := hr3.cell 2; have v0 := hr3.frozen 0; have v1 := hr3.frozen 1; have v2 := hr3.frozen 2; have q0 := hf3.cell 0; have q1 := hf3.cell 1; have q2 := hf3.cell 2; have z1 := hf3.frozen 1; simp only [List.getElem?_cons_succ, List.getElem?_cons_zero] at r0 r1 r2 q0 q1 q2; have HU3 := Lib.hid hu3; clear hu3 hr3 hf3)
    exact bodyPost_ret (v := .tuple #[(⟨name, ⟨#[]⟩, never⟩ : FieldS).v, .bool false]) (by (simp [results, Tryd.results68, go_sem, r0, r1, r2, ne1, ne2, FieldS.v]; try omega)) rfl ⟨⟨_, rfl⟩, by
      have h9 := HM.out.upd.trans HU3.out
      refine Upd.setCell (Upd.setCell (Upd.setCell (Upd.setCell h9 (.inr ?_) _) (.inr ?_) _) (.inr ?_) _) (.inr ?_) _ <;> simp only <;> omega⟩
  | some p =>
    obtain ⟨s, l2⟩ := p
    rw [ht] at HC
    clear ht
    show Code.wp _ _ _ _ _
    go_wp2_with (go_at_call 73; refine HC.out.mono ?_; rintro e w3 ⟨rfl, hk3, hu3⟩; have hr3 := HM.out.res.upd hu3 hn0; have hf3 := HM.out.fld.upd hu3 hn1; have r0 := hr3.cell 0; have r1 := hr3.cell 1; have r2 := hr3.cell 2; have v0 := hr3.frozen 0; have v1 := hr3.frozen 1; have v2 := hr3.frozen 2; have q0 := hf3.cell 0; have q1 := hf3.cell 1; have q2 := hf3.cell 2; have z1 := hf3.frozen 1; simp only [List.getElem?_cons_succ, List.getElem?_cons_zero] at r0 r1 r2 q0 q1 q2; have HU3 := Lib.hid hu3; have HK3 := Lib.hid hk3; clear hu3 hr3 hf3 hk3)
    exact bodyPost_ret (v := .tuple #[(⟨name, s, never⟩ : FieldS).v, .bool true]) (by (simp [results, Tryd.results68, go_sem, r0, r1, r2, ne1, ne2, FieldS.v]; try omega)) rfl ⟨rfl, HK3.out.loc (fun k hk => by
        have h1 : k ≠ fb := fun h => hn1 (h ▸ hk)
        have h2 : k ≠ w.heap.size := fun h => hn0 (h ▸ hk)
        iterate 4 (refine (heap_set_other _ (by assumption)).trans ?_)
        rfl), by
      have h9 := HM.out.upd.trans HU3.out
      refine Upd.setCell (Upd.setCell (Upd.setCell (Upd.setCell h9 (.inr ?_) _) (.inr ?_) _) (.inr ?_) _) (.inr ?_) _ <;> simp only <;> omega⟩

set_option maxRecDepth 100000 in
theorem lit_fail (w W : World) (kb tb : Nat) (room total : Int) (fs : List FieldS) (S : Own) (fb : Nat) (hu : Upd S S w W) (hres : Blk W w.heap.size 109 [.string ⟨#[]⟩, .string ⟨#[]⟩, .bool false]) (u1 u2 u3 u6 u9 u10 u11 u12 u13 u14 u15 u16 u17 u18 u19 u20 u21 u22 u23 u24 u25 u26 u27 u28 u29 u30 u31 u32 u33 u34 u35 u36 u37 u38 u39 u40 u41 u42 : Value) :
    tailW Tryd.prog 5 litBody (bodyPost Tryd.prog Tryd.f68 (LitQ none kb tb room total fs S w))
      ⟨#[.pointer (some ⟨kb, 0, none⟩), u1, u2, u3, .pointer (some ⟨w.heap.size, 0, none⟩), .bool false, u6, .bool false, .pointer (some ⟨fb, 0, none⟩), u9, u10, u11, u12, u13, u14, u15, u16, u17, u18, u19, u20, u21, u22, u23, u24, u25, u26, u27, u28, u29, u30, u31, u32, u33, u34, u35, u36, u37, u38, u39, u40, u41, u42], []⟩ W := by
  have r0 := hres.cell 0
  have r1 := hres.cell 1
  have r2 := hres.cell 2
  have v0 := hres.frozen 0
  have v1 := hres.frozen 1
  have v2 := hres.frozen 2
  simp only [List.getElem?_cons_succ, List.getElem?_cons_zero] at r0 r1 r2
  have hlr := hres.lt
  have HU := Lib.hid hu
  clear hres hu
  show Code.wp _ _ _ _ _
  go_wp2
  exact bodyPost_ret (v := .tuple #[noField.v, .bool false]) (by (simp [results, Tryd.results68, go_sem, r0, r1, r2, noField, FieldS.v]; try rfl)) rfl ⟨⟨_, rfl⟩, by
    refine Upd.setCell (Upd.setCell (Upd.setCell HU.out (.inr ?_) _) (.inr ?_) _) (.inr ?_) _ <;> simp only <;> omega⟩
end Go.Proofs.YthmfifcogokpoaaDoor
