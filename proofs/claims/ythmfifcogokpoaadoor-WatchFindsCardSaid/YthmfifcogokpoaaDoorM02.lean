/- What is proved here: contracts of the program's functions and plain lemmas that the claim's last text uses, in parts: append onto an owned slice, at the operation; the library's Clone functions; the shelf's contracts of strings.Cut and strings.Split at this program; a body with labels, walked from label to label with a count of the jumps that are to come. -/
import Derived.Test.YthmfifcogokpoaaDoorProg
import Derived.Test.YthmfifcogokpoaaDoorM01
import Derived.RegionTactic
import Derived.Scope
set_option linter.unusedVariables false
set_option linter.unusedSimpArgs false
namespace Go.Proofs.YthmfifcogokpoaaDoor
open Go.RowKit

/-- 2^47: a bound on sizes, behind a name. -/
def big : Nat := 140737488355328
/-- t is a slice type; its elements (type e) have so many cells and bytes. -/
structure ElemTy (P : Program) (t e : TypeId) (size bytes : Nat) : Prop where
  sl : P.underlying t = some (.slice e)
  info : ∃ i z, P.info? e = some i ∧ i.zero = some z ∧ i.size = size ∧ i.bytes = bytes ∧ z.cells.size = size
/-- u is a slice or string type. -/
def SrcTy (P : Program) (u : TypeId) : Prop := ∃ d, P.underlying u = some d ∧ ((∃ e2, d = .slice e2) ∨ d = .string)
theorem ElemTy.src {P : Program} {t e : TypeId} {size bytes : Nat} (h : ElemTy P t e size bytes) : SrcTy P t := ⟨_, h.sl, .inl ⟨e, rfl⟩⟩
theorem elemTy_of {P : Program} {t e : TypeId} {size bytes : Nat} {z : Value} (h1 : P.underlying t = some (.slice e)) (h2 : (P.info? e).map (fun i => (i.zero, i.size, i.bytes)) = some (some z, size, bytes)) (h3 : z.cells.size = size) : ElemTy P t e size bytes := by
  refine ⟨h1, ?_⟩
  cases h : P.info? e with
  | none => rw [h] at h2; cases h2
  | some i =>
    rw [h] at h2
    simp at h2
    exact ⟨i, z, rfl, h2.1, h2.2.1, h2.2.2, h3⟩

section
variable {P : Program}
theorem run_append {w : World} {t u e : TypeId} (ty : TypeId) {size bytes : Nat} (ht : ElemTy P t e size bytes) (hu : SrcTy P u)
    {A : Option Addr} {n c : Nat} {xs : List Value} {S : Own} (h : Row e size A n c xs S w) {x : Value} {m : Nat} {news : List Value} (hs : Src P w size x m news)
    (h63 : n + m ≤ maxLen) (hbytes : (n + m) * bytes ≤ big) :
    ∃ A' c' w' S', (Builtin.append_ #[t, u] ty #[.slice A n c, x]).run P w = .ok (.slice A' (n + m) c') w' ∧ Row e size A' (n + m) c' (xs ++ news) S' w' ∧ Upd S S' w w' ∧ (A' = A ∨ A' = some ⟨w.heap.size, 0, none⟩) := by
  obtain ⟨hsl, i, z, h1, h2, h3, h4, h5⟩ := ht
  obtain ⟨d, hd, hd2⟩ := hu
  exact run_append_row t u ty e i z size bytes hsl d hd hd2 h1 h2 h3 h4 h5 h hs h63 hbytes

theorem wp_append {w : World} {o : Oper} {a : Act} {K : Act → World → Prop} {Q : Exit → Act → World → Prop} (s x : Operand) (t u : TypeId)
    (ho : o.op = .call { callee := .builtin .append, args := #[s, x], argTypes := #[t, u] })
    (e : TypeId) (size bytes : Nat) (ht : ElemTy P t e size bytes) (hu : SrcTy P u)
    (A : Option Addr) (n c : Nat) (xs : List Value) (S : Own) (xv : Value) (m : Nat) (news : List Value) (hs : a.eval s = .slice A n c) (hx : a.eval x = xv)
    (h : Row e size A n c xs S w) (hsrc : Src P w size xv m news) (h63 : n + m ≤ maxLen) (hbytes : (n + m) * bytes ≤ big)
    (hk : ∀ A' c' w' S', Row e size A' (n + m) c' (xs ++ news) S' w' → Upd S S' w w' → (A' = A ∨ A' = some ⟨w.heap.size, 0, none⟩) → K (a.put o.dst (.slice A' (n + m) c')) w') : o.wp P a w K Q := by
  obtain ⟨A', c', w', S', hr, h2, h3, h4⟩ := run_append (P := P) o.type ht hu h hsrc h63 hbytes
  unfold Oper.wp execOp
  simp only [ho, resolve, invoke, builtin, Sem.run_bind, Sem.run_pure, Result.andThen_ok, List.map_toArray, List.map_cons, List.map_nil, hs, hx, hr]
  exact hk A' c' w' S' h2 h3 h4

theorem wpList_append {w : World} {ops : Array Oper} {rest : List Oper} {o : Oper} {a : Act} {Q : Exit → Act → World → Prop} (hgd : o.guard = none) (s x : Operand) (t u : TypeId)
    (ho : o.op = .call { callee := .builtin .append, args := #[s, x], argTypes := #[t, u] })
    (e : TypeId) (size bytes : Nat) (ht : ElemTy P t e size bytes) (hu : SrcTy P u)
    (A : Option Addr) (n c : Nat) (xs : List Value) (S : Own) (xv : Value) (m : Nat) (news : List Value) (hs : a.eval s = .slice A n c) (hx : a.eval x = xv)
    (h : Row e size A n c xs S w) (hsrc : Src P w size xv m news) (h63 : n + m ≤ maxLen) (hbytes : (n + m) * bytes ≤ big)
    (hk : ∀ A' c' w' S', Row e size A' (n + m) c' (xs ++ news) S' w' → Upd S S' w w' → (A' = A ∨ A' = some ⟨w.heap.size, 0, none⟩) → wpList P ops Q rest (a.put o.dst (.slice A' (n + m) c')) w') : wpList P ops Q (o :: rest) a w :=
  wpList_plain hgd fun _ hK => wp_append s x t u ho e size bytes ht hu A n c xs S xv m news hs hx h hsrc h63 hbytes fun A' c' w' S' h2 h3 h4 => hK _ _ (hk A' c' w' S' h2 h3 h4)

theorem step_append {w : World} {ops : Array Oper} {o : Oper} {a : Act} {K : Act → World → Prop} {Q : Exit → Act → World → Prop} {E : Prop} (hgd : o.guard = none) (s x : Operand) (t u : TypeId)
    (ho : o.op = .call { callee := .builtin .append, args := #[s, x], argTypes := #[t, u] })
    (e : TypeId) (size bytes : Nat) (ht : ElemTy P t e size bytes) (hu : SrcTy P u)
    (A : Option Addr) (n c : Nat) (xs : List Value) (S : Own) (xv : Value) (m : Nat) (news : List Value) (hs : a.eval s = .slice A n c) (hx : a.eval x = xv)
    (h : Row e size A n c xs S w) (hsrc : Src P w size xv m news) (h63 : n + m ≤ maxLen) (hbytes : (n + m) * bytes ≤ big)
    (hk : ∀ A' c' w' S', Row e size A' (n + m) c' (xs ++ news) S' w' → Upd S S' w w' → (A' = A ∨ A' = some ⟨w.heap.size, 0, none⟩) → K (a.put o.dst (.slice A' (n + m) c')) w') :
    if Region.wanted o (yielded ops a.tmps) = true then Oper.wp P o a w K Q else E := by
  have hw : Region.wanted o (yielded ops a.tmps) = true := by simp [Region.wanted, hgd]
  rw [if_pos hw]
  exact wp_append s x t u ho e size bytes ht hu A n c xs S xv m news hs hx h hsrc h63 hbytes hk
end

theorem tyBytes : ElemTy Tryd.prog 26 5 1 1 := elemTy_of Tryd.underlying26 (z := .int .u8 0) (by kernel_rfl) rfl

/-- A held slice beside an old world: what was there is as it was. -/
theorem row_old {S S' : Own} {w w' : World} (h : Upd S S' w w') (hS : ∀ k, S k → w.heap.size ≤ k) : Below w.heap.size w w' := h.below hS (Nat.le_refl _)

theorem eqlNilBytes (w : World) (a : Option Addr) (n c n' c' : Nat) : (binOp .eql 26 (.slice a n c) (.slice none n' c')).run Tryd.prog w = .ok (.bool a.isNone) w := Lib.run_eql_slice_nil w _ _ a n c n' c' Tryd.underlying26
attribute [local go_sem] eqlNilBytes

/-- What lies in an old block is there behind a new one. -/
theorem Rd.alloc {w : World} {size : Nat} {A : Option Addr} {n c : Nat} {xs : List Value} (h : Rd w size A n c xs) (hs : 0 < size) (o : Obj) : Rd (w.alloc o) size A n c xs := by
  by_cases hn : 0 < n
  · exact h.keep fun b hb => Below.heap_alloc w o b (h.block_lt hn hs b hb)
  · have h0 : n = 0 := by omega
    subst h0
    have hx : xs = [] := List.eq_nil_of_length_eq_zero (by simpa using h.len)
    subst hx
    exact ⟨h.le, h.cap, h.len, h.nil, fun ad ha => ⟨(h.at_ ad ha).1, fun j u hu => by cases hu⟩⟩
theorem Row.empty (e : TypeId) (size : Nat) (w : World) : Row e size (some ⟨w.heap.size, 0, none⟩) 0 0 [] (· = w.heap.size) (w.alloc (.cells #[] e)) :=
  Row.made (cs := []) (Blk.new w e []) (Nat.le_refl _) (by simp [maxLen]) (by simp) (by simp)

theorem bytesClone_any (A : Option Addr) (n c : Nat) (xs : List Value) (w : World) (h : Rd w 1 A n c xs) (h1 : ∀ u ∈ xs, u.oneCell' = true) (hn : n ≤ big) :
    Calls Tryd.prog 29 #[.slice A n c] w fun e w' => ∃ A' c' S', e = .returned (.slice A' n c') ∧ Row 5 1 A' n c' xs S' w' ∧ Upd none_ S' w w' := by
  have hlen := h.len
  cases A with
  | none =>
    have h0 := h.nil rfl
    subst h0
    obtain rfl : n = 0 := by have := h.le; omega
    have hx : xs = [] := List.eq_nil_of_length_eq_zero (by simpa using h.len)
    subst hx
    go_enter Tryd.func29, Tryd.ntmps29
    go_wp2
    go_ret
    exact ⟨none, 0, none_, rfl, Row.nil _ _ _, Upd.refl _ _⟩
  | some ad =>
    have hrow := Row.empty 5 1 w
    have hsrc : Src Tryd.prog (w.alloc (.cells #[] 5)) 1 (.slice (some ad) n c) n xs := Src.of_rd (h.alloc (by omega) _) h1
    have h63 : 0 + n ≤ maxLen := by have := h.cap; have := h.le; omega
    have hb : (0 + n) * 1 ≤ big := by omega
    clear h h1 hlen hn
    go_enter Tryd.func29, Tryd.ntmps29
    go_wp2_with (at_builtin; refine wpList_append (by rfl) _ _ _ _ (by rfl) 5 1 1 tyBytes tyBytes.src (some ⟨w.heap.size, 0, none⟩) 0 0 [] (· = w.heap.size) _ n xs (by rfl) (by rfl) hrow hsrc h63 hb ?_; intro A' c' w' S' hr hu ha)
    go_ret
    refine ⟨A', c', S', ?_, ?_, ?_⟩
    · simp
    · simpa using hr
    · exact ⟨hu.os, hu.tape, hu.output, by have := hu.size; simp at this; omega, fun k hk _ => (hu.block k (by simp; omega) (by omega)).trans (Below.heap_alloc w _ k hk), fun k hk => by rcases hu.own k hk with h | h; exact .inr (by rw [h]; exact Nat.le_refl _); simp at h; exact .inr (by omega)⟩
end Go.Proofs.YthmfifcogokpoaaDoor
namespace Go.Proofs.YthmfifcogokpoaaDoor
open Go.RowKit

/-- A number cut to the bounds of a window. -/
def cutW (n : Int) : Int := min (max n (-2147483647)) 2147483647

theorem cut_any (n : Int) (w : World) (h1 : -9223372036854775808 ≤ n) (h2 : n ≤ 9223372036854775807) :
    Calls Tryd.prog 61 #[.int .i64 n] w fun e w' => e = .returned (.int .i64 (cutW n)) ∧ w = w' := by
  go_enter Tryd.func61, Tryd.ntmps61
  go_wp2
  all_goals
    go_ret
    exact ⟨ret_int (by unfold cutW; first | rfl | omega), rfl⟩

/-- Both windows as one complex number. -/
abbrev C (s c : Int) : Value := .complex .f64 (F s) (F c)

theorem F_of (n : Int) : floatOfInt .f64 n = F n := rfl
attribute [local go_sem] F_of

theorem windows_any (s c : Int) (w : World) (h1 : -9223372036854775808 ≤ s) (h2 : s ≤ 9223372036854775807) (h3 : -9223372036854775808 ≤ c) (h4 : c ≤ 9223372036854775807) :
    Calls Tryd.prog 47 #[.int .i64 s, .int .i64 c] w fun e w' => e = .returned (C (cutW s) (cutW c)) ∧ w = w' := by
  go_enter Tryd.func47, Tryd.ntmps47
  go_wp2_with (go_at_call 61; refine (cut_any _ _ (by omega) (by omega)).mono ?_; rintro e w' ⟨rfl, rfl⟩)
  go_ret
  exact ⟨rfl, rfl⟩

theorem cmp_gt {a b : Int} (h : b < a) : compare a b = .gt := by
  show (if a < b then Ordering.lt else if a = b then .eq else .gt) = _
  rw [if_neg (by omega), if_neg (by omega)]
theorem cmp_lt {a b : Int} (h : a < b) : compare a b = .lt := by
  show (if a < b then Ordering.lt else if a = b then .eq else .gt) = _
  rw [if_pos h]
theorem cmp_eq (a : Int) : compare a a = .eq := by
  show (if a < a then Ordering.lt else if a = a then .eq else .gt) = _
  rw [if_neg (by omega), if_pos rfl]
theorem F_lo : (13970166044099084288 : Nat) = F (-2147483647) := by decide +kernel
theorem F_hi : (4746794007244308480 : Nat) = F 2147483647 := by decide +kernel
theorem ord_lo (n : Int) (h1 : -2147483647 ≤ n) (h2 : n ≤ 4294967294) : (FloatKind.f64.format.order (F n) 13970166044099084288 == some .gt || FloatKind.f64.format.order (F n) 13970166044099084288 == some .eq) = true := by
  rw [F_lo]
  show ((Ieee.double.order _ _ == _) || (Ieee.double.order _ _ == _)) = true
  rw [order_F n (-2147483647) (by omega) (by omega)]
  rcases Int.lt_or_eq_of_le h1 with h | h
  · rw [cmp_gt h]; rfl
  · rw [← h]; rfl
theorem ord_hi (n : Int) (h1 : -4294967294 ≤ n) (h2 : n ≤ 2147483647) : (FloatKind.f64.format.order (F n) 4746794007244308480 == some .lt || FloatKind.f64.format.order (F n) 4746794007244308480 == some .eq) = true := by
  rw [F_hi]
  show ((Ieee.double.order _ _ == _) || (Ieee.double.order _ _ == _)) = true
  rw [order_F n 2147483647 (by omega) (by omega)]
  rcases Int.lt_or_eq_of_le h2 with h | h
  · rw [cmp_lt h]; rfl
  · rw [h]; rfl
theorem ord_self (n : Int) (h1 : -4294967294 ≤ n) (h2 : n ≤ 4294967294) : (FloatKind.f64.format.order (F n) (F n) == some .eq) = true := by
  show (Ieee.double.order _ _ == _) = true
  rw [order_F n n (by omega) (by omega)]
  rw [cmp_eq]; rfl
theorem toInt_val (n : Int) (h1 : -4294967294 ≤ n) (h2 : n ≤ 4294967294) : floatToIntVal .f64 (F n) .i64 = some n := by
  unfold floatToIntVal
  show (match (Ieee.double.read (F n)).toInt .zero with | some n => _ | none => none) = _
  rw [toInt_F n (by omega)]
  simp only
  rw [if_pos ⟨by show (-9223372036854775808 : Int) ≤ n; omega, by show n ≤ (9223372036854775807 : Int); omega⟩]

set_option maxRecDepth 100000 in
theorem part_any (n : Int) (w : World) (h1 : -2147483647 ≤ n) (h2 : n ≤ 2147483647) :
    Calls Tryd.prog 67 #[.float .f64 (F n)] w fun e w' => e = .returned (.tuple #[.int .i64 n, .bool true]) ∧ w = w' := by
  have o1 := ord_lo n h1 (by omega)
  have o2 := ord_hi n (by omega) h2
  have o3 := ord_self n (by omega) (by omega)
  have cv := fun w => run_convert_float_int (P := Tryd.prog) w 118 3 .f64 .i64 (F n) n (by rw [Tryd.underlying118]; rfl) Tryd.underlying3 (toInt_val n (by omega) (by omega))
  go_enter Tryd.func67, Tryd.ntmps67
  go_wp2
  go_ret2
  exact ⟨rfl, rfl⟩

/-- Is it a window? -/
def W (n : Int) : Prop := -2147483647 ≤ n ∧ n ≤ 2147483647
theorem parts_any (s c : Int) (w : World) (hs : W s) (hc : W c) :
    Calls Tryd.prog 59 #[C s c] w fun e w' => e = .returned (.tuple #[.int .i64 s, .int .i64 c, .bool true]) ∧ w = w' := by
  unfold C
  go_enter Tryd.func59, Tryd.ntmps59
  go_wp2_with (go_at_call 67; refine (part_any _ _ ‹W _›.1 ‹W _›.2).mono ?_; rintro e w' ⟨rfl, rfl⟩)
  go_ret3
  exact ⟨rfl, rfl⟩

theorem stream_any (s c : Int) (w : World) (hs : W s) (hc : W c) :
    Calls Tryd.prog 49 #[C s c] w fun e w' => e = .returned (.int .i64 s) ∧ w = w' := by
  go_enter Tryd.func49, Tryd.ntmps49
  go_wp2_with (go_at_call 59; refine (parts_any _ _ _ hs hc).mono ?_; rintro e w' ⟨rfl, rfl⟩)
  go_ret
  exact ⟨rfl, rfl⟩

theorem conn_any (s c : Int) (w : World) (hs : W s) (hc : W c) :
    Calls Tryd.prog 48 #[C s c] w fun e w' => e = .returned (.int .i64 c) ∧ w = w' := by
  go_enter Tryd.func48, Tryd.ntmps48
  go_wp2_with (go_at_call 59; refine (parts_any _ _ _ hs hc).mono ?_; rintro e w' ⟨rfl, rfl⟩)
  go_ret
  exact ⟨rfl, rfl⟩

theorem may_any (s c : Int) (w : World) (hs : W s) (hc : W c) :
    Calls Tryd.prog 65 #[C s c] w fun e w' => e = .returned (.int .i64 (max (min s c) 0)) ∧ w = w' := by
  have b1 := hs.1; have b2 := hs.2; have b3 := hc.1; have b4 := hc.2
  go_enter Tryd.func65, Tryd.ntmps65
  go_wp2_with (first | (go_at_call 49; refine (stream_any _ _ _ hs hc).mono ?_; rintro e w' ⟨rfl, rfl⟩) | (go_at_call 48; refine (conn_any _ _ _ hs hc).mono ?_; rintro e w' ⟨rfl, rfl⟩))
  all_goals
    go_ret
    exact ⟨ret_int (by omega), rfl⟩

/-- A violation. -/
structure Fault where
  bad : Bool
  conn : Bool
  code : Int
deriving DecidableEq
def Fault.v (f : Fault) : Value := .agg #[.bool f.bad, .bool f.conn, .int .i64 f.code]
def noFault : Fault := ⟨false, false, 0⟩
attribute [go_sem] Fault.v

theorem fault_any (code : Int) (b : Bool) (w : World) :
    Calls Tryd.prog 60 #[.int .i64 code, .bool b] w fun e w' => e = .returned (.tuple #[C 0 0, (Fault.mk true b code).v]) ∧ Below w.heap.size w w' := by
  go_enter Tryd.func60, Tryd.ntmps60
  go_wp2
  exact bodyPost_ret (v := .tuple #[C 0 0, (Fault.mk true b code).v]) (by simp [results, Tryd.results60, go_sem, F_zero, Fault.v]) rfl ⟨rfl, ((Below.refl _ _).alloc (Nat.le_refl _) _)⟩

def spendS (s c n : Int) : Int × Int × Int := if n < 0 ∨ max (min s c) 0 < n then (0, 0, 1) else (s - n, c - n, 0)
theorem sub_C (s c n : Int) (hs : W s) (hc : W c) (hn : W n) (t : TypeId) (w : World) :
    (binOp .sub t (C s c) (C n n)).run Tryd.prog w = .ok (C (s - n) (c - n)) w := by
  unfold W at *
  refine run_complex_sum w .sub (.inr rfl) t .f64 _ _ _ _ _ _ ?_
  show (Option.bind (Ieee.double.sub (F s) (F n)) fun re => Option.bind (Ieee.double.sub (F c) (F n)) fun im => some (re, im)) = _
  rw [sub_F _ _ (by omega) (by omega) (by omega), sub_F _ _ (by omega) (by omega) (by omega)]
  rfl
theorem add_C (s c a b : Int) (hs : W s) (hc : W c) (ha : W a) (hb : W b) (t : TypeId) (w : World) :
    (binOp .add t (C s c) (C a b)).run Tryd.prog w = .ok (C (s + a) (c + b)) w := by
  unfold W at *
  refine run_complex_sum w .add (.inl rfl) t .f64 _ _ _ _ _ _ ?_
  show (Option.bind (Ieee.double.add (F s) (F a)) fun re => Option.bind (Ieee.double.add (F c) (F b)) fun im => some (re, im)) = _
  rw [add_F _ _ (by omega) (by omega) (by omega), add_F _ _ (by omega) (by omega) (by omega)]
  rfl
theorem spend_any (s c n : Int) (w : World) (hs : W s) (hc : W c) (h1 : -9223372036854775808 ≤ n) (h2 : n ≤ 9223372036854775807) :
    Calls Tryd.prog 56 #[C s c, .int .i64 n] w fun e w' => e = .returned (.tuple #[C (spendS s c n).1 (spendS s c n).2.1, .int .i64 (spendS s c n).2.2]) ∧ w = w' := by
  unfold spendS
  have b1 := hs.1; have b2 := hs.2; have b3 := hc.1; have b4 := hc.2
  by_cases hn : n < 0
  · rw [if_pos (.inl hn)]
    go_enter Tryd.func56, Tryd.ntmps56
    go_wp2_with (go_at_call 59; refine (parts_any _ _ _ hs hc).mono ?_; rintro e w' ⟨rfl, rfl⟩)
    go_ret2
    exact ⟨rfl, rfl⟩
  · by_cases hm : max (min s c) 0 < n
    · rw [if_pos (.inr hm)]
      go_enter Tryd.func56, Tryd.ntmps56
      go_wp2_with (first | (go_at_call 59; refine (parts_any _ _ _ hs hc).mono ?_; rintro e w' ⟨rfl, rfl⟩) | (go_at_call 65; refine (may_any _ _ _ hs hc).mono ?_; rintro e w' ⟨rfl, rfl⟩))
      go_ret2
      exact ⟨rfl, rfl⟩
    · rw [if_neg (by omega)]
      have hC := fun w => sub_C s c n hs hc ⟨by omega, by omega⟩ 97 w
      go_enter Tryd.func56, Tryd.ntmps56
      go_wp2_with (first | (go_at_call 59; refine (parts_any _ _ _ hs hc).mono ?_; rintro e w' ⟨rfl, rfl⟩) | (go_at_call 65; refine (may_any _ _ _ hs hc).mono ?_; rintro e w' ⟨rfl, rfl⟩))
      go_ret2
      exact ⟨rfl, rfl⟩

theorem gtr_hi (n : Int) (h1 : -4294967294 ≤ n) (h2 : n ≤ 4294967294) : (FloatKind.f64.format.order (F n) 4746794007244308480 == some .gt) = decide (2147483647 < n) := by
  rw [F_hi]
  show (Ieee.double.order _ _ == _) = _
  rw [order_F n 2147483647 (by omega) (by omega)]
  by_cases h : 2147483647 < n
  · rw [cmp_gt h, decide_eq_true h]; rfl
  · rw [decide_eq_false h]
    rcases Int.lt_or_eq_of_le (show n ≤ 2147483647 by omega) with h | h
    · rw [cmp_lt h]; rfl
    · rw [h, cmp_eq]; rfl

def grantS (s c a b : Int) : Int × Int × Fault :=
  if a < 0 ∨ 2147483647 < a ∨ b < 0 ∨ 2147483647 < b then (0, 0, ⟨true, true, 1⟩)
  else if 2147483647 < c + b then (0, 0, ⟨true, true, 3⟩)
  else if 2147483647 < s + a then (0, 0, ⟨true, false, 3⟩)
  else (s + a, c + b, noFault)

set_option maxRecDepth 100000 in
theorem grant_any (s c a b : Int) (w : World) (hs : W s) (hc : W c) :
    Calls Tryd.prog 46 #[C s c, .int .i64 a, .int .i64 b] w fun e w' => e = .returned (.tuple #[C (grantS s c a b).1 (grantS s c a b).2.1, (grantS s c a b).2.2.v]) ∧ Below w.heap.size w w' := by
  unfold grantS
  have b1 := hs.1; have b2 := hs.2; have b3 := hc.1; have b4 := hc.2
  by_cases h1 : a < 0 ∨ 2147483647 < a ∨ b < 0 ∨ 2147483647 < b
  · rw [if_pos h1]
    go_enter Tryd.func46, Tryd.ntmps46
    go_wp2_with (first | (go_at_call 59; refine (parts_any _ _ _ hs hc).mono ?_; rintro e w' ⟨rfl, rfl⟩) | (go_at_call 60; refine (fault_any _ _ _).mono ?_; rintro e w' ⟨rfl, hb⟩; obtain ⟨hc1, hf1⟩ := bcell hb; have hz := hb.size; replace hb : Below w.heap.size w w' := below_call hb (by go_grown) (by go_size)))
    all_goals
      exact bodyPost_ret (v := .tuple #[C 0 0, (Fault.mk true true 1).v]) (by simp [results, Tryd.results46, go_sem, hc1, hz]) rfl ⟨by simp [F_zero, Fault.v], by go_grown⟩
  · rw [if_neg h1]
    have hC := fun w => add_C s c a b hs hc ⟨by omega, by omega⟩ ⟨by omega, by omega⟩ 97 w
    have g1 := gtr_hi (c + b) (by omega) (by omega)
    have g2 := gtr_hi (s + a) (by omega) (by omega)
    by_cases h2 : 2147483647 < c + b
    · rw [if_pos h2]
      rw [decide_eq_true h2] at g1
      go_enter Tryd.func46, Tryd.ntmps46
      go_wp2_with (first | (go_at_call 59; refine (parts_any _ _ _ hs hc).mono ?_; rintro e w' ⟨rfl, rfl⟩) | (go_at_call 60; refine (fault_any _ _ _).mono ?_; rintro e w' ⟨rfl, hb⟩; obtain ⟨hc1, hf1⟩ := bcell hb; have hz := hb.size; replace hb : Below w.heap.size w w' := below_call hb (by go_grown) (by go_size)))
      exact bodyPost_ret (v := .tuple #[C 0 0, (Fault.mk true true 3).v]) (by simp [results, Tryd.results46, go_sem, hc1, hz]) rfl ⟨by simp [F_zero, Fault.v], by go_grown⟩
    · rw [if_neg h2]
      rw [decide_eq_false h2] at g1
      by_cases h3 : 2147483647 < s + a
      · rw [if_pos h3]
        rw [decide_eq_true h3] at g2
        go_enter Tryd.func46, Tryd.ntmps46
        go_wp2_with (first | (go_at_call 59; refine (parts_any _ _ _ hs hc).mono ?_; rintro e w' ⟨rfl, rfl⟩) | (go_at_call 60; refine (fault_any _ _ _).mono ?_; rintro e w' ⟨rfl, hb⟩; obtain ⟨hc1, hf1⟩ := bcell hb; have hz := hb.size; replace hb : Below w.heap.size w w' := below_call hb (by go_grown) (by go_size)))
        exact bodyPost_ret (v := .tuple #[C 0 0, (Fault.mk true false 3).v]) (by simp [results, Tryd.results46, go_sem, hc1, hz]) rfl ⟨by simp [F_zero, Fault.v], by go_grown⟩
      · rw [if_neg h3]
        rw [decide_eq_false h3] at g2
        go_enter Tryd.func46, Tryd.ntmps46
        go_wp2_with (first | (go_at_call 59; refine (parts_any _ _ _ hs hc).mono ?_; rintro e w' ⟨rfl, rfl⟩) | (go_at_call 60; refine (fault_any _ _ _).mono ?_; rintro e w' ⟨rfl, hb⟩; obtain ⟨hc1, hf1⟩ := bcell hb; have hz := hb.size; replace hb : Below w.heap.size w w' := below_call hb (by go_grown) (by go_size)))
        go_returns
        exact ⟨by simp [noFault, Fault.v], by go_grown⟩
/-- The stream's window moved. -/
def shiftS (s c by_ : Int) : Int × Int × Fault := if 2147483647 < s + by_ then (0, 0, ⟨true, true, 3⟩) else (cutW (s + by_), cutW c, noFault)
theorem cutW_W (n : Int) : W (cutW n) := by unfold cutW W; omega
theorem cutW_id (n : Int) (h : W n) : cutW n = n := by unfold cutW; unfold W at h; omega
theorem shift_any (s c by_ : Int) (w : World) (hs : W s) (hc : W c) (hb0 : W by_) :
    Calls Tryd.prog 51 #[C s c, .int .i64 by_] w fun e w' => e = .returned (.tuple #[C (shiftS s c by_).1 (shiftS s c by_).2.1, (shiftS s c by_).2.2.v]) ∧ Below w.heap.size w w' := by
  unfold shiftS
  have b1 := hs.1; have b2 := hs.2; have b3 := hc.1; have b4 := hc.2; have b5 := hb0.1; have b6 := hb0.2
  have hcut : (by_ != cutW by_) = false := by rw [cutW_id by_ hb0]; simp
  by_cases h2 : 2147483647 < s + by_
  · rw [if_pos h2]
    go_enter Tryd.func51, Tryd.ntmps51
    go_wp2_with (first | (go_at_call 59; refine (parts_any _ _ _ hs hc).mono ?_; rintro e w' ⟨rfl, rfl⟩) | (go_at_call 61; refine (cut_any _ _ (by omega) (by omega)).mono ?_; rintro e w' ⟨rfl, rfl⟩) | (go_at_call 49; refine (stream_any _ _ _ hs hc).mono ?_; rintro e w' ⟨rfl, rfl⟩) | (go_at_call 60; refine (fault_any _ _ _).mono ?_; rintro e w' ⟨rfl, hb⟩; obtain ⟨hc1, hf1⟩ := bcell hb; have hz := hb.size; replace hb : Below w.heap.size w w' := below_call hb (by go_grown) (by go_size)))
    exact bodyPost_ret (v := .tuple #[C 0 0, (Fault.mk true true 3).v]) (by simp [results, Tryd.results51, go_sem, hc1, hz]) rfl ⟨by simp [F_zero, Fault.v], by go_grown⟩
  · rw [if_neg h2]
    go_enter Tryd.func51, Tryd.ntmps51
    go_wp2_with (first | (go_at_call 59; refine (parts_any _ _ _ hs hc).mono ?_; rintro e w' ⟨rfl, rfl⟩) | (go_at_call 61; refine (cut_any _ _ (by omega) (by omega)).mono ?_; rintro e w' ⟨rfl, rfl⟩) | (go_at_call 49; refine (stream_any _ _ _ hs hc).mono ?_; rintro e w' ⟨rfl, rfl⟩) | (go_at_call 48; refine (conn_any _ _ _ hs hc).mono ?_; rintro e w' ⟨rfl, rfl⟩) | (go_at_call 47; refine (windows_any _ _ _ (by omega) (by omega) (by omega) (by omega)).mono ?_; rintro e w' ⟨rfl, rfl⟩))
    exact bodyPost_ret (v := .tuple #[C (cutW (s + by_)) (cutW c), noFault.v]) (by simp [results, Tryd.results51, go_sem, noFault, Fault.v]) rfl ⟨rfl, by go_grown⟩
end Go.Proofs.YthmfifcogokpoaaDoor
namespace Go.Proofs.YthmfifcogokpoaaDoor
open Go.RowKit

/-- As Q; by a goto to label l: J l. -/
def Jumps (J : Nat → Act → World → Prop) (Q : Exit → Act → World → Prop) : Exit → Act → World → Prop
  | .goto l, a, w => J l a w
  | e, a, w => Q e a w

section
variable {P : Program} {Q : Exit → Act → World → Prop} {J : Nat → Act → World → Prop} {a : Act} {w : World}
@[go_sem] theorem Jumps_normal : Jumps J Q .normal a w = Q .normal a w := rfl
@[go_sem] theorem Jumps_exit (id : Nat) : Jumps J Q (.exit id) a w = Q (.exit id) a w := rfl
@[go_sem] theorem Jumps_ret : Jumps J Q .ret a w = Q .ret a w := rfl
@[go_sem] theorem Jumps_panic (ch : List PanicEntry) : Jumps J Q (.panic ch) a w = Q (.panic ch) a w := rfl
theorem Jumps_goto (l : Nat) : Jumps J Q (.goto l) a w = J l a w := rfl
end

/-- What stands behind label l, with Q behind the whole. -/
def labW (P : Program) : Code → Nat → (Exit → Act → World → Prop) → Act → World → Prop
  | .seq a b, l, Q => if (findLabel a l).isSome then labW P a l (Exit.then (fun a w => b.wp P Q a w) Q) else labW P b l Q
  | .label _, _, Q => Q .normal
  | _, _, _ => fun _ _ => False

/-- Down to label l, and K there. -/
def thruW (P : Program) (l : Nat) (K : Act → World → Prop) : Code → (Exit → Act → World → Prop) → Act → World → Prop
  | .seq a b, Q => if (findLabel a l).isSome then thruW P l K a (Exit.then (fun a w => b.wp P Q a w) Q) else fun a₁ w => a.wp P (Exit.then (thruW P l K b Q) Q) a₁ w
  | .label _, _ => K
  | _, _ => fun _ _ => False

theorem labW_rest {P : Program} : ∀ (c : Code) (l : Nat) (Q : Exit → Act → World → Prop) (a : Act) (w : World) (rest : Code), findLabel c l = some rest → labW P c l Q a w → rest.wp P Q a w
  | .seq x y, l, Q, a, w, rest, hf, h => by
    simp only [findLabel] at hf
    cases hx : findLabel x l with
    | some r =>
      rw [hx] at hf
      simp only [Option.some.injEq] at hf
      subst hf
      simp only [labW, hx, Option.isSome_some, if_true] at h
      exact wp_seq (labW_rest x l _ a w r hx h)
    | none =>
      rw [hx] at hf
      simp only [labW, hx, Option.isSome_none, Bool.false_eq_true, if_false] at h
      exact labW_rest y l Q a w rest hf h
  | .label l', l, Q, a, w, rest, hf, h => by
    simp only [findLabel] at hf
    split at hf
    · cases hf
      exact wp_skip h
    · cases hf
  | .skip, _, _, _, _, _, hf, _ => by cases hf
  | .region .., _, _, _, _, _, hf, _ => by cases hf
  | .cond .., _, _, _, _, _, hf, _ => by cases hf
  | .block .., _, _, _, _, _, hf, _ => by cases hf
  | .loop .., _, _, _, _, _, hf, _ => by cases hf
  | .rangeFunc .., _, _, _, _, _, hf, _ => by cases hf
  | .exit .., _, _, _, _, _, hf, _ => by cases hf
  | .scope .., _, _, _, _, _, hf, _ => by cases hf
  | .goto .., _, _, _, _, _, hf, _ => by cases hf
  | .ret, _, _, _, _, _, hf, _ => by cases hf
  | .refuse .., _, _, _, _, _, hf, _ => by cases hf

/-- Down to label l, and on from there. -/
theorem wp_to_label {P : Program} (l : Nat) : ∀ (c : Code) (Q : Exit → Act → World → Prop) (a : Act) (w : World), (findLabel c l).isSome = true → thruW P l (labW P c l Q) c Q a w → c.wp P Q a w
  | .seq x y, Q, a, w, hf, h => by
    cases hx : findLabel x l with
    | some r =>
      simp only [thruW, hx, Option.isSome_some, if_true, labW] at h
      exact wp_seq (wp_to_label l x _ a w (by rw [hx]; rfl) h)
    | none =>
      simp only [thruW, hx, Option.isSome_none, Bool.false_eq_true, if_false, labW] at h
      have hy : (findLabel y l).isSome = true := by
        simp only [findLabel, hx] at hf
        exact hf
      refine wp_seq (Code.wp_mono (fun e a w q => ?_) h)
      cases e with
      | normal => exact wp_to_label l y Q a w hy q
      | exit id => exact q
      | goto l' => exact q
      | ret => exact q
      | panic ch => exact q
      | outgrown => exact q
  | .label l', Q, a, w, hf, h => wp_label h
  | .skip, _, _, _, hf, _ => by cases hf
  | .region .., _, _, _, hf, _ => by cases hf
  | .cond .., _, _, _, hf, _ => by cases hf
  | .block .., _, _, _, hf, _ => by cases hf
  | .loop .., _, _, _, hf, _ => by cases hf
  | .rangeFunc .., _, _, _, hf, _ => by cases hf
  | .exit .., _, _, _, hf, _ => by cases hf
  | .scope .., _, _, _, hf, _ => by cases hf
  | .goto .., _, _, _, hf, _ => by cases hf
  | .ret, _, _, _, hf, _ => by cases hf
  | .refuse .., _, _, _, hf, _ => by cases hf

/-- From label l on the body c comes to Q with at most n jumps. -/
def Lab (P : Program) (c : Code) (Q : Exit → Act → World → Prop) : Nat → Nat → Act → World → Prop
  | 0, _, _, _ => False
  | n + 1, l, a, w => (findLabel c l).isSome = true ∧ labW P c l (Jumps (Lab P c Q n) Q) a w

theorem Lab.arrives {P : Program} {c : Code} {Q : Exit → Act → World → Prop} (b : Frame) (k : List Item) (cs : List Frame) : ∀ n l a w rest, findLabel c l = some rest → Lab P c Q n l a w →
    ∃ e a' w', Q e a' w' ∧ Arrives P (lone (b.at a (.code rest :: .inScope c :: k)) cs w) b k cs e a' w'
  | 0, _, _, _, _, _, h => h.elim
  | n + 1, l, a, w, rest, hr, ⟨_, h⟩ => by
    have hw := labW_rest c l _ a w rest hr h
    obtain ⟨e, a₁, w₁, hq, harr⟩ := hw b (.inScope c :: k) cs
    cases e with
    | normal => exact ⟨.normal, a₁, w₁, hq, Steps.trans harr (.one step_inScope)⟩
    | exit id => exact ⟨.exit id, a₁, w₁, hq, fun k' hk => harr k' (by simp [exitTo, hk])⟩
    | goto l' =>
      cases n with
      | zero => exact (hq : False).elim
      | succ n =>
        obtain ⟨r2, hf2⟩ := Option.isSome_iff_exists.1 (hq : Lab P c Q (n + 1) l' a₁ w₁).1
        obtain ⟨e₂, a₂, w₂, hq₂, harr₂⟩ := Lab.arrives b k cs (n + 1) l' a₁ w₁ r2 hf2 hq
        exact ⟨e₂, a₂, w₂, hq₂, .of_steps (harr _ (by simp [gotoIn, hf2])) harr₂⟩
    | ret => exact ⟨_, a₁, w₁, hq, harr⟩
    | panic ch => exact ⟨_, a₁, w₁, hq, harr⟩
    | outgrown => exact ⟨_, a₁, w₁, hq, harr⟩

theorem wp_scope_labels {P : Program} {c : Code} {Q : Exit → Act → World → Prop} {a : Act} {w : World} (n : Nat) (h : c.wp P (Jumps (Lab P c Q n) Q) a w) : (Code.scope c).wp P Q a w := by
  intro b k cs
  obtain ⟨e, a₁, w₁, hq, harr⟩ := h b (.inScope c :: k) cs
  cases e with
  | normal => exact ⟨.normal, a₁, w₁, hq, .head step_scope (Steps.trans harr (.one step_inScope))⟩
  | exit id => exact ⟨.exit id, a₁, w₁, hq, fun k' hk => .head step_scope (harr k' (by simp [exitTo, hk]))⟩
  | goto l =>
    cases n with
    | zero => exact (hq : False).elim
    | succ n =>
      obtain ⟨rest, hf⟩ := Option.isSome_iff_exists.1 (hq : Lab P c Q (n + 1) l a₁ w₁).1
      obtain ⟨e₂, a₂, w₂, hq₂, harr₂⟩ := Lab.arrives b k cs (n + 1) l a₁ w₁ rest hf hq
      exact ⟨e₂, a₂, w₂, hq₂, .of_steps (.head step_scope (harr _ (by simp [gotoIn, hf]))) harr₂⟩
  | ret => exact ⟨_, a₁, w₁, hq, .of_steps (.one step_scope) harr⟩
  | panic ch => exact ⟨_, a₁, w₁, hq, .of_steps (.one step_scope) harr⟩
  | outgrown => exact ⟨_, a₁, w₁, hq, .of_steps (.one step_scope) harr⟩

/-- The same, where the run falls through to label l first. -/
theorem wp_scope_from {P : Program} {c : Code} {Q : Exit → Act → World → Prop} {a : Act} {w : World} (n l : Nat) (hf : (findLabel c l).isSome = true) (h : thruW P l (Lab P c Q (n + 1) l) c (Jumps (Lab P c Q n) Q) a w) : (Code.scope c).wp P Q a w := by
  refine wp_scope_labels n (wp_to_label l c _ a w hf ?_)
  have : Lab P c Q (n + 1) l = labW P c l (Jumps (Lab P c Q n) Q) := by
    funext a w
    exact propext ⟨fun h => h.2, fun h => ⟨hf, h⟩⟩
  rw [← this]
  exact h

/-- The first scope of a body. -/
def firstScope : Code → Option Code
  | .scope c => some c
  | .seq a b => match firstScope a with
    | some c => some c
    | none => firstScope b
  | .block _ c => firstScope c
  | .cond _ a b => match firstScope a with
    | some c => some c
    | none => firstScope b
  | _ => none
end Go.Proofs.YthmfifcogokpoaaDoor
