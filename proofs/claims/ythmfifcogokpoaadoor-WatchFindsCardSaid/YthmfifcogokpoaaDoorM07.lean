/- What is proved here: contracts of the program's functions and plain lemmas that the claim's last text uses, in parts: part.settings, Read. -/
import Derived.Test.YthmfifcogokpoaaDoorM06
import Derived.Test.YthmfifcogokpoaaDoorM04
set_option linter.unusedVariables false
set_option linter.unusedSimpArgs false
namespace Go.Proofs.YthmfifcogokpoaaDoor
open Go.RowKit

def setsOf : Nat → List UInt8 → List (Nat × Nat)
  | 0, _ => []
  | n + 1, d => if d.length < 6 then [] else ((d.getD 0 0).toNat * 256 + (d.getD 1 0).toNat, num4 (d.drop 2)) :: setsOf n (d.drop 6)
theorem setsOf_nil (n : Nat) (d : List UInt8) (h : d.length = 0) : setsOf n d = [] := by
  cases n with
  | zero => rfl
  | succ n => simp only [setsOf]; rw [if_pos (by omega)]
theorem setsOf_fuel : ∀ (n m : Nat) (d : List UInt8), d.length ≤ n → d.length ≤ m → setsOf n d = setsOf m d
  | 0, m, d, h, _ => by rw [setsOf_nil m d (by omega)]; rfl
  | n + 1, 0, d, _, h => by rw [setsOf_nil (n + 1) d (by omega)]; rfl
  | n + 1, m + 1, d, h1, h2 => by
    simp only [setsOf]
    by_cases h : d.length < 6
    · rw [if_pos h, if_pos h]
    · rw [if_neg h, if_neg h, setsOf_fuel n m (d.drop 6) (by simp; omega) (by simp; omega)]
theorem setsOf_step (d : List UInt8) (h : 6 ≤ d.length) : setsOf d.length d = ((d.getD 0 0).toNat * 256 + (d.getD 1 0).toNat, num4 (d.drop 2)) :: setsOf (d.drop 6).length (d.drop 6) := by
  rw [setsOf_fuel d.length (d.length + 1) d (Nat.le_refl _) (by omega)]
  simp only [setsOf]
  rw [if_neg (by omega), setsOf_fuel d.length (d.drop 6).length (d.drop 6) (by simp) (Nat.le_refl _)]
/-- The block of a part of a slice. -/
theorem Rd.cut2 {w : World} {A : Option Addr} {c : Nat} {l : List UInt8} (h : Rd w 1 A l.length c (bys l)) (k : Nat) (hk : k ≤ l.length) :
    ∃ A1 c1, (∀ W, (Instr.slice 26 (.slice A l.length c) (some (.int .i64 k)) none none).run Tryd.prog W = .ok (.slice A1 (l.drop k).length c1) W) ∧ Rd w 1 A1 (l.drop k).length c1 (bys (l.drop k)) ∧ (∀ b, blockOf A1 = some b → blockOf A = some b) := by
  have hd := h.drop (k := k) hk
  have hx : (bys l).drop (k * 1) = bys (l.drop k) := by simp [bys]
  have hl : (l.drop k).length = l.length - k := by simp
  rw [hx] at hd
  rw [hl]
  refine ⟨_, _, fun W => ?_, hd, ?_⟩
  · rw [run_slice_l W _ A _ _ elemBytes .i64 k (by omega) (by omega)]
    simp only [Int.toNat_natCast]
    have hs : (sizeOf (Tryd.prog.elem 26)).run Tryd.prog W = .ok 1 W := by kernel_rfl
    rw [hs]
    rfl
  · intro b hb
    split at hb
    · exact hb
    · cases A with
      | none => cases hb
      | some a => simpa [blockOf, add_block] using hb

def settingsS (f : FrameS) : PartS × Fault :=
  if f.stream ≠ 0 then connS 1
  else if (0 < f.flags &&& 1 ∧ 0 < f.body.length) ∨ 0 < f.body.length % 6 then connS 6
  else ({ noPart with ack := decide (0 < f.flags &&& 1), sets := setsOf f.body.length f.body }, noFault)

theorem tySets : ElemTy Tryd.prog 63 66 2 16 := elemTy_of Tryd.underlying63 (z := .agg #[.int .i64 0, .int .i64 0]) (by kernel_rfl) rfl

theorem setCells_snoc (l : List (Nat × Nat)) (x : Nat × Nat) : setCells (l ++ [x]) = setCells l ++ [.int .i64 x.1, .int .i64 x.2] := by simp [setCells]
theorem setCells_length (l : List (Nat × Nat)) : (setCells l).length = l.length * 2 := by
  induction l with
  | nil => rfl
  | cons x l ih => simp [setCells] at *; omega

/-- Memory in the loop. -/
structure SetM (w W : World) (ack : Bool) (acc : List (Nat × Nat)) (A : Option Addr) (c : Nat) (S : Own) : Prop where
  below : Below w.heap.size w W
  size : w.heap.size + 4 ≤ W.heap.size
  b1 : Blk W (w.heap.size + 1) 82 [.slice none 0 0, .int .i64 0, .int .i64 0, .int .i64 0, .int .i64 0, .slice none 0 0, .bool false, .bool false, .bool false]
  b2 : Blk W (w.heap.size + 2) 84 [.bool false, .bool false, .int .i64 0]
  b3 : Blk W (w.heap.size + 3) 82 [.slice none 0 0, .int .i64 0, .int .i64 0, .int .i64 0, .int .i64 0, .slice A acc.length c, .bool false, .bool ack, .bool false]
  row : Row 66 2 A acc.length c (setCells acc) S W
  own : ∀ k, S k → w.heap.size + 4 ≤ k

set_option maxRecDepth 100000 in
set_option maxHeartbeats 1000000 in
theorem settings_ok (kind flags stream : Nat) (l : List UInt8) (A : Option Addr) (c : Nat) (w : World) (hfl : flags < 1000000) (hs : stream = 0) (hl : l.length ≤ 1000000000000) (hr : Rd w 1 A l.length c (bys l)) (hbad : ¬ ((0 < flags &&& 1 ∧ 0 < l.length) ∨ 0 < l.length % 6)) :
    Calls Tryd.prog 40 #[.agg #[.int .i64 kind, .int .i64 flags, .int .i64 stream, .slice A l.length c]] w (PartQ ({ noPart with ack := decide (0 < flags &&& 1), sets := setsOf l.length l }, noFault) w) := by
  have ha1 : bits .and .i64 (flags : Int) 1 = ((flags &&& 1 : Nat) : Int) := andNat flags 1 hfl (by omega)
  generalize flags &&& 1 = m1 at *
  have ts : ((stream : Int) != 0) = false := by rw [hs]; rfl
  have h6 : l.length % 6 = 0 := by omega
  have t6 : decide (0 < l.length % 6) = false := decide_eq_false (by omega)
  have t6b : decide ((0 : Int) < (l.length : Int) % 6) = false := decide_eq_false (by omega)
  have HR := Lib.hid hr
  have HB := Lib.hid hbad
  have H6 := Lib.hid h6
  clear hs hr hbad h6
  have e0 : ∃ q : Bool, decide (0 < m1) = q ∧ (q = true → decide (0 < l.length) = false) := ⟨_, rfl, fun h => decide_eq_false fun h2 => HB.out (.inl ⟨of_decide_eq_true h, h2⟩)⟩
  obtain ⟨q, tm, tl⟩ := e0
  rw [tm]
  cases q
  · clear tl
    go_enter Tryd.func40, Tryd.ntmps40
    go_wp2
    go_loopw [5] (fun b wr => ∃ (acc : List (Nat × Nat)) (d : List UInt8) (A : Option Addr) (c : Nat) (A2 : Option Addr) (c2 : Nat) (S2 : Own), b = .slice A d.length c ∧ (0 < d.length → ∀ k, blockOf A = some k → k < w.heap.size) ∧ Rd wr 1 A d.length c (bys d) ∧ d.length % 6 = 0 ∧ acc ++ setsOf d.length d = setsOf l.length l ∧ 6 * acc.length + d.length = l.length ∧ SetM w wr false acc A2 c2 S2) (fun b _ => match b with | .slice _ n _ => n | _ => 0)
    case atStart =>
      have hbo : 0 < l.length → ∀ k, blockOf A = some k → k < w.heap.size := fun h => HR.out.block_lt h (by omega)
      refine ⟨[], l, A, c, none, 0, none_, rfl, hbo, HR.out.grow (by omega) (by (focus repeat' (first | (with_reducible exact Below.refl _ _) | (with_reducible assumption) | (with_reducible refine Below.alloc ?_ ?_ _) | (with_reducible refine Below.drew ?_) | (with_reducible refine below_drewN ?_ _) | (with_reducible refine Below.setCell ?_ ?_ _) | (with_reducible refine Below.frame ?_ _) | go_size))), H6.out, by simp, by simp, ⟨by (focus repeat' (first | (with_reducible exact Below.refl _ _) | (with_reducible assumption) | (with_reducible refine Below.alloc ?_ ?_ _) | (with_reducible refine Below.drew ?_) | (with_reducible refine below_drewN ?_ _) | (with_reducible refine Below.setCell ?_ ?_ _) | (with_reducible refine Below.frame ?_ _) | go_size)), by go_size, ((Blk.push (by simp)).alloc _).alloc _, (Blk.push (by simp)).alloc _, Blk.push (by simp), Row.nil _ _ _, fun k h => h.elim⟩⟩
    case round =>
      obtain ⟨acc, d, A', c', A2, cc2, S2, rfl, hbo, hrd, hd6, hsum, hlen, hm⟩ := hrel
      obtain ⟨hbel, hsz, b1, b2, b3, hrow, hown⟩ := hm
      have n1 : w.heap.size + 1 < wr.heap.size := by omega
      have n2 : w.heap.size + 2 < wr.heap.size := by omega
      have n3 : w.heap.size + 3 < wr.heap.size := by omega
      have HROW := Lib.hid hrow
      have HBEL := Lib.hid hbel
      have HOWN := Lib.hid hown
      have HSUM := Lib.hid hsum
      have B1 := Lib.hid b1
      have B2 := Lib.hid b2
      have B3 := Lib.hid b3
      clear hrow hbel hown hsum
      by_cases hd : d.length = 0
      · have td : decide (0 < d.length) = false := decide_eq_false (by omega)
        have td2 : decide ((0 : Int) < (d.length : Int)) = false := decide_eq_false (by omega)
        have HD := Lib.hid hd
        have c1 := b1.cells
        have c2 := b2.cells
        have c3 := b3.cells
        simp only [Cells, Nat.zero_add, Nat.reduceAdd] at c1 c2 c3
        clear b1 b2 b3 hd hd6
        go_wp2
        refine bodyPost_ret (v := .tuple #[({ noPart with ack := false, sets := acc } : PartS).v none 0 A2 cc2, noFault.v]) (by (simp [results, Tryd.results40, go_sem, c1, c2, c3, n1, n2, n3, noPart, noFault, PartS.v, Fault.v]; try omega)) rfl ?_
        have hacc : acc = setsOf l.length l := by rw [← HSUM.out, setsOf_nil d.length d HD.out]; simp
        rw [← hacc]
        refine ⟨none, 0, A2, cc2, none_, S2, rfl, Row.nil _ _ _, HROW.out.above (B := w.heap.size + 4) HOWN.out ?_, fun _ h _ => h, ?_⟩
        · (focus repeat' (first | (with_reducible exact Above.refl _ _) | (with_reducible assumption) | (with_reducible refine Above.setCell ?_ ?_ _) | (with_reducible refine Above.alloc ?_ _) | (with_reducible refine Above.drew ?_) | (with_reducible refine Above.drewN ?_ _) | go_size))
        · refine Upd.of_below ?_ (fun k hk => .inr (by rcases hk with h | h; exact h.elim; have := HOWN.out k h; omega))
          have hb3 := HBEL.out
          (focus repeat' (first | (with_reducible exact Below.refl _ _) | (with_reducible assumption) | (with_reducible refine Below.alloc ?_ ?_ _) | (with_reducible refine Below.drew ?_) | (with_reducible refine below_drewN ?_ _) | (with_reducible refine Below.setCell ?_ ?_ _) | (with_reducible refine Below.frame ?_ _) | go_size))
      · have td : decide (0 < d.length) = true := decide_eq_true (by omega)
        have td2 : decide ((0 : Int) < (d.length : Int)) = true := decide_eq_true (by omega)
        obtain ⟨ab, ao, hA, hcell⟩ := hrd.form (by omega)
        have e0 := hcell 0 _ (bys_get d 0 (by omega))
        have e1 := hcell 1 _ (bys_get d 1 (by omega))
        obtain ⟨A3, k3, hs3, hr3⟩ := hrd.cut 2 (by omega)
        obtain ⟨A6, k6, hs6, hr6, hb6⟩ := hrd.cut2 6 (by omega)
        have hbo6 : ∀ k, blockOf A6 = some k → k < w.heap.size := fun k hk => hbo (by omega) k (hb6 k hk)
        clear hb6
        rw [show ((2 : Nat) : Int) = 2 from rfl] at hs3
        rw [show ((6 : Nat) : Int) = 6 from rfl] at hs6
        have h34 : 4 ≤ (d.drop 2).length := by rw [List.length_drop]; omega
        have c35 : wr.cell? ⟨w.heap.size + 3, 5, none⟩ = some (.slice A2 acc.length cc2) := (b3.cell 5).trans rfl
        have f35 : wr.frozen? ⟨w.heap.size + 3, 5, none⟩ = false := b3.frozen 5
        have HR3 := Lib.hid (fun W (hb : Below wr.heap.size wr W) => hr3.grow (by omega) hb)
        have HR6 := Lib.hid hr6
        have x0 := d[0].toNat_lt
        have x1 := d[1].toNat_lt
        have hor := i64_or_nat (d[0].toNat * 256) d[1].toNat (by omega) (by omega)
        rw [show d[0].toNat * 256 = d[0].toNat * 2 ^ 8 from rfl, or_low d[0].toNat d[1].toNat 8 (by omega)] at hor
        have HV := Lib.hid (show setsOf d.length d = (d[0].toNat * 256 + d[1].toNat, num4 (d.drop 2)) :: setsOf (d.drop 6).length (d.drop 6) from by rw [setsOf_step d (by omega)]; simp [List.getD_eq_getElem?_getD, List.getElem?_eq_getElem (show 0 < d.length by omega), List.getElem?_eq_getElem (show 1 < d.length by omega)])
        have HL6 := Lib.hid (show (d.drop 6).length + 6 = d.length by rw [List.length_drop]; omega)
        have HBO6 := Lib.hid hbo6
        clear hbo6
        unfold by8 at e0 e1
        subst hA
        have hab : ab < w.heap.size := hbo (by omega) ab rfl
        have hab2 : ab < wr.heap.size := by omega
        have ns3 : ¬ S2 (w.heap.size + 3) := fun h => by have := HOWN.out _ h; omega
        have nsa : ¬ S2 ab := fun h => by have := HOWN.out _ h; omega
        clear hcell hrd hbo hr3 hr6 b1 b2 b3
        generalize d[0].toNat = y0 at *
        generalize d[1].toNat = y1 at *
        generalize hy : y0 * 2 ^ 8 + y1 = y at *
        rw [show ((y0 * 2 ^ 8 : Nat) : Int) = (y0 : Int) * 256 by omega] at hor
        have HY := Lib.hid hy
        clear hy
        have hraw : bits .or .i64 (IntKind.i64.wrap (IntKind.i64.wrap (y0 : Int) * 256)) (IntKind.i64.wrap (y1 : Int)) = (y : Int) := by
          rw [IntWalk.i64_in (y0 : Int) (by omega), IntWalk.i64_in (y1 : Int) (by omega), IntWalk.i64_in ((y0 : Int) * 256) (by omega)]; exact hor
        generalize d.drop 2 = d2 at *
        generalize d.drop 6 = d6 at *
        have HROWQ := Lib.hid (show ∀ q : Nat, Row 66 2 A2 acc.length cc2 (setCells acc) S2 ((wr.drewN q).alloc (.cells #[.int .i64 y, .int .i64 (num4 d2)] 66)) from fun q => HROW.out.loc fun j hj => Below.heap_alloc (wr.drewN q) _ j (HROW.out.lt j hj))
        have HSRCQ := Lib.hid (show ∀ q : Nat, Src Tryd.prog ((wr.drewN q).alloc (.cells #[.int .i64 y, .int .i64 (num4 d2)] 66)) 2 (.slice (some ⟨wr.heap.size, 0, none⟩) 1 1) 1 [.int .i64 y, .int .i64 (num4 d2)] from fun q => Src.of_rd (Row.made (e := 66) (cs := [.int .i64 y, .int .i64 (num4 d2)]) (Blk.push (by simp)) (Nat.le_refl _) (by simp [maxLen]) (by simp) rfl).rd (by simp [Value.oneCell']))
        have HKQ := Lib.hid (show ∀ (q : Nat) (S' : Own) (w4 : World), Upd S2 S' ((wr.drewN q).alloc (.cells #[.int .i64 y, .int .i64 (num4 d2)] 66)) w4 → w4.cell? ⟨w.heap.size + 3, 5, none⟩ = some (.slice A2 acc.length cc2) ∧ w4.frozen? ⟨w.heap.size + 3, 5, none⟩ = false ∧ w4.cell? ⟨ab, ao, none⟩ = some (.int .u8 y0) ∧ w4.cell? ⟨ab, ao + 1, none⟩ = some (.int .u8 y1) from
          fun q S' w4 hu => ⟨(hu.cell (a := ⟨w.heap.size + 3, 5, none⟩) (by simp; omega) ns3).trans ((World.cell?_alloc_lt (wr.drewN q) _ _ n3).trans c35),
            (hu.frozen (a := ⟨w.heap.size + 3, 5, none⟩) (by simp; omega) ns3).trans ((World.frozen?_of_block (w := wr.drewN q) (Below.heap_alloc (wr.drewN q) _ (w.heap.size + 3) n3)).trans f35),
            (hu.cell (a := ⟨ab, ao, none⟩) (by simp; omega) nsa).trans ((World.cell?_alloc_lt (wr.drewN q) _ _ hab2).trans e0),
            (hu.cell (a := ⟨ab, ao + 1, none⟩) (by simp; omega) nsa).trans ((World.cell?_alloc_lt (wr.drewN q) _ _ hab2).trans e1)⟩)
        have h63 : acc.length + 1 ≤ maxLen := by simp only [maxLen]; omega
        have hbb : (acc.length + 1) * 16 ≤ big := by simp only [big]; omega
        have j0 : (0 : Int) < (d.length : Int) := by omega
        have j00 : 0 < d.length := by omega
        have j1 : (1 : Int) < (d.length : Int) := by omega
        simp only [Nat.add_zero] at e0
        go_wp2
        refine wp_region_S (fun w' => w'.cell? ⟨w.heap.size + 3, 5, none⟩ = some (.slice A2 acc.length cc2) ∧ w'.frozen? ⟨w.heap.size + 3, 5, none⟩ = false ∧ w'.cell? ⟨ab, ao, none⟩ = some (.int .u8 y0) ∧ w'.cell? ⟨ab, ao + 1, none⟩ = some (.int .u8 y1)) 19 (by kernel_rfl) (⟨c35, f35, e0, e1⟩) (fun hHeld => ?_)
        refine AnyS_take (i := 0) (v := ?_) rfl (by kernel_rfl) (by kernel_rfl) (by kernel_rfl) (by kernel_rfl) (by kernel_rfl) (fun _ _ _ h => h) (Or.inl ⟨by rfl, ?_⟩) hHeld ?_
        rotate_left
        · intro w' hSw
          (try dsimp only at hSw)
          go_simp
          try with_reducible rfl
        try simp only [Act.put, List.setIfInBounds_toArray, List.set_cons_zero, List.set_cons_succ]
        refine AnyS_take (i := 1) (v := ?_) rfl (by kernel_rfl) (by kernel_rfl) (by kernel_rfl) (by kernel_rfl) (by kernel_rfl) (fun _ _ _ h => h) (Or.inl ⟨by rfl, ?_⟩) hHeld ?_
        rotate_left
        · intro w' hSw
          (try dsimp only at hSw)
          go_simp
          try with_reducible rfl
        try simp only [Act.put, List.setIfInBounds_toArray, List.set_cons_zero, List.set_cons_succ]
        refine AnyS_take (i := 2) (v := ?_) rfl (by kernel_rfl) (by kernel_rfl) (by kernel_rfl) (by kernel_rfl) (by kernel_rfl) (fun _ _ _ h => h) (Or.inl ⟨by rfl, ?_⟩) hHeld ?_
        rotate_left
        · intro w' hSw
          (try dsimp only at hSw)
          go_simp
          try with_reducible rfl
        try simp only [Act.put, List.setIfInBounds_toArray, List.set_cons_zero, List.set_cons_succ]
        refine AnyS_take (i := 3) (v := ?_) rfl (by kernel_rfl) (by kernel_rfl) (by kernel_rfl) (by kernel_rfl) (by kernel_rfl) (fun _ _ _ h => h) (Or.inl ⟨by rfl, ?_⟩) hHeld ?_
        rotate_left
        · intro w' hSw
          (try dsimp only at hSw)
          go_simp
          try with_reducible rfl
        try simp only [Act.put, List.setIfInBounds_toArray, List.set_cons_zero, List.set_cons_succ]
        refine AnyS_take (i := 4) (v := ?_) rfl (by kernel_rfl) (by kernel_rfl) (by kernel_rfl) (by kernel_rfl) (by kernel_rfl) (fun _ _ _ h => h) (Or.inl ⟨by rfl, ?_⟩) hHeld ?_
        rotate_left
        · intro w' hSw
          (try dsimp only at hSw)
          go_simp
          try with_reducible rfl
        try simp only [Act.put, List.setIfInBounds_toArray, List.set_cons_zero, List.set_cons_succ]
        refine AnyS_take (i := 5) (v := ?_) rfl (by kernel_rfl) (by kernel_rfl) (by kernel_rfl) (by kernel_rfl) (by kernel_rfl) (fun _ _ _ h => h) (Or.inl ⟨by rfl, ?_⟩) hHeld ?_
        rotate_left
        · intro w' hSw
          (try dsimp only at hSw)
          go_simp
          try with_reducible rfl
        try simp only [Act.put, List.setIfInBounds_toArray, List.set_cons_zero, List.set_cons_succ]
        refine AnyS_take (i := 6) (v := ?_) rfl (by kernel_rfl) (by kernel_rfl) (by kernel_rfl) (by kernel_rfl) (by kernel_rfl) (fun _ _ _ h => h) (Or.inl ⟨by rfl, ?_⟩) hHeld ?_
        rotate_left
        · intro w' hSw
          (try dsimp only at hSw)
          go_simp
          try with_reducible rfl
        try simp only [Act.put, List.setIfInBounds_toArray, List.set_cons_zero, List.set_cons_succ]
        refine AnyS_take (i := 7) (v := ?_) rfl (by kernel_rfl) (by kernel_rfl) (by kernel_rfl) (by kernel_rfl) (by kernel_rfl) (fun _ _ _ h => h) (Or.inl ⟨by rfl, ?_⟩) hHeld ?_
        rotate_left
        · intro w' hSw
          (try dsimp only at hSw)
          go_simp
          try with_reducible rfl
        try simp only [Act.put, List.setIfInBounds_toArray, List.set_cons_zero, List.set_cons_succ]
        refine AnyS_take (i := 8) (v := ?_) rfl (by kernel_rfl) (by kernel_rfl) (by kernel_rfl) (by kernel_rfl) (by kernel_rfl) (fun _ _ _ h => h) (Or.inl ⟨by rfl, ?_⟩) hHeld ?_
        rotate_left
        · intro w' hSw
          (try dsimp only at hSw)
          go_simp
          try with_reducible rfl
        try simp only [Act.put, List.setIfInBounds_toArray, List.set_cons_zero, List.set_cons_succ]
        refine AnyS_take (i := 9) (v := ?_) rfl (by kernel_rfl) (by kernel_rfl) (by kernel_rfl) (by kernel_rfl) (by kernel_rfl) (fun _ _ _ h => h) (Or.inl ⟨by rfl, ?_⟩) hHeld ?_
        rotate_left
        · intro w' hSw
          (try dsimp only at hSw)
          go_simp
          try with_reducible rfl
        try simp only [Act.put, List.setIfInBounds_toArray, List.set_cons_zero, List.set_cons_succ]
        refine AnyS_take (i := 10) (v := ?_) rfl (by kernel_rfl) (by kernel_rfl) (by kernel_rfl) (by kernel_rfl) (by kernel_rfl) (fun _ _ _ h => h) (Or.inl ⟨by rfl, ?_⟩) hHeld ?_
        rotate_left
        · intro w' hSw
          (try dsimp only at hSw)
          go_simp
          try with_reducible rfl
        try simp only [Act.put, List.setIfInBounds_toArray, List.set_cons_zero, List.set_cons_succ]
        refine AnyS_take (i := 11) (v := ?_) rfl (by kernel_rfl) (by kernel_rfl) (by kernel_rfl) (by kernel_rfl) (by kernel_rfl) (fun _ _ _ h => h) (Or.inl ⟨by rfl, ?_⟩) hHeld ?_
        rotate_left
        · intro w' hSw
          (try dsimp only at hSw)
          go_simp
          try with_reducible rfl
        try simp only [Act.put, List.setIfInBounds_toArray, List.set_cons_zero, List.set_cons_succ]
        refine AnyS_take (i := 12) (v := ?_) rfl (by kernel_rfl) (by kernel_rfl) (by kernel_rfl) (by kernel_rfl) (by kernel_rfl) (fun _ _ _ h => h) (Or.inl ⟨by rfl, ?_⟩) hHeld ?_
        rotate_left
        · intro w' hSw
          (try dsimp only at hSw)
          go_simp
          try with_reducible rfl
        try simp only [Act.put, List.setIfInBounds_toArray, List.set_cons_zero, List.set_cons_succ]
        refine AnyS_take (i := 13) (v := ?_) rfl (by kernel_rfl) (by kernel_rfl) (by kernel_rfl) (by kernel_rfl) (by kernel_rfl) (fun _ _ _ h => h) (Or.inl ⟨by rfl, ?_⟩) hHeld ?_
        rotate_left
        · intro w' hSw
          (try dsimp only at hSw)
          go_simp
          try with_reducible rfl
        try simp only [Act.put, List.setIfInBounds_toArray, List.set_cons_zero, List.set_cons_succ]
        refine AnyS_step (i := 14) rfl (by kernel_rfl) rfl (fun K hK => ?_)
        go_simp
        refine (partNumber_any d2 A3 k3 _ (HR3.out _ ?_) h34).mono ?_
        · (focus repeat' (first | (with_reducible exact Below.refl _ _) | (with_reducible assumption) | (with_reducible refine Below.alloc ?_ ?_ _) | (with_reducible refine Below.drew ?_) | (with_reducible refine below_drewN ?_ _) | (with_reducible refine Below.setCell ?_ ?_ _) | (with_reducible refine Below.frame ?_ _) | go_size))
        rintro e w' ⟨rfl, nn, rfl⟩
        refine hK.out _ _ (⟨by simp [c35], by simp [f35], by simp [e0], by simp [e1]⟩) (fun hHeld => ?_)
        clear hK K
        try simp only [Act.put, List.setIfInBounds_toArray, List.set_cons_zero, List.set_cons_succ]
        refine AnyS_take (i := 15) (v := ?_) rfl (by kernel_rfl) (by kernel_rfl) (by kernel_rfl) (by kernel_rfl) (by kernel_rfl) (fun _ _ _ h => h) (Or.inl ⟨by rfl, ?_⟩) hHeld ?_
        rotate_left
        · intro w' hSw
          (try dsimp only at hSw)
          go_simp
          try with_reducible rfl
        try simp only [Act.put, List.setIfInBounds_toArray, List.set_cons_zero, List.set_cons_succ]
        refine AnyS_step (i := 16) rfl (by kernel_rfl) rfl (fun K hK => ?_)
        go_simp
        refine hK.out _ _ (HKQ.out _ _ _ (Upd.refl _ _)) (fun hHeld => ?_)
        clear hK K
        try simp only [Act.put, List.setIfInBounds_toArray, List.set_cons_zero, List.set_cons_succ]
        refine AnyS_step (i := 17) rfl (by kernel_rfl) rfl (fun K hK => ?_)
        refine wp_append _ _ _ _ (by rfl) 66 2 16 tySets tySets.src A2 acc.length cc2 (setCells acc) S2 (.slice (some ⟨wr.heap.size, 0, none⟩) 1 1) 1 [.int .i64 y, .int .i64 (num4 d2)] (by rfl) (by rfl) (HROWQ.out _) (HSRCQ.out _) h63 hbb ?_
        intro A5 c5 w4 S5 hr4 hu4 ha4
        refine hK.out _ _ (HKQ.out _ _ _ hu4) (fun hHeld => ?_)
        clear hK K
        try simp only [Act.put, List.setIfInBounds_toArray, List.set_cons_zero, List.set_cons_succ]
        obtain ⟨k35, kf35, -, -⟩ := hHeld
        have hHeld := HKQ.out _ _ _ hu4
        refine AnyS_plain (i := 18) (v := ?_) rfl (by kernel_rfl) (by kernel_rfl) (by kernel_rfl) (by kernel_rfl) (fun _ _ _ h => h) (Or.inl ⟨by rfl, ?_⟩) hHeld ?_
        rotate_left
        · intro w' hSw
          (try dsimp only at hSw)
          go_simp
          try with_reducible rfl
        try simp only [Act.put, List.setIfInBounds_toArray, List.set_cons_zero, List.set_cons_succ]
        refine AnyS_stepT (i := 19) rfl (by kernel_rfl) (by kernel_rfl) rfl (fun K hK => ?_)
        go_simp
        refine hK.out _ _ ?_
        clear hK K
        refine AnyS_done (by kernel_rfl) (NoPanic.normal ?_) _
        try simp only [Act.put, List.setIfInBounds_toArray, List.set_cons_zero, List.set_cons_succ]
        clear k35 kf35 hHeld
        go_wp2
        have hb4 : Below w.heap.size w w4 := ((below_drewN HBEL.out (1 + nn)).alloc (by go_size) _).trans (hu4.below (fun k hk => by have := HOWN.out k hk; omega) (by simp; omega))
        have hs4 := hu4.size
        have ho5 : ∀ k, S5 k → w.heap.size + 4 ≤ k := fun k hk => (hu4.own k hk).elim (fun h => HOWN.out k h) (fun h => by simp at h; omega)
        refine ⟨⟨acc ++ [(y, num4 d2)], d6, A6, k6, A5, c5, S5, rfl, fun _ => HBO6.out, ?_, by have := HL6.out; omega, ?_, by have := HL6.out; simp; omega, ?_, ?_, ?_, ?_, ?_, ?_, ho5⟩, ?_⟩
        · refine HR6.out.keep fun k hk => ?_
          have hkl := HBO6.out k hk
          exact (heap_set_other _ (by simp; omega)).trans ((hu4.block k (by simp; omega) (fun h => by have := HOWN.out k h; omega)).trans (Below.heap_alloc (wr.drewN (1 + nn)) _ k (by simp; omega)))
        · rw [← HSUM.out, HV.out, ← HY.out]; simp
        · exact hb4.setCell (by simp; omega) _
        · simp at hs4 ⊢; omega
        · exact (((B1.out.drewN (1 + nn)).alloc _).upd hu4 (fun h => by have := HOWN.out _ h; omega)).far (by simp) _
        · exact (((B2.out.drewN (1 + nn)).alloc _).upd hu4 (fun h => by have := HOWN.out _ h; omega)).far (by simp) _
        · have := (((B3.out.drewN (1 + nn)).alloc (.cells #[.int .i64 y, .int .i64 (num4 d2)] 66)).upd hu4 ns3).set 5 (.slice A5 (acc.length + 1) c5)
          simpa using this
        · have h6 : Row 66 2 A5 (acc.length + 1) c5 (setCells acc ++ [.int .i64 y, .int .i64 (num4 d2)]) S5 (w4.setCell ⟨w.heap.size + 1 + 1 + 1, 5, none⟩ (.slice A5 (acc.length + 1) c5)) := hr4.loc fun k hk => heap_set_other _ (by have := ho5 k hk; simp; omega)
          rw [setCells_snoc]
          simpa using h6
        · have := HL6.out
          show d6.length < d.length
          omega

  · replace tl := tl rfl
    go_enter Tryd.func40, Tryd.ntmps40
    go_wp2
    go_loopw [5] (fun b wr => ∃ (acc : List (Nat × Nat)) (d : List UInt8) (A : Option Addr) (c : Nat) (A2 : Option Addr) (c2 : Nat) (S2 : Own), b = .slice A d.length c ∧ (0 < d.length → ∀ k, blockOf A = some k → k < w.heap.size) ∧ Rd wr 1 A d.length c (bys d) ∧ d.length % 6 = 0 ∧ acc ++ setsOf d.length d = setsOf l.length l ∧ 6 * acc.length + d.length = l.length ∧ SetM w wr true acc A2 c2 S2) (fun b _ => match b with | .slice _ n _ => n | _ => 0)
    case atStart =>
      have hbo : 0 < l.length → ∀ k, blockOf A = some k → k < w.heap.size := fun h => HR.out.block_lt h (by omega)
      refine ⟨[], l, A, c, none, 0, none_, rfl, hbo, HR.out.grow (by omega) (by (focus repeat' (first | (with_reducible exact Below.refl _ _) | (with_reducible assumption) | (with_reducible refine Below.alloc ?_ ?_ _) | (with_reducible refine Below.drew ?_) | (with_reducible refine below_drewN ?_ _) | (with_reducible refine Below.setCell ?_ ?_ _) | (with_reducible refine Below.frame ?_ _) | go_size))), H6.out, by simp, by simp, ⟨by (focus repeat' (first | (with_reducible exact Below.refl _ _) | (with_reducible assumption) | (with_reducible refine Below.alloc ?_ ?_ _) | (with_reducible refine Below.drew ?_) | (with_reducible refine below_drewN ?_ _) | (with_reducible refine Below.setCell ?_ ?_ _) | (with_reducible refine Below.frame ?_ _) | go_size)), by go_size, ((Blk.push (by simp)).alloc _).alloc _, (Blk.push (by simp)).alloc _, Blk.push (by simp), Row.nil _ _ _, fun k h => h.elim⟩⟩
    case round =>
      obtain ⟨acc, d, A', c', A2, cc2, S2, rfl, hbo, hrd, hd6, hsum, hlen, hm⟩ := hrel
      obtain ⟨hbel, hsz, b1, b2, b3, hrow, hown⟩ := hm
      have n1 : w.heap.size + 1 < wr.heap.size := by omega
      have n2 : w.heap.size + 2 < wr.heap.size := by omega
      have n3 : w.heap.size + 3 < wr.heap.size := by omega
      have HROW := Lib.hid hrow
      have HBEL := Lib.hid hbel
      have HOWN := Lib.hid hown
      have HSUM := Lib.hid hsum
      have B1 := Lib.hid b1
      have B2 := Lib.hid b2
      have B3 := Lib.hid b3
      clear hrow hbel hown hsum
      by_cases hd : d.length = 0
      · have td : decide (0 < d.length) = false := decide_eq_false (by omega)
        have td2 : decide ((0 : Int) < (d.length : Int)) = false := decide_eq_false (by omega)
        have HD := Lib.hid hd
        have c1 := b1.cells
        have c2 := b2.cells
        have c3 := b3.cells
        simp only [Cells, Nat.zero_add, Nat.reduceAdd] at c1 c2 c3
        clear b1 b2 b3 hd hd6
        go_wp2
        refine bodyPost_ret (v := .tuple #[({ noPart with ack := true, sets := acc } : PartS).v none 0 A2 cc2, noFault.v]) (by (simp [results, Tryd.results40, go_sem, c1, c2, c3, n1, n2, n3, noPart, noFault, PartS.v, Fault.v]; try omega)) rfl ?_
        have hacc : acc = setsOf l.length l := by rw [← HSUM.out, setsOf_nil d.length d HD.out]; simp
        rw [← hacc]
        refine ⟨none, 0, A2, cc2, none_, S2, rfl, Row.nil _ _ _, HROW.out.above (B := w.heap.size + 4) HOWN.out ?_, fun _ h _ => h, ?_⟩
        · (focus repeat' (first | (with_reducible exact Above.refl _ _) | (with_reducible assumption) | (with_reducible refine Above.setCell ?_ ?_ _) | (with_reducible refine Above.alloc ?_ _) | (with_reducible refine Above.drew ?_) | (with_reducible refine Above.drewN ?_ _) | go_size))
        · refine Upd.of_below ?_ (fun k hk => .inr (by rcases hk with h | h; exact h.elim; have := HOWN.out k h; omega))
          have hb3 := HBEL.out
          (focus repeat' (first | (with_reducible exact Below.refl _ _) | (with_reducible assumption) | (with_reducible refine Below.alloc ?_ ?_ _) | (with_reducible refine Below.drew ?_) | (with_reducible refine below_drewN ?_ _) | (with_reducible refine Below.setCell ?_ ?_ _) | (with_reducible refine Below.frame ?_ _) | go_size))
      · have td : decide (0 < d.length) = true := decide_eq_true (by omega)
        have td2 : decide ((0 : Int) < (d.length : Int)) = true := decide_eq_true (by omega)
        obtain ⟨ab, ao, hA, hcell⟩ := hrd.form (by omega)
        have e0 := hcell 0 _ (bys_get d 0 (by omega))
        have e1 := hcell 1 _ (bys_get d 1 (by omega))
        obtain ⟨A3, k3, hs3, hr3⟩ := hrd.cut 2 (by omega)
        obtain ⟨A6, k6, hs6, hr6, hb6⟩ := hrd.cut2 6 (by omega)
        have hbo6 : ∀ k, blockOf A6 = some k → k < w.heap.size := fun k hk => hbo (by omega) k (hb6 k hk)
        clear hb6
        rw [show ((2 : Nat) : Int) = 2 from rfl] at hs3
        rw [show ((6 : Nat) : Int) = 6 from rfl] at hs6
        have h34 : 4 ≤ (d.drop 2).length := by rw [List.length_drop]; omega
        have c35 : wr.cell? ⟨w.heap.size + 3, 5, none⟩ = some (.slice A2 acc.length cc2) := (b3.cell 5).trans rfl
        have f35 : wr.frozen? ⟨w.heap.size + 3, 5, none⟩ = false := b3.frozen 5
        have HR3 := Lib.hid (fun W (hb : Below wr.heap.size wr W) => hr3.grow (by omega) hb)
        have HR6 := Lib.hid hr6
        have x0 := d[0].toNat_lt
        have x1 := d[1].toNat_lt
        have hor := i64_or_nat (d[0].toNat * 256) d[1].toNat (by omega) (by omega)
        rw [show d[0].toNat * 256 = d[0].toNat * 2 ^ 8 from rfl, or_low d[0].toNat d[1].toNat 8 (by omega)] at hor
        have HV := Lib.hid (show setsOf d.length d = (d[0].toNat * 256 + d[1].toNat, num4 (d.drop 2)) :: setsOf (d.drop 6).length (d.drop 6) from by rw [setsOf_step d (by omega)]; simp [List.getD_eq_getElem?_getD, List.getElem?_eq_getElem (show 0 < d.length by omega), List.getElem?_eq_getElem (show 1 < d.length by omega)])
        have HL6 := Lib.hid (show (d.drop 6).length + 6 = d.length by rw [List.length_drop]; omega)
        have HBO6 := Lib.hid hbo6
        clear hbo6
        unfold by8 at e0 e1
        subst hA
        have hab : ab < w.heap.size := hbo (by omega) ab rfl
        have hab2 : ab < wr.heap.size := by omega
        have ns3 : ¬ S2 (w.heap.size + 3) := fun h => by have := HOWN.out _ h; omega
        have nsa : ¬ S2 ab := fun h => by have := HOWN.out _ h; omega
        clear hcell hrd hbo hr3 hr6 b1 b2 b3
        generalize d[0].toNat = y0 at *
        generalize d[1].toNat = y1 at *
        generalize hy : y0 * 2 ^ 8 + y1 = y at *
        rw [show ((y0 * 2 ^ 8 : Nat) : Int) = (y0 : Int) * 256 by omega] at hor
        have HY := Lib.hid hy
        clear hy
        have hraw : bits .or .i64 (IntKind.i64.wrap (IntKind.i64.wrap (y0 : Int) * 256)) (IntKind.i64.wrap (y1 : Int)) = (y : Int) := by
          rw [IntWalk.i64_in (y0 : Int) (by omega), IntWalk.i64_in (y1 : Int) (by omega), IntWalk.i64_in ((y0 : Int) * 256) (by omega)]; exact hor
        generalize d.drop 2 = d2 at *
        generalize d.drop 6 = d6 at *
        have HROWQ := Lib.hid (show ∀ q : Nat, Row 66 2 A2 acc.length cc2 (setCells acc) S2 ((wr.drewN q).alloc (.cells #[.int .i64 y, .int .i64 (num4 d2)] 66)) from fun q => HROW.out.loc fun j hj => Below.heap_alloc (wr.drewN q) _ j (HROW.out.lt j hj))
        have HSRCQ := Lib.hid (show ∀ q : Nat, Src Tryd.prog ((wr.drewN q).alloc (.cells #[.int .i64 y, .int .i64 (num4 d2)] 66)) 2 (.slice (some ⟨wr.heap.size, 0, none⟩) 1 1) 1 [.int .i64 y, .int .i64 (num4 d2)] from fun q => Src.of_rd (Row.made (e := 66) (cs := [.int .i64 y, .int .i64 (num4 d2)]) (Blk.push (by simp)) (Nat.le_refl _) (by simp [maxLen]) (by simp) rfl).rd (by simp [Value.oneCell']))
        have HKQ := Lib.hid (show ∀ (q : Nat) (S' : Own) (w4 : World), Upd S2 S' ((wr.drewN q).alloc (.cells #[.int .i64 y, .int .i64 (num4 d2)] 66)) w4 → w4.cell? ⟨w.heap.size + 3, 5, none⟩ = some (.slice A2 acc.length cc2) ∧ w4.frozen? ⟨w.heap.size + 3, 5, none⟩ = false ∧ w4.cell? ⟨ab, ao, none⟩ = some (.int .u8 y0) ∧ w4.cell? ⟨ab, ao + 1, none⟩ = some (.int .u8 y1) from
          fun q S' w4 hu => ⟨(hu.cell (a := ⟨w.heap.size + 3, 5, none⟩) (by simp; omega) ns3).trans ((World.cell?_alloc_lt (wr.drewN q) _ _ n3).trans c35),
            (hu.frozen (a := ⟨w.heap.size + 3, 5, none⟩) (by simp; omega) ns3).trans ((World.frozen?_of_block (w := wr.drewN q) (Below.heap_alloc (wr.drewN q) _ (w.heap.size + 3) n3)).trans f35),
            (hu.cell (a := ⟨ab, ao, none⟩) (by simp; omega) nsa).trans ((World.cell?_alloc_lt (wr.drewN q) _ _ hab2).trans e0),
            (hu.cell (a := ⟨ab, ao + 1, none⟩) (by simp; omega) nsa).trans ((World.cell?_alloc_lt (wr.drewN q) _ _ hab2).trans e1)⟩)
        have h63 : acc.length + 1 ≤ maxLen := by simp only [maxLen]; omega
        have hbb : (acc.length + 1) * 16 ≤ big := by simp only [big]; omega
        have j0 : (0 : Int) < (d.length : Int) := by omega
        have j00 : 0 < d.length := by omega
        have j1 : (1 : Int) < (d.length : Int) := by omega
        simp only [Nat.add_zero] at e0
        go_wp2
        refine wp_region_S (fun w' => w'.cell? ⟨w.heap.size + 3, 5, none⟩ = some (.slice A2 acc.length cc2) ∧ w'.frozen? ⟨w.heap.size + 3, 5, none⟩ = false ∧ w'.cell? ⟨ab, ao, none⟩ = some (.int .u8 y0) ∧ w'.cell? ⟨ab, ao + 1, none⟩ = some (.int .u8 y1)) 19 (by kernel_rfl) (⟨c35, f35, e0, e1⟩) (fun hHeld => ?_)
        refine AnyS_take (i := 0) (v := ?_) rfl (by kernel_rfl) (by kernel_rfl) (by kernel_rfl) (by kernel_rfl) (by kernel_rfl) (fun _ _ _ h => h) (Or.inl ⟨by rfl, ?_⟩) hHeld ?_
        rotate_left
        · intro w' hSw
          (try dsimp only at hSw)
          go_simp
          try with_reducible rfl
        try simp only [Act.put, List.setIfInBounds_toArray, List.set_cons_zero, List.set_cons_succ]
        refine AnyS_take (i := 1) (v := ?_) rfl (by kernel_rfl) (by kernel_rfl) (by kernel_rfl) (by kernel_rfl) (by kernel_rfl) (fun _ _ _ h => h) (Or.inl ⟨by rfl, ?_⟩) hHeld ?_
        rotate_left
        · intro w' hSw
          (try dsimp only at hSw)
          go_simp
          try with_reducible rfl
        try simp only [Act.put, List.setIfInBounds_toArray, List.set_cons_zero, List.set_cons_succ]
        refine AnyS_take (i := 2) (v := ?_) rfl (by kernel_rfl) (by kernel_rfl) (by kernel_rfl) (by kernel_rfl) (by kernel_rfl) (fun _ _ _ h => h) (Or.inl ⟨by rfl, ?_⟩) hHeld ?_
        rotate_left
        · intro w' hSw
          (try dsimp only at hSw)
          go_simp
          try with_reducible rfl
        try simp only [Act.put, List.setIfInBounds_toArray, List.set_cons_zero, List.set_cons_succ]
        refine AnyS_take (i := 3) (v := ?_) rfl (by kernel_rfl) (by kernel_rfl) (by kernel_rfl) (by kernel_rfl) (by kernel_rfl) (fun _ _ _ h => h) (Or.inl ⟨by rfl, ?_⟩) hHeld ?_
        rotate_left
        · intro w' hSw
          (try dsimp only at hSw)
          go_simp
          try with_reducible rfl
        try simp only [Act.put, List.setIfInBounds_toArray, List.set_cons_zero, List.set_cons_succ]
        refine AnyS_take (i := 4) (v := ?_) rfl (by kernel_rfl) (by kernel_rfl) (by kernel_rfl) (by kernel_rfl) (by kernel_rfl) (fun _ _ _ h => h) (Or.inl ⟨by rfl, ?_⟩) hHeld ?_
        rotate_left
        · intro w' hSw
          (try dsimp only at hSw)
          go_simp
          try with_reducible rfl
        try simp only [Act.put, List.setIfInBounds_toArray, List.set_cons_zero, List.set_cons_succ]
        refine AnyS_take (i := 5) (v := ?_) rfl (by kernel_rfl) (by kernel_rfl) (by kernel_rfl) (by kernel_rfl) (by kernel_rfl) (fun _ _ _ h => h) (Or.inl ⟨by rfl, ?_⟩) hHeld ?_
        rotate_left
        · intro w' hSw
          (try dsimp only at hSw)
          go_simp
          try with_reducible rfl
        try simp only [Act.put, List.setIfInBounds_toArray, List.set_cons_zero, List.set_cons_succ]
        refine AnyS_take (i := 6) (v := ?_) rfl (by kernel_rfl) (by kernel_rfl) (by kernel_rfl) (by kernel_rfl) (by kernel_rfl) (fun _ _ _ h => h) (Or.inl ⟨by rfl, ?_⟩) hHeld ?_
        rotate_left
        · intro w' hSw
          (try dsimp only at hSw)
          go_simp
          try with_reducible rfl
        try simp only [Act.put, List.setIfInBounds_toArray, List.set_cons_zero, List.set_cons_succ]
        refine AnyS_take (i := 7) (v := ?_) rfl (by kernel_rfl) (by kernel_rfl) (by kernel_rfl) (by kernel_rfl) (by kernel_rfl) (fun _ _ _ h => h) (Or.inl ⟨by rfl, ?_⟩) hHeld ?_
        rotate_left
        · intro w' hSw
          (try dsimp only at hSw)
          go_simp
          try with_reducible rfl
        try simp only [Act.put, List.setIfInBounds_toArray, List.set_cons_zero, List.set_cons_succ]
        refine AnyS_take (i := 8) (v := ?_) rfl (by kernel_rfl) (by kernel_rfl) (by kernel_rfl) (by kernel_rfl) (by kernel_rfl) (fun _ _ _ h => h) (Or.inl ⟨by rfl, ?_⟩) hHeld ?_
        rotate_left
        · intro w' hSw
          (try dsimp only at hSw)
          go_simp
          try with_reducible rfl
        try simp only [Act.put, List.setIfInBounds_toArray, List.set_cons_zero, List.set_cons_succ]
        refine AnyS_take (i := 9) (v := ?_) rfl (by kernel_rfl) (by kernel_rfl) (by kernel_rfl) (by kernel_rfl) (by kernel_rfl) (fun _ _ _ h => h) (Or.inl ⟨by rfl, ?_⟩) hHeld ?_
        rotate_left
        · intro w' hSw
          (try dsimp only at hSw)
          go_simp
          try with_reducible rfl
        try simp only [Act.put, List.setIfInBounds_toArray, List.set_cons_zero, List.set_cons_succ]
        refine AnyS_take (i := 10) (v := ?_) rfl (by kernel_rfl) (by kernel_rfl) (by kernel_rfl) (by kernel_rfl) (by kernel_rfl) (fun _ _ _ h => h) (Or.inl ⟨by rfl, ?_⟩) hHeld ?_
        rotate_left
        · intro w' hSw
          (try dsimp only at hSw)
          go_simp
          try with_reducible rfl
        try simp only [Act.put, List.setIfInBounds_toArray, List.set_cons_zero, List.set_cons_succ]
        refine AnyS_take (i := 11) (v := ?_) rfl (by kernel_rfl) (by kernel_rfl) (by kernel_rfl) (by kernel_rfl) (by kernel_rfl) (fun _ _ _ h => h) (Or.inl ⟨by rfl, ?_⟩) hHeld ?_
        rotate_left
        · intro w' hSw
          (try dsimp only at hSw)
          go_simp
          try with_reducible rfl
        try simp only [Act.put, List.setIfInBounds_toArray, List.set_cons_zero, List.set_cons_succ]
        refine AnyS_take (i := 12) (v := ?_) rfl (by kernel_rfl) (by kernel_rfl) (by kernel_rfl) (by kernel_rfl) (by kernel_rfl) (fun _ _ _ h => h) (Or.inl ⟨by rfl, ?_⟩) hHeld ?_
        rotate_left
        · intro w' hSw
          (try dsimp only at hSw)
          go_simp
          try with_reducible rfl
        try simp only [Act.put, List.setIfInBounds_toArray, List.set_cons_zero, List.set_cons_succ]
        refine AnyS_take (i := 13) (v := ?_) rfl (by kernel_rfl) (by kernel_rfl) (by kernel_rfl) (by kernel_rfl) (by kernel_rfl) (fun _ _ _ h => h) (Or.inl ⟨by rfl, ?_⟩) hHeld ?_
        rotate_left
        · intro w' hSw
          (try dsimp only at hSw)
          go_simp
          try with_reducible rfl
        try simp only [Act.put, List.setIfInBounds_toArray, List.set_cons_zero, List.set_cons_succ]
        refine AnyS_step (i := 14) rfl (by kernel_rfl) rfl (fun K hK => ?_)
        go_simp
        refine (partNumber_any d2 A3 k3 _ (HR3.out _ ?_) h34).mono ?_
        · (focus repeat' (first | (with_reducible exact Below.refl _ _) | (with_reducible assumption) | (with_reducible refine Below.alloc ?_ ?_ _) | (with_reducible refine Below.drew ?_) | (with_reducible refine below_drewN ?_ _) | (with_reducible refine Below.setCell ?_ ?_ _) | (with_reducible refine Below.frame ?_ _) | go_size))
        rintro e w' ⟨rfl, nn, rfl⟩
        refine hK.out _ _ (⟨by simp [c35], by simp [f35], by simp [e0], by simp [e1]⟩) (fun hHeld => ?_)
        clear hK K
        try simp only [Act.put, List.setIfInBounds_toArray, List.set_cons_zero, List.set_cons_succ]
        refine AnyS_take (i := 15) (v := ?_) rfl (by kernel_rfl) (by kernel_rfl) (by kernel_rfl) (by kernel_rfl) (by kernel_rfl) (fun _ _ _ h => h) (Or.inl ⟨by rfl, ?_⟩) hHeld ?_
        rotate_left
        · intro w' hSw
          (try dsimp only at hSw)
          go_simp
          try with_reducible rfl
        try simp only [Act.put, List.setIfInBounds_toArray, List.set_cons_zero, List.set_cons_succ]
        refine AnyS_step (i := 16) rfl (by kernel_rfl) rfl (fun K hK => ?_)
        go_simp
        refine hK.out _ _ (HKQ.out _ _ _ (Upd.refl _ _)) (fun hHeld => ?_)
        clear hK K
        try simp only [Act.put, List.setIfInBounds_toArray, List.set_cons_zero, List.set_cons_succ]
        refine AnyS_step (i := 17) rfl (by kernel_rfl) rfl (fun K hK => ?_)
        refine wp_append _ _ _ _ (by rfl) 66 2 16 tySets tySets.src A2 acc.length cc2 (setCells acc) S2 (.slice (some ⟨wr.heap.size, 0, none⟩) 1 1) 1 [.int .i64 y, .int .i64 (num4 d2)] (by rfl) (by rfl) (HROWQ.out _) (HSRCQ.out _) h63 hbb ?_
        intro A5 c5 w4 S5 hr4 hu4 ha4
        refine hK.out _ _ (HKQ.out _ _ _ hu4) (fun hHeld => ?_)
        clear hK K
        try simp only [Act.put, List.setIfInBounds_toArray, List.set_cons_zero, List.set_cons_succ]
        obtain ⟨k35, kf35, -, -⟩ := hHeld
        have hHeld := HKQ.out _ _ _ hu4
        refine AnyS_plain (i := 18) (v := ?_) rfl (by kernel_rfl) (by kernel_rfl) (by kernel_rfl) (by kernel_rfl) (fun _ _ _ h => h) (Or.inl ⟨by rfl, ?_⟩) hHeld ?_
        rotate_left
        · intro w' hSw
          (try dsimp only at hSw)
          go_simp
          try with_reducible rfl
        try simp only [Act.put, List.setIfInBounds_toArray, List.set_cons_zero, List.set_cons_succ]
        refine AnyS_stepT (i := 19) rfl (by kernel_rfl) (by kernel_rfl) rfl (fun K hK => ?_)
        go_simp
        refine hK.out _ _ ?_
        clear hK K
        refine AnyS_done (by kernel_rfl) (NoPanic.normal ?_) _
        try simp only [Act.put, List.setIfInBounds_toArray, List.set_cons_zero, List.set_cons_succ]
        clear k35 kf35 hHeld
        go_wp2
        have hb4 : Below w.heap.size w w4 := ((below_drewN HBEL.out (1 + nn)).alloc (by go_size) _).trans (hu4.below (fun k hk => by have := HOWN.out k hk; omega) (by simp; omega))
        have hs4 := hu4.size
        have ho5 : ∀ k, S5 k → w.heap.size + 4 ≤ k := fun k hk => (hu4.own k hk).elim (fun h => HOWN.out k h) (fun h => by simp at h; omega)
        refine ⟨⟨acc ++ [(y, num4 d2)], d6, A6, k6, A5, c5, S5, rfl, fun _ => HBO6.out, ?_, by have := HL6.out; omega, ?_, by have := HL6.out; simp; omega, ?_, ?_, ?_, ?_, ?_, ?_, ho5⟩, ?_⟩
        · refine HR6.out.keep fun k hk => ?_
          have hkl := HBO6.out k hk
          exact (heap_set_other _ (by simp; omega)).trans ((hu4.block k (by simp; omega) (fun h => by have := HOWN.out k h; omega)).trans (Below.heap_alloc (wr.drewN (1 + nn)) _ k (by simp; omega)))
        · rw [← HSUM.out, HV.out, ← HY.out]; simp
        · exact hb4.setCell (by simp; omega) _
        · simp at hs4 ⊢; omega
        · exact (((B1.out.drewN (1 + nn)).alloc _).upd hu4 (fun h => by have := HOWN.out _ h; omega)).far (by simp) _
        · exact (((B2.out.drewN (1 + nn)).alloc _).upd hu4 (fun h => by have := HOWN.out _ h; omega)).far (by simp) _
        · have := (((B3.out.drewN (1 + nn)).alloc (.cells #[.int .i64 y, .int .i64 (num4 d2)] 66)).upd hu4 ns3).set 5 (.slice A5 (acc.length + 1) c5)
          simpa using this
        · have h6 : Row 66 2 A5 (acc.length + 1) c5 (setCells acc ++ [.int .i64 y, .int .i64 (num4 d2)]) S5 (w4.setCell ⟨w.heap.size + 1 + 1 + 1, 5, none⟩ (.slice A5 (acc.length + 1) c5)) := hr4.loc fun k hk => heap_set_other _ (by have := ho5 k hk; simp; omega)
          rw [setCells_snoc]
          simpa using h6
        · have := HL6.out
          show d6.length < d.length
          omega


set_option maxRecDepth 100000 in
set_option maxHeartbeats 1000000 in
theorem settings_any (f : FrameS) (A : Option Addr) (c : Nat) (w : World) (hf : f.Ok) (hr : Rd w 1 A f.body.length c (bys f.body)) :
    Calls Tryd.prog 40 #[f.v A c] w (PartQ (settingsS f) w) := by
  obtain ⟨kind, flags, stream, l⟩ := f
  obtain ⟨hk, hfl, hst, hl⟩ := hf
  simp only at hk hfl hst hl hr
  simp only [settingsS, FrameS.v]
  unfold connS
  by_cases hs : stream = 0
  · rw [if_neg (by omega)]
    by_cases hbad : (0 < flags &&& 1 ∧ 0 < l.length) ∨ 0 < l.length % 6
    · rw [if_pos hbad]
      have ts : ((stream : Int) != 0) = false := by rw [hs]; rfl
      have ha1 : bits .and .i64 (flags : Int) 1 = ((flags &&& 1 : Nat) : Int) := andNat flags 1 hfl (by omega)
      generalize flags &&& 1 = m1 at *
      have HB := Lib.hid hbad
      clear hs hbad hr
      by_cases hm : 0 < m1
      · have tm : decide (0 < m1) = true := decide_eq_true hm
        by_cases h0 : 0 < l.length
        · have t0 : decide (0 < l.length) = true := decide_eq_true h0
          clear hm h0
          go_enter Tryd.func40, Tryd.ntmps40
          go_wp2_with (first | (go_at_call 41; refine (partConn_any _ _).mono ?_; rintro e w' ⟨rfl, hb⟩; obtain ⟨hc1, hf1⟩ := bcell hb; have hz := hb.size; replace hb : Below w.heap.size w w' := bcall hb (by (focus repeat' (first | (with_reducible exact Below.refl _ _) | (with_reducible assumption) | (with_reducible refine Below.alloc ?_ ?_ _) | (with_reducible refine Below.drew ?_) | (with_reducible refine below_drewN ?_ _) | (with_reducible refine Below.setCell ?_ ?_ _) | (with_reducible refine Below.frame ?_ _) | go_size)))))
          refine bodyPost_ret (v := .tuple #[(noPart : PartS).v none 0 none 0, (⟨true, true, 6⟩ : Fault).v]) (by (simp [results, Tryd.results40, go_sem, noPart, noFault, PartS.v, Fault.v, hc1, hz]; try omega)) rfl ?_; exact PartQ.plain (by (focus repeat' (first | (with_reducible exact Below.refl _ _) | (with_reducible assumption) | (with_reducible refine Below.alloc ?_ ?_ _) | (with_reducible refine Below.drew ?_) | (with_reducible refine below_drewN ?_ _) | (with_reducible refine Below.setCell ?_ ?_ _) | (with_reducible refine Below.frame ?_ _) | go_size))) rfl rfl
        · have t0 : decide (0 < l.length) = false := decide_eq_false h0
          have h6 : 0 < l.length % 6 := by rcases HB.out with h | h; exact absurd h.2 h0; exact h
          have t6 : decide (0 < l.length % 6) = true := decide_eq_true h6
          exact absurd h6 (by omega)
      · have tm : decide (0 < m1) = false := decide_eq_false hm
        have h6 : 0 < l.length % 6 := by rcases HB.out with h | h; exact absurd h.1 hm; exact h
        have t6 : decide (0 < l.length % 6) = true := decide_eq_true h6
        have t6b : decide ((0 : Int) < (l.length : Int) % 6) = true := decide_eq_true (by omega)
        clear hm h6
        go_enter Tryd.func40, Tryd.ntmps40
        go_wp2_with (first | (go_at_call 41; refine (partConn_any _ _).mono ?_; rintro e w' ⟨rfl, hb⟩; obtain ⟨hc1, hf1⟩ := bcell hb; have hz := hb.size; replace hb : Below w.heap.size w w' := bcall hb (by (focus repeat' (first | (with_reducible exact Below.refl _ _) | (with_reducible assumption) | (with_reducible refine Below.alloc ?_ ?_ _) | (with_reducible refine Below.drew ?_) | (with_reducible refine below_drewN ?_ _) | (with_reducible refine Below.setCell ?_ ?_ _) | (with_reducible refine Below.frame ?_ _) | go_size)))))
        refine bodyPost_ret (v := .tuple #[(noPart : PartS).v none 0 none 0, (⟨true, true, 6⟩ : Fault).v]) (by (simp [results, Tryd.results40, go_sem, noPart, noFault, PartS.v, Fault.v, hc1, hz]; try omega)) rfl ?_; exact PartQ.plain (by (focus repeat' (first | (with_reducible exact Below.refl _ _) | (with_reducible assumption) | (with_reducible refine Below.alloc ?_ ?_ _) | (with_reducible refine Below.drew ?_) | (with_reducible refine below_drewN ?_ _) | (with_reducible refine Below.setCell ?_ ?_ _) | (with_reducible refine Below.frame ?_ _) | go_size))) rfl rfl
    · rw [if_neg hbad]
      exact settings_ok kind flags stream l A c w hfl hs hl hr hbad
  · have ts : ((stream : Int) != 0) = true := bne_iff_ne.2 (by omega)
    rw [if_pos hs]
    have ha1 : bits .and .i64 (flags : Int) 1 = ((flags &&& 1 : Nat) : Int) := andNat flags 1 hfl (by omega)
    generalize flags &&& 1 = m1 at *
    clear hs hr
    go_enter Tryd.func40, Tryd.ntmps40
    go_wp2_with (first | (go_at_call 41; refine (partConn_any _ _).mono ?_; rintro e w' ⟨rfl, hb⟩; obtain ⟨hc1, hf1⟩ := bcell hb; have hz := hb.size; replace hb : Below w.heap.size w w' := bcall hb (by (focus repeat' (first | (with_reducible exact Below.refl _ _) | (with_reducible assumption) | (with_reducible refine Below.alloc ?_ ?_ _) | (with_reducible refine Below.drew ?_) | (with_reducible refine below_drewN ?_ _) | (with_reducible refine Below.setCell ?_ ?_ _) | (with_reducible refine Below.frame ?_ _) | go_size)))))
    refine bodyPost_ret (v := .tuple #[(noPart : PartS).v none 0 none 0, (⟨true, true, 1⟩ : Fault).v]) (by (simp [results, Tryd.results40, go_sem, noPart, noFault, PartS.v, Fault.v, hc1, hz]; try omega)) rfl ?_; exact PartQ.plain (by (focus repeat' (first | (with_reducible exact Below.refl _ _) | (with_reducible assumption) | (with_reducible refine Below.alloc ?_ ?_ _) | (with_reducible refine Below.drew ?_) | (with_reducible refine below_drewN ?_ _) | (with_reducible refine Below.setCell ?_ ?_ _) | (with_reducible refine Below.frame ?_ _) | go_size))) rfl rfl
end Go.Proofs.YthmfifcogokpoaaDoor
