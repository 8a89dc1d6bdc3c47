/- What is proved here: contracts of the program's functions and plain lemmas that the claim's last text uses, in parts: package watch: applies, up to its loop. -/
import Derived.Test.YthmfifcogokpoaaDoorM20
set_option linter.unusedVariables false
set_option linter.unusedSimpArgs false
namespace Go.Proofs.YthmfifcogokpoaaDoor
open Go.RowKit
open Go.ChangeMaps (setBlock)

theorem elemWaits : Tryd.prog.underlying 57 = some (.slice (Tryd.prog.elem 57)) := by
  rw [show Tryd.prog.elem 57 = 63 from by kernel_rfl]
  exact Tryd.underlying57
theorem Row.cutW {w : World} {S : Own} {A : Option Addr} {n c : Nat} {xs : List Value} (h : Row 63 1 A n c xs S w) (hn : 1 ≤ n) :
    ∃ A1 c1, (∀ W, (Instr.slice 57 (.slice A n c) (some (.int .i64 1)) none none).run Tryd.prog W = .ok (.slice A1 (n - 1) c1) W) ∧ Row 63 1 A1 (n - 1) c1 (xs.drop 1) S w := by
  have hd := h.drop (k := 1) hn
  refine ⟨_, _, fun W => ?_, hd⟩
  rw [run_slice_l W _ A _ _ elemWaits .i64 1 (by omega) (by omega)]
  have hs : (sizeOf (Tryd.prog.elem 57)).run Tryd.prog W = .ok 1 W := by kernel_rfl
  simp only [show (1 : Int).toNat = 1 from rfl]
  rw [hs]
  rfl
/-- The eldest settings. -/
theorem WAt.first {w : World} {b : Nat} {v : Locs} {s : WatchS} {S : Own} (h : WAt w b v s S) {l : List (Nat × Nat)} {r : List (List (Nat × Nat))} (hw : s.waits = l :: r) :
    ∃ g o A0 c0, v.wA = some ⟨g, o, none⟩ ∧ w.cell? ⟨g, o, none⟩ = some (.slice A0 l.length c0) ∧ Rd w 2 A0 l.length c0 (setCells l) ∧ g < w.heap.size := by
  obtain ⟨T, ⟨hs, hlh, Sr, Se, hrow, hrest, hap, hiff⟩, -, -⟩ := h.focus 5 rfl
  rw [hw] at hlh hrow hrest
  cases hs with
  | nil => simp at hlh
  | cons h0 hs' =>
    obtain ⟨E0, E1, hr0, -⟩ := hrest
    obtain ⟨g, o, hA, hcell⟩ := (Row.rd hrow).form (by simp)
    have h1 := hcell 0 (.slice h0.1 l.length h0.2) (by simp)
    simp only [Nat.add_zero] at h1
    exact ⟨g, o, h0.1, h0.2, hA, h1, Row.rd hr0, World.block_lt_of_cell? _ _ h1⟩
/-- Without it. -/
theorem WAt.behind {w : World} {b : Nat} {v : Locs} {s : WatchS} {S : Own} (h : WAt w b v s S) {l : List (Nat × Nat)} {r : List (List (Nat × Nat))} (hw : s.waits = l :: r) :
    ∃ A1 c1 S', (∀ W, (Instr.slice 57 (.slice v.wA (r.length + 1) v.wc) (some (.int .i64 1)) none none).run Tryd.prog W = .ok (.slice A1 r.length c1) W) ∧
      WAt (w.setCell ⟨b, 9, none⟩ (.slice A1 r.length c1)) b { v with wA := A1, wc := c1 } { s with waits := r } S' ∧ Upd S S' w (w.setCell ⟨b, 9, none⟩ (.slice A1 r.length c1)) := by
  obtain ⟨T, ⟨hs, hlh, Sr, Se, hrow, hrest, hap, hiff⟩, -, -, hfin⟩ := h.focusB 4 rfl
  rw [hw] at hlh hrow hrest
  cases hs with
  | nil => simp at hlh
  | cons h0 hs' =>
    obtain ⟨E0, E1, hr0, hr1, -, hiff2⟩ := hrest
    obtain ⟨A1, c1, hsl, hrow1⟩ := Row.cutW hrow (by simp)
    simp only [List.length_cons, Nat.add_sub_cancel] at hsl hrow1
    have hap2 : Apart Sr E1 := fun k h1 h2 => hap k h1 ((hiff2 k).2 (.inr h2))
    obtain ⟨S', k1, u1⟩ := hfin w (or_ Sr E1) (waitsP A1 c1 r) 9 (.slice A1 r.length c1) { v with wA := A1, wc := c1 } { s with waits := r }
      ⟨hs', by simpa using hlh, StarL.cons (p := rowP 63 1 A1 r.length c1 (List.zipWith (fun h l => Value.slice h.1 l.length h.2) hs' r)) (by show Row _ _ _ _ _ _ _ _; simpa using hrow1) hr1 hap2⟩
      ((Upd.refl T w).holds fun k hk => .inl ((hiff k).2 (hk.imp id fun h => (hiff2 k).2 (.inr h))))
      (by simp [WatchS.cells]) rfl h.kbs
    exact ⟨A1, c1, S', hsl, k1, u1⟩

theorem heap_sets6 (W : World) (b : Nat) (now : SetsS) (k : Nat) (hk : k ≠ b) : ((((((W.setCell ⟨b, 10, none⟩ (.int .i64 now.table)).setCell ⟨b, 11, none⟩ (.int .i64 now.push)).setCell ⟨b, 12, none⟩ (.int .i64 now.streams)).setCell ⟨b, 13, none⟩ (.int .i64 now.window)).setCell ⟨b, 14, none⟩ (.int .i64 now.frame)).setCell ⟨b, 15, none⟩ (.int .i64 now.list)).heap[k]? = W.heap[k]? := by
  refine (heap_set_other (w := (((((W.setCell ⟨b, 10, none⟩ (.int .i64 now.table)).setCell ⟨b, 11, none⟩ (.int .i64 now.push)).setCell ⟨b, 12, none⟩ (.int .i64 now.streams)).setCell ⟨b, 13, none⟩ (.int .i64 now.window)).setCell ⟨b, 14, none⟩ (.int .i64 now.frame))) (a := ⟨b, 15, none⟩) (.int .i64 now.list) hk).trans ?_
  refine (heap_set_other (w := ((((W.setCell ⟨b, 10, none⟩ (.int .i64 now.table)).setCell ⟨b, 11, none⟩ (.int .i64 now.push)).setCell ⟨b, 12, none⟩ (.int .i64 now.streams)).setCell ⟨b, 13, none⟩ (.int .i64 now.window))) (a := ⟨b, 14, none⟩) (.int .i64 now.frame) hk).trans ?_
  refine (heap_set_other (w := (((W.setCell ⟨b, 10, none⟩ (.int .i64 now.table)).setCell ⟨b, 11, none⟩ (.int .i64 now.push)).setCell ⟨b, 12, none⟩ (.int .i64 now.streams))) (a := ⟨b, 13, none⟩) (.int .i64 now.window) hk).trans ?_
  refine (heap_set_other (w := ((W.setCell ⟨b, 10, none⟩ (.int .i64 now.table)).setCell ⟨b, 11, none⟩ (.int .i64 now.push))) (a := ⟨b, 12, none⟩) (.int .i64 now.streams) hk).trans ?_
  refine (heap_set_other (w := (W.setCell ⟨b, 10, none⟩ (.int .i64 now.table))) (a := ⟨b, 11, none⟩) (.int .i64 now.push) hk).trans ?_
  refine (heap_set_other (w := W) (a := ⟨b, 10, none⟩) (.int .i64 now.table) hk).trans ?_
  rfl
theorem heap_sets7 (W : World) (b : Nat) (now : SetsS) (bad : Bool) (k : Nat) (hk : k ≠ b) : (((((((W.setCell ⟨b, 10, none⟩ (.int .i64 now.table)).setCell ⟨b, 11, none⟩ (.int .i64 now.push)).setCell ⟨b, 12, none⟩ (.int .i64 now.streams)).setCell ⟨b, 13, none⟩ (.int .i64 now.window)).setCell ⟨b, 14, none⟩ (.int .i64 now.frame)).setCell ⟨b, 15, none⟩ (.int .i64 now.list)).setCell ⟨b, 4, none⟩ (.bool bad)).heap[k]? = W.heap[k]? :=
  (heap_set_other (w := ((((((W.setCell ⟨b, 10, none⟩ (.int .i64 now.table)).setCell ⟨b, 11, none⟩ (.int .i64 now.push)).setCell ⟨b, 12, none⟩ (.int .i64 now.streams)).setCell ⟨b, 13, none⟩ (.int .i64 now.window)).setCell ⟨b, 14, none⟩ (.int .i64 now.frame)).setCell ⟨b, 15, none⟩ (.int .i64 now.list))) (a := ⟨b, 4, none⟩) (.bool bad) hk).trans (heap_sets6 W b now k hk)
theorem drew_heap (W : World) : W.drew.heap = W.heap := rfl
theorem heap_sets6d (W : World) (b : Nat) (now : SetsS) (k : Nat) (hk : k ≠ b) : ((((((W.setCell ⟨b, 10, none⟩ (.int .i64 now.table)).setCell ⟨b, 11, none⟩ (.int .i64 now.push)).setCell ⟨b, 12, none⟩ (.int .i64 now.streams)).setCell ⟨b, 13, none⟩ (.int .i64 now.window)).setCell ⟨b, 14, none⟩ (.int .i64 now.frame)).setCell ⟨b, 15, none⟩ (.int .i64 now.list)).drew.heap[k]? = W.heap[k]? := by
  rw [drew_heap]
  exact heap_sets6 W b now k hk
theorem heap_sets7d (W : World) (b : Nat) (now : SetsS) (bad : Bool) (k : Nat) (hk : k ≠ b) : (((((((W.setCell ⟨b, 10, none⟩ (.int .i64 now.table)).setCell ⟨b, 11, none⟩ (.int .i64 now.push)).setCell ⟨b, 12, none⟩ (.int .i64 now.streams)).setCell ⟨b, 13, none⟩ (.int .i64 now.window)).setCell ⟨b, 14, none⟩ (.int .i64 now.frame)).setCell ⟨b, 15, none⟩ (.int .i64 now.list)).setCell ⟨b, 4, none⟩ (.bool bad)).drew.heap[k]? = W.heap[k]? := by
  rw [drew_heap]
  exact heap_sets7 W b now bad k hk
/-- Its own block as a whole. -/
theorem WAt.reblock {w w' : World} {b : Nat} {v : Locs} {s : WatchS} {S : Own} (h : WAt w b v s S) (s' : WatchS) (hb : Blk w' b 59 (s'.cells v)) (hu : Upd (one_ b) (one_ b) w w') (hr : (watL b v s).drop 1 = (watL b v s').drop 1) (hm : s'.m.length = s.m.length) :
    ∃ S', WAt w' b v s' S' ∧ Upd S S' w w' := by
  obtain ⟨S1, h1, h2, h3⟩ := h.focus 0 rfl
  have hu1 : Upd S1 S1 w w' := (hu.wider (R := S1) (fun k hk => (h1.2 k).2 hk)).holds fun k hk => .inl hk
  refine h3 _ S1 (blkP b 59 (s'.cells v)) v s' ⟨hb, h1.2⟩ hu1 ?_ (by rw [hm]; exact h.kbs)
  simp only [watL, List.set_cons_zero, List.drop_succ_cons, List.drop_zero] at hr ⊢
  rw [hr]
theorem WAt.setSets {w : World} {b : Nat} {v : Locs} {s : WatchS} {S : Own} (h : WAt w b v s S) (now : SetsS) (bad : Bool) :
    ∃ S', WAt (((((((w.setCell ⟨b, 10, none⟩ (.int .i64 now.table)).setCell ⟨b, 11, none⟩ (.int .i64 now.push)).setCell ⟨b, 12, none⟩ (.int .i64 now.streams)).setCell ⟨b, 13, none⟩ (.int .i64 now.window)).setCell ⟨b, 14, none⟩ (.int .i64 now.frame)).setCell ⟨b, 15, none⟩ (.int .i64 now.list)).setCell ⟨b, 4, none⟩ (.bool bad)) b v { s with sets := now, blind := bad } S' ∧ Upd S S' w (((((((w.setCell ⟨b, 10, none⟩ (.int .i64 now.table)).setCell ⟨b, 11, none⟩ (.int .i64 now.push)).setCell ⟨b, 12, none⟩ (.int .i64 now.streams)).setCell ⟨b, 13, none⟩ (.int .i64 now.window)).setCell ⟨b, 14, none⟩ (.int .i64 now.frame)).setCell ⟨b, 15, none⟩ (.int .i64 now.list)).setCell ⟨b, 4, none⟩ (.bool bad)) :=
  h.reblock { s with sets := now, blind := bad } (((((((h.blk.set 10 (.int .i64 now.table)).set 11 (.int .i64 now.push)).set 12 (.int .i64 now.streams)).set 13 (.int .i64 now.window)).set 14 (.int .i64 now.frame)).set 15 (.int .i64 now.list)).set 4 (.bool bad)) ((((((((Upd.refl (one_ b) w).setCell (p := ⟨b, 10, none⟩) (.inl rfl) (.int .i64 now.table)).setCell (p := ⟨b, 11, none⟩) (.inl rfl) (.int .i64 now.push)).setCell (p := ⟨b, 12, none⟩) (.inl rfl) (.int .i64 now.streams)).setCell (p := ⟨b, 13, none⟩) (.inl rfl) (.int .i64 now.window)).setCell (p := ⟨b, 14, none⟩) (.inl rfl) (.int .i64 now.frame)).setCell (p := ⟨b, 15, none⟩) (.inl rfl) (.int .i64 now.list)).setCell (p := ⟨b, 4, none⟩) (.inl rfl) (.bool bad)) rfl rfl

set_option maxRecDepth 100000 in
set_option maxHeartbeats 1000000 in
theorem ap_rest (w W : World) (b : Nat) (v : Locs) (s : WatchS) (S S0 : Own) (h : WAt W b v s S0) (hu : Upd S S0 w W) (hw : ∀ x ∈ s.m, Go.Proofs.YthmfifcogokpoaaDoor.W x.2.window) (hs0 : 0 ≤ s.sets.window ∧ s.sets.window ≤ 2147483647) (l : List (Nat × Nat)) (r : List (List (Nat × Nat))) (hwt : s.waits = l :: r) (now : SetsS) (x : Fault) (hnow : 0 ≤ now.window ∧ now.window ≤ 2147483647) (nb xb : Nat) (hnb : Blk W nb 53 now.cells) (hxb : Blk W xb 84 [.bool x.bad, .bool x.conn, .int .i64 x.code]) (u1 u2 u5 u6 u7 u8 u9 u10 u11 u12 u13 u14 u15 u16 u17 u18 u19 u20 u21 u22 u23 u24 u25 u26 u27 u28 u29 u30 u31 u32 u33 u34 u35 u36 u37 u38 u39 u40 u41 u42 u43 u44 u45 u46 u47 u48 u49 u50 u51 u52 u53 u54 u55 u56 u57 u58 u59 u60 u61 u62 u63 u64 u65 u66 u67 u68 u69 u70 u71 u72 u73 u74 u75 u76 u77 u78 u79 u80 u81 u82 u83 u84 u85 u86 u87 u88 : Value) :
    tailW Tryd.prog 3 apBody (ApP b (true, shiftAll (now.window - s.sets.window) { s with waits := r, sets := now, blind := x.bad }) S w) ⟨#[.pointer (some ⟨b, 0, none⟩), u1, u2, .pointer (some ⟨nb, 0, none⟩), .pointer (some ⟨xb, 0, none⟩), u5, u6, u7, u8, u9, u10, u11, u12, u13, u14, u15, u16, u17, u18, u19, u20, u21, u22, u23, u24, u25, u26, u27, u28, u29, u30, u31, u32, u33, u34, u35, u36, u37, u38, u39, u40, u41, u42, u43, u44, u45, u46, u47, u48, u49, u50, u51, u52, u53, u54, u55, u56, u57, u58, u59, u60, u61, u62, u63, u64, u65, u66, u67, u68, u69, u70, u71, u72, u73, u74, u75, u76, u77, u78, u79, u80, u81, u82, u83, u84, u85, u86, u87, u88], []⟩ W := by
  obtain ⟨A1, c1, S1, hsl, k1, u1⟩ := h.behind hwt
  have e9 := h.blk.cell 9
  have f9 := h.blk.frozen 9
  simp only [WatchS.cells, List.getElem?_cons_succ, List.getElem?_cons_zero] at e9
  rw [hwt, List.length_cons] at e9
  have hnbb : nb ≠ b := hnb.ne h.blk (by decide)
  have hxbb : xb ≠ b := hxb.ne h.blk (by decide)
  have HN1 := Lib.hid (hnb.far (a := ⟨b, 9, none⟩) hnbb (.slice A1 r.length c1))
  have HX1 := Lib.hid (hxb.far (a := ⟨b, 9, none⟩) hxbb (.slice A1 r.length c1))
  have HK1 := Lib.hid k1
  have HU1 := Lib.hid (hu.trans u1)
  have HWW := Lib.hid hw
  have hby : Go.Proofs.YthmfifcogokpoaaDoor.W (now.window - s.sets.window) := by unfold Go.Proofs.YthmfifcogokpoaaDoor.W; omega
  have HBY := Lib.hid hby
  have hbw : IntKind.i64.wrap (now.window - s.sets.window) = now.window - s.sets.window := IntWalk.i64_in _ (by omega)
  have HSB := Lib.hid (And.intro hs0 hnow)
  clear h hu hw hnb hxb k1 u1 hwt hby hs0 hnow
  refine tail_step 3 apBody ?_
  show Code.wp _ _ _ _ _
  go_wp2
  show tailW _ _ _ _ _ _
  generalize W.setCell ⟨b, 9, none⟩ (.slice A1 r.length c1) = W1 at *
  have q13 := HK1.out.blk.cell 13
  have n3 := HN1.out.cell 3
  simp only [WatchS.cells, SetsS.cells, List.getElem?_cons_succ, List.getElem?_cons_zero] at q13 n3
  clear e9 f9 hsl
  refine tail_step 4 apBody ?_
  show Code.wp _ _ _ _ _
  go_quiet (fail)
  go_wp2
  show tailW _ _ _ _ _ _
  have HN2 := Lib.hid (HN1.out.drewN nq)
  have HX2 := Lib.hid (HX1.out.drewN nq)
  have HK2 := Lib.hid (HK1.out.drewN nq)
  have HU2 := Lib.hid (HU1.out.drewN nq)
  clear HN1 HX1 HK1 HU1 q13 n3 hbw
  generalize W1.drewN nq = W2 at *
  have nc0 := HN2.out.cell 0
  have nc1 := HN2.out.cell 1
  have nc2 := HN2.out.cell 2
  have nc3 := HN2.out.cell 3
  have nc4 := HN2.out.cell 4
  have nc5 := HN2.out.cell 5
  have xc0 := HX2.out.cell 0
  have bc4 := HK2.out.blk.cell 4
  have bf4 := HK2.out.blk.frozen 4
  have bc10 := HK2.out.blk.cell 10
  have bf10 := HK2.out.blk.frozen 10
  have bc11 := HK2.out.blk.cell 11
  have bf11 := HK2.out.blk.frozen 11
  have bc12 := HK2.out.blk.cell 12
  have bf12 := HK2.out.blk.frozen 12
  have bc13 := HK2.out.blk.cell 13
  have bf13 := HK2.out.blk.frozen 13
  have bc14 := HK2.out.blk.cell 14
  have bf14 := HK2.out.blk.frozen 14
  have bc15 := HK2.out.blk.cell 15
  have bf15 := HK2.out.blk.frozen 15
  simp only [WatchS.cells, SetsS.cells, List.getElem?_cons_succ, List.getElem?_cons_zero] at nc0 nc1 nc2 nc3 nc4 nc5 xc0 bc4 bc10 bc11 bc12 bc13 bc14 bc15
  have hbn : b ≠ nb := fun h => hnbb h.symm
  have hbx : b ≠ xb := fun h => hxbb h.symm
  have HKS := Lib.hid (show ∀ W' : World, (∀ k, k ≠ b → W'.heap[k]? = W2.heap[k]?) → W'.cell? ⟨nb, 0, none⟩ = some (.int .i64 now.table) ∧ W'.cell? ⟨nb, 1, none⟩ = some (.int .i64 now.push) ∧ W'.cell? ⟨nb, 2, none⟩ = some (.int .i64 now.streams) ∧ W'.cell? ⟨nb, 3, none⟩ = some (.int .i64 now.window) ∧ W'.cell? ⟨nb, 4, none⟩ = some (.int .i64 now.frame) ∧ W'.cell? ⟨nb, 5, none⟩ = some (.int .i64 now.list) ∧ W'.cell? ⟨xb, 0, none⟩ = some (.bool x.bad) from
    fun W' hk => ⟨(World.cell?_of_block (hk nb hnbb)).trans nc0, (World.cell?_of_block (hk nb hnbb)).trans nc1, (World.cell?_of_block (hk nb hnbb)).trans nc2, (World.cell?_of_block (hk nb hnbb)).trans nc3, (World.cell?_of_block (hk nb hnbb)).trans nc4, (World.cell?_of_block (hk nb hnbb)).trans nc5, (World.cell?_of_block (hk xb hxbb)).trans xc0⟩)
  refine tail_step 5 apBody ?_
  show Code.wp _ _ _ _ _
  refine wp_region_S (fun W' => W'.cell? ⟨nb, 0, none⟩ = some (.int .i64 now.table) ∧ W'.cell? ⟨nb, 1, none⟩ = some (.int .i64 now.push) ∧ W'.cell? ⟨nb, 2, none⟩ = some (.int .i64 now.streams) ∧ W'.cell? ⟨nb, 3, none⟩ = some (.int .i64 now.window) ∧ W'.cell? ⟨nb, 4, none⟩ = some (.int .i64 now.frame) ∧ W'.cell? ⟨nb, 5, none⟩ = some (.int .i64 now.list) ∧ W'.cell? ⟨xb, 0, none⟩ = some (.bool x.bad)) 11 (by kernel_rfl) (HKS.out _ (fun _ _ => rfl)) (fun hHeld => ?_)
  refine AnyS_take (i := 0) (v := ?_) rfl (by kernel_rfl) (by kernel_rfl) (by kernel_rfl) (by kernel_rfl) (by kernel_rfl) (fun _ _ _ h => h) (Or.inl ⟨by rfl, ?_⟩) hHeld ?_
  rotate_left
  · intro w' hSw
    (try dsimp only at hSw)
    go_simp
    try with_reducible rfl
  try simp only [Act.put, List.setIfInBounds_toArray, List.set_cons_zero, List.set_cons_succ]
  refine AnyS_take (i := 1) (v := ?_) rfl (by kernel_rfl) (by kernel_rfl) (by kernel_rfl) (by kernel_rfl) (by kernel_rfl) (fun _ _ _ h => h) (Or.inl ⟨by rfl, ?_⟩) hHeld ?_
  rotate_left
  · intro w' hSw
    (try dsimp only at hSw)
    go_simp
    try with_reducible rfl
  try simp only [Act.put, List.setIfInBounds_toArray, List.set_cons_zero, List.set_cons_succ]
  refine AnyS_take (i := 2) (v := ?_) rfl (by kernel_rfl) (by kernel_rfl) (by kernel_rfl) (by kernel_rfl) (by kernel_rfl) (fun _ _ _ h => h) (Or.inl ⟨by rfl, ?_⟩) hHeld ?_
  rotate_left
  · intro w' hSw
    (try dsimp only at hSw)
    go_simp
    try with_reducible rfl
  try simp only [Act.put, List.setIfInBounds_toArray, List.set_cons_zero, List.set_cons_succ]
  refine AnyS_take (i := 3) (v := ?_) rfl (by kernel_rfl) (by kernel_rfl) (by kernel_rfl) (by kernel_rfl) (by kernel_rfl) (fun _ _ _ h => h) (Or.inl ⟨by rfl, ?_⟩) hHeld ?_
  rotate_left
  · intro w' hSw
    (try dsimp only at hSw)
    go_simp
    try with_reducible rfl
  try simp only [Act.put, List.setIfInBounds_toArray, List.set_cons_zero, List.set_cons_succ]
  refine AnyS_take (i := 4) (v := ?_) rfl (by kernel_rfl) (by kernel_rfl) (by kernel_rfl) (by kernel_rfl) (by kernel_rfl) (fun _ _ _ h => h) (Or.inl ⟨by rfl, ?_⟩) hHeld ?_
  rotate_left
  · intro w' hSw
    (try dsimp only at hSw)
    go_simp
    try with_reducible rfl
  try simp only [Act.put, List.setIfInBounds_toArray, List.set_cons_zero, List.set_cons_succ]
  refine AnyS_take (i := 5) (v := ?_) rfl (by kernel_rfl) (by kernel_rfl) (by kernel_rfl) (by kernel_rfl) (by kernel_rfl) (fun _ _ _ h => h) (Or.inl ⟨by rfl, ?_⟩) hHeld ?_
  rotate_left
  · intro w' hSw
    (try dsimp only at hSw)
    go_simp
    try with_reducible rfl
  try simp only [Act.put, List.setIfInBounds_toArray, List.set_cons_zero, List.set_cons_succ]
  refine AnyS_take (i := 6) (v := ?_) rfl (by kernel_rfl) (by kernel_rfl) (by kernel_rfl) (by kernel_rfl) (by kernel_rfl) (fun _ _ _ h => h) (Or.inl ⟨by rfl, ?_⟩) hHeld ?_
  rotate_left
  · intro w' hSw
    (try dsimp only at hSw)
    go_simp
    try with_reducible rfl
  try simp only [Act.put, List.setIfInBounds_toArray, List.set_cons_zero, List.set_cons_succ]
  refine AnyS_step (i := 7) rfl (by kernel_rfl) rfl (fun K hK => ?_)
  go_simp
  refine hK.out _ _ (HKS.out _ (fun k hk => heap_sets6d W2 b now k hk)) (fun hHeld => ?_)
  clear hK K
  try simp only [Act.put, List.setIfInBounds_toArray, List.set_cons_zero, List.set_cons_succ]
  refine AnyS_take (i := 8) (v := ?_) rfl (by kernel_rfl) (by kernel_rfl) (by kernel_rfl) (by kernel_rfl) (by kernel_rfl) (fun _ _ _ h => h) (Or.inl ⟨by rfl, ?_⟩) hHeld ?_
  rotate_left
  · intro w' hSw
    (try dsimp only at hSw)
    go_simp
    try with_reducible rfl
  try simp only [Act.put, List.setIfInBounds_toArray, List.set_cons_zero, List.set_cons_succ]
  refine AnyS_take (i := 9) (v := ?_) rfl (by kernel_rfl) (by kernel_rfl) (by kernel_rfl) (by kernel_rfl) (by kernel_rfl) (fun _ _ _ h => h) (Or.inl ⟨by rfl, ?_⟩) hHeld ?_
  rotate_left
  · intro w' hSw
    (try dsimp only at hSw)
    go_simp
    try with_reducible rfl
  try simp only [Act.put, List.setIfInBounds_toArray, List.set_cons_zero, List.set_cons_succ]
  refine AnyS_step (i := 10) rfl (by kernel_rfl) rfl (fun K hK => ?_)
  go_simp
  refine hK.out _ _ (HKS.out _ (fun k hk => heap_sets7d W2 b now x.bad k hk)) (fun hHeld => ?_)
  clear hK K
  try simp only [Act.put, List.setIfInBounds_toArray, List.set_cons_zero, List.set_cons_succ]
  refine AnyS_done (by kernel_rfl) (NoPanic.normal ?_) _
  try simp only [Act.put, List.setIfInBounds_toArray, List.set_cons_zero, List.set_cons_succ]
  show tailW _ _ _ _ _ _
  obtain ⟨T6, k6, w6⟩ := HK2.out.setSets now x.bad
  exact ap_loop w _ b _ { s with waits := r, sets := now, blind := x.bad } S T6 k6.drew (HU2.out.trans w6).drew HWW.out _ HBY.out _ _ _ _ _ _ _ _ _ _ _ _ _ _ _ _ _ _ _ _ _ _ _ _ _ _ _ _ _ _ _ _ _ _ _ _ _ _ _ _ _ _ _ _ _ _ _ _ _ _ _ _ _ _ _ _ _ _ _ _ _ _ _ _ _ _ _ _ _ _ _ _ _ _ _ _ _ _ _ _ _ _ _ _ _ _ _
end Go.Proofs.YthmfifcogokpoaaDoor
