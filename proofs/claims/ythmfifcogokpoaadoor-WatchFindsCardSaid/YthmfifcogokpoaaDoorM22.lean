/- What is proved here: contracts of the program's functions and plain lemmas that the claim's last text uses, in parts: package watch: applies, whole. -/
import Derived.Test.YthmfifcogokpoaaDoorM21
set_option linter.unusedVariables false
set_option linter.unusedSimpArgs false
namespace Go.Proofs.YthmfifcogokpoaaDoor
open Go.RowKit
open Go.ChangeMaps (setBlock)

section
variable {P : Program} {Q : Exit → Act → World → Prop} {md : Region.Mode} {S : World → Prop} {L : Nat} {l : List Oper}
/-- Three operations may come up. -/
theorem AnyS_three {i j k : Nat} {oi oj ok : Oper} {n : Nat} {done : Array Bool} {a : Act} {w : World} (hi : l[i]? = some oi) (hj : l[j]? = some oj) (hk : l[k]? = some ok) (hr : Region.ready md l.toArray done = [i, j, k]) (hg : oi.guard = none) (hg2 : oj.guard = none) (hg3 : ok.guard = none)
    (h : StepS P md l.toArray Q S L n done oi i a w) (h2 : StepS P md l.toArray Q S L n done oj j a w) (h3 : StepS P md l.toArray Q S L n done ok k a w) : AnyS P md l.toArray Q S L (n + 1) done a w := by
  refine ⟨fun h0 => (by rw [hr] at h0; cases h0), fun x hx => ?_⟩
  rw [hr] at hx
  have hw : Region.wanted oi (yielded l.toArray a.tmps) = true := by simp [Region.wanted, hg]
  have hw2 : Region.wanted oj (yielded l.toArray a.tmps) = true := by simp [Region.wanted, hg2]
  have hw3 : Region.wanted ok (yielded l.toArray a.tmps) = true := by simp [Region.wanted, hg3]
  simp only [List.mem_cons, List.not_mem_nil, or_false] at hx
  unfold wpOp
  rw [List.getElem?_toArray]
  rcases hx with rfl | rfl | rfl
  · rw [hi]
    simp only [hw, if_true]
    exact .inl (h _ (Lib.hid fun _ _ h1 h2 => ⟨fun _ => h1, h2 h1⟩))
  · rw [hj]
    simp only [hw2, if_true]
    exact .inl (h2 _ (Lib.hid fun _ _ h1 h2 => ⟨fun _ => h1, h2 h1⟩))
  · rw [hk]
    simp only [hw3, if_true]
    exact .inl (h3 _ (Lib.hid fun _ _ h1 h2 => ⟨fun _ => h1, h2 h1⟩))
theorem AnyS_done_eq {n : Nat} {ops : Array Oper} {d d' : Array Bool} {a : Act} {w : World} (h : d = d') (k : AnyS P md ops Q S L n d' a w) : AnyS P md ops Q S L n d a w := h ▸ k
end


set_option maxRecDepth 100000 in
set_option maxHeartbeats 2000000 in
theorem ap_region (w W : World) (b : Nat) (v : Locs) (s : WatchS) (S S0 : Own) (h : WAt W b v s S0) (hu : Upd S S0 w W) (hw : ∀ x ∈ s.m, Go.Proofs.YthmfifcogokpoaaDoor.W x.2.window) (hs0 : 0 ≤ s.sets.window ∧ s.sets.window ≤ 2147483647) (l : List (Nat × Nat)) (r : List (List (Nat × Nat))) (hwt : s.waits = l :: r) (u1 u2 u3 u4 u5 u6 u7 u8 u9 u10 u11 u12 u13 u14 u15 u16 u17 u18 u19 u20 u21 u22 u23 u24 u25 u26 u27 u28 u29 u30 u31 u32 u33 u34 u35 u36 u37 u38 u39 u40 u41 u42 u43 u44 u45 u46 u47 u48 u49 u50 u51 u52 u53 u54 u55 u56 u57 u58 u59 u60 u61 u62 u63 u64 u65 u66 u67 u68 u69 u70 u71 u72 u73 u74 u75 u76 u77 u78 u79 u80 u81 u82 u83 u84 u85 u86 u87 u88 : Value) :
    tailW Tryd.prog 2 apBody (ApP b (appliesS s) S w) ⟨#[.pointer (some ⟨b, 0, none⟩), u1, u2, u3, u4, u5, u6, u7, u8, u9, u10, u11, u12, u13, u14, u15, u16, u17, u18, u19, u20, u21, u22, u23, u24, u25, u26, u27, u28, u29, u30, u31, u32, u33, u34, u35, u36, u37, u38, u39, u40, u41, u42, u43, u44, u45, u46, u47, u48, u49, u50, u51, u52, u53, u54, u55, u56, u57, u58, u59, u60, u61, u62, u63, u64, u65, u66, u67, u68, u69, u70, u71, u72, u73, u74, u75, u76, u77, u78, u79, u80, u81, u82, u83, u84, u85, u86, u87, u88], []⟩ W := by
  obtain ⟨g, o, A0, c0, hA, hg0, hrd, hglt⟩ := h.first hwt
  have HREST := Lib.hid (fun W1 (hb : Below W.heap.size W W1) nb xb hnb hxb => ap_rest w W1 b v s S S0 (h.below hb) (hu.trans (Upd.of_below hb fun _ hk => .inl hk)) hw hs0 l r hwt (applyS s.sets l).1 (applyS s.sets l).2 (applyS_win l hs0) nb xb hnb hxb)
  have HAP := Lib.hid (fun W1 (hb : Below W.heap.size W W1) => apply_any W1 s.sets A0 c0 l (hrd.grow (by omega) hb))
  have e9 := h.blk.cell 9
  have e10 := h.blk.cell 10
  have e11 := h.blk.cell 11
  have e12 := h.blk.cell 12
  have e13 := h.blk.cell 13
  have e14 := h.blk.cell 14
  have e15 := h.blk.cell 15
  have hltb := h.blk.lt
  simp only [WatchS.cells, SetsS.cells, List.getElem?_cons_succ, List.getElem?_cons_zero] at e9 e10 e11 e12 e13 e14 e15
  rw [hwt, List.length_cons, hA] at e9
  have HKS := Lib.hid (show ∀ W1 : World, Below W.heap.size W W1 → (fun W' => W'.cell? ⟨b, 9, none⟩ = some (.slice (some ⟨g, o, none⟩) (r.length + 1) v.wc) ∧ W'.cell? ⟨b, 10, none⟩ = some (.int .i64 s.sets.table) ∧ W'.cell? ⟨b, 11, none⟩ = some (.int .i64 s.sets.push) ∧ W'.cell? ⟨b, 12, none⟩ = some (.int .i64 s.sets.streams) ∧ W'.cell? ⟨b, 13, none⟩ = some (.int .i64 s.sets.window) ∧ W'.cell? ⟨b, 14, none⟩ = some (.int .i64 s.sets.frame) ∧ W'.cell? ⟨b, 15, none⟩ = some (.int .i64 s.sets.list) ∧ W'.cell? ⟨g, o, none⟩ = some (.slice A0 l.length c0)) W1 from
    fun W1 hb => ⟨(hb.cell (p := ⟨b, 9, none⟩) hltb).trans e9, (hb.cell (p := ⟨b, 10, none⟩) hltb).trans e10, (hb.cell (p := ⟨b, 11, none⟩) hltb).trans e11, (hb.cell (p := ⟨b, 12, none⟩) hltb).trans e12, (hb.cell (p := ⟨b, 13, none⟩) hltb).trans e13, (hb.cell (p := ⟨b, 14, none⟩) hltb).trans e14, (hb.cell (p := ⟨b, 15, none⟩) hltb).trans e15, (hb.cell (p := ⟨g, o, none⟩) hglt).trans hg0⟩)
  have hap : appliesS s = (true, shiftAll ((applyS s.sets l).1.window - s.sets.window) { s with waits := r, sets := (applyS s.sets l).1, blind := (applyS s.sets l).2.bad }) := by
    unfold appliesS
    rw [hwt]
  rw [hap]
  unfold SetsS.cells at HAP
  clear h hu hw hs0 hrd hap hwt hA
  generalize applyS s.sets l = res at *
  obtain ⟨⟨n1, n2, n3, n4, n5, n6⟩, ⟨x1, x2, x3⟩⟩ := res
  simp only at HAP HREST
  have hr0 : (0 : Int) < ((r.length + 1 : Nat) : Int) := by omega
  have hr1 : (0 : Int) < (r.length : Int) + 1 := by omega
  refine tail_step 2 apBody ?_
  show Code.wp _ _ _ _ _
  refine wp_region_S (fun W' => W'.cell? ⟨b, 9, none⟩ = some (.slice (some ⟨g, o, none⟩) (r.length + 1) v.wc) ∧ W'.cell? ⟨b, 10, none⟩ = some (.int .i64 s.sets.table) ∧ W'.cell? ⟨b, 11, none⟩ = some (.int .i64 s.sets.push) ∧ W'.cell? ⟨b, 12, none⟩ = some (.int .i64 s.sets.streams) ∧ W'.cell? ⟨b, 13, none⟩ = some (.int .i64 s.sets.window) ∧ W'.cell? ⟨b, 14, none⟩ = some (.int .i64 s.sets.frame) ∧ W'.cell? ⟨b, 15, none⟩ = some (.int .i64 s.sets.list) ∧ W'.cell? ⟨g, o, none⟩ = some (.slice A0 l.length c0)) 18 (by kernel_rfl) (HKS.out _ ((Below.refl _ _).drew)) (fun hHeld => ?_)
  refine AnyS_take (i := 0) (v := ?_) rfl (by kernel_rfl) (by kernel_rfl) (by kernel_rfl) (by kernel_rfl) (by kernel_rfl) (fun _ _ _ h => h) (Or.inl ⟨by rfl, ?_⟩) hHeld ?_
  rotate_left
  · intro w' hSw
    (try dsimp only at hSw)
    go_simp
    try with_reducible rfl
  try simp only [Act.put, List.setIfInBounds_toArray, List.set_cons_zero, List.set_cons_succ]
  refine AnyS_take (i := 1) (v := ?_) rfl (by kernel_rfl) (by kernel_rfl) (by kernel_rfl) (by kernel_rfl) (by kernel_rfl) (fun _ _ _ h => h) (Or.inl ⟨by rfl, ?_⟩) hHeld ?_
  rotate_left
  · intro w' hSw
    (try dsimp only at hSw)
    go_simp
    try with_reducible rfl
  try simp only [Act.put, List.setIfInBounds_toArray, List.set_cons_zero, List.set_cons_succ]
  refine AnyS_take (i := 2) (v := ?_) rfl (by kernel_rfl) (by kernel_rfl) (by kernel_rfl) (by kernel_rfl) (by kernel_rfl) (fun _ _ _ h => h) (Or.inl ⟨by rfl, ?_⟩) hHeld ?_
  rotate_left
  · intro w' hSw
    (try dsimp only at hSw)
    go_simp
    try with_reducible rfl
  try simp only [Act.put, List.setIfInBounds_toArray, List.set_cons_zero, List.set_cons_succ]
  refine AnyS_take (i := 3) (v := ?_) rfl (by kernel_rfl) (by kernel_rfl) (by kernel_rfl) (by kernel_rfl) (by kernel_rfl) (fun _ _ _ h => h) (Or.inl ⟨by rfl, ?_⟩) hHeld ?_
  rotate_left
  · intro w' hSw
    (try dsimp only at hSw)
    go_simp
    try with_reducible rfl
  try simp only [Act.put, List.setIfInBounds_toArray, List.set_cons_zero, List.set_cons_succ]
  refine AnyS_take (i := 4) (v := ?_) rfl (by kernel_rfl) (by kernel_rfl) (by kernel_rfl) (by kernel_rfl) (by kernel_rfl) (fun _ _ _ h => h) (Or.inl ⟨by rfl, ?_⟩) hHeld ?_
  rotate_left
  · intro w' hSw
    (try dsimp only at hSw)
    go_simp
    try with_reducible rfl
  try simp only [Act.put, List.setIfInBounds_toArray, List.set_cons_zero, List.set_cons_succ]
  refine AnyS_take (i := 5) (v := ?_) rfl (by kernel_rfl) (by kernel_rfl) (by kernel_rfl) (by kernel_rfl) (by kernel_rfl) (fun _ _ _ h => h) (Or.inl ⟨by rfl, ?_⟩) hHeld ?_
  rotate_left
  · intro w' hSw
    (try dsimp only at hSw)
    go_simp
    try with_reducible rfl
  try simp only [Act.put, List.setIfInBounds_toArray, List.set_cons_zero, List.set_cons_succ]
  refine AnyS_take (i := 6) (v := ?_) rfl (by kernel_rfl) (by kernel_rfl) (by kernel_rfl) (by kernel_rfl) (by kernel_rfl) (fun _ _ _ h => h) (Or.inl ⟨by rfl, ?_⟩) hHeld ?_
  rotate_left
  · intro w' hSw
    (try dsimp only at hSw)
    go_simp
    try with_reducible rfl
  try simp only [Act.put, List.setIfInBounds_toArray, List.set_cons_zero, List.set_cons_succ]
  refine AnyS_take (i := 7) (v := ?_) rfl (by kernel_rfl) (by kernel_rfl) (by kernel_rfl) (by kernel_rfl) (by kernel_rfl) (fun _ _ _ h => h) (Or.inl ⟨by rfl, ?_⟩) hHeld ?_
  rotate_left
  · intro w' hSw
    (try dsimp only at hSw)
    go_simp
    try with_reducible rfl
  try simp only [Act.put, List.setIfInBounds_toArray, List.set_cons_zero, List.set_cons_succ]
  refine AnyS_take (i := 8) (v := ?_) rfl (by kernel_rfl) (by kernel_rfl) (by kernel_rfl) (by kernel_rfl) (by kernel_rfl) (fun _ _ _ h => h) (Or.inl ⟨by rfl, ?_⟩) hHeld ?_
  rotate_left
  · intro w' hSw
    (try dsimp only at hSw)
    go_simp
    try with_reducible rfl
  try simp only [Act.put, List.setIfInBounds_toArray, List.set_cons_zero, List.set_cons_succ]
  refine AnyS_take (i := 9) (v := ?_) rfl (by kernel_rfl) (by kernel_rfl) (by kernel_rfl) (by kernel_rfl) (by kernel_rfl) (fun _ _ _ h => h) (Or.inl ⟨by rfl, ?_⟩) hHeld ?_
  rotate_left
  · intro w' hSw
    (try dsimp only at hSw)
    go_simp
    try with_reducible rfl
  try simp only [Act.put, List.setIfInBounds_toArray, List.set_cons_zero, List.set_cons_succ]
  have B0 : Below W.heap.size W W.drew := (Below.refl _ _).drew
  generalize W.drew = W0 at *
  refine AnyS_three (i := 10) (j := 14) (k := 15) rfl rfl rfl (by kernel_rfl) rfl rfl rfl (fun K hK => ?_) (fun K hK => ?_) (fun K hK => ?_)
  · go_simp
    refine (HAP.out _ B0).mono ?_
    rintro e W1 ⟨rfl, hb1⟩
    have B1 : Below W.heap.size W W1 := bcall hb1 B0
    refine hK.out _ _ (HKS.out _ B1) (fun hHeld => ?_)
    clear hK K
    try simp only [Act.put, List.setIfInBounds_toArray, List.set_cons_zero, List.set_cons_succ]
    refine AnyS_plain (i := 11) (v := ?_) rfl (by kernel_rfl) (by kernel_rfl) (by kernel_rfl) (by kernel_rfl) (fun _ _ _ h => h) (Or.inl ⟨by rfl, ?_⟩) hHeld ?_
    rotate_left
    · intro w' hSw
      (try dsimp only at hSw)
      go_simp
      try with_reducible rfl
    try simp only [Act.put, List.setIfInBounds_toArray, List.set_cons_zero, List.set_cons_succ]
    refine AnyS_plain (i := 12) (v := ?_) rfl (by kernel_rfl) (by kernel_rfl) (by kernel_rfl) (by kernel_rfl) (fun _ _ _ h => h) (Or.inl ⟨by rfl, ?_⟩) hHeld ?_
    rotate_left
    · intro w' hSw
      (try dsimp only at hSw)
      go_simp
      try with_reducible rfl
    try simp only [Act.put, List.setIfInBounds_toArray, List.set_cons_zero, List.set_cons_succ]
    refine AnyS_plain (i := 13) (v := ?_) rfl (by kernel_rfl) (by kernel_rfl) (by kernel_rfl) (by kernel_rfl) (fun _ _ _ h => h) (Or.inl ⟨by rfl, ?_⟩) hHeld ?_
    rotate_left
    · intro w' hSw
      (try dsimp only at hSw)
      go_simp
      try with_reducible rfl
    try simp only [Act.put, List.setIfInBounds_toArray, List.set_cons_zero, List.set_cons_succ]
    refine AnyS_two (i := 14) (j := 15) rfl rfl (by kernel_rfl) rfl rfl (fun K hK => ?_) (fun K hK => ?_)
    · go_simp
      have B2 : Below W.heap.size W (W1.alloc (.cells #[.int .i64 0, .int .i64 0, .int .i64 0, .int .i64 0, .int .i64 0, .int .i64 0] 53)) := B1.alloc B1.size _
      have N2 : Blk (W1.alloc (.cells #[.int .i64 0, .int .i64 0, .int .i64 0, .int .i64 0, .int .i64 0, .int .i64 0] 53)) W1.heap.size 53 [.int .i64 0, .int .i64 0, .int .i64 0, .int .i64 0, .int .i64 0, .int .i64 0] := Blk.new W1 _ [.int .i64 0, .int .i64 0, .int .i64 0, .int .i64 0, .int .i64 0, .int .i64 0]
      have L2 : W.heap.size ≤ W1.heap.size := B1.size
      refine hK.out _ _ (HKS.out _ B2) (fun hHeld => ?_)
      clear hK K
      try simp only [Act.put, List.setIfInBounds_toArray, List.set_cons_zero, List.set_cons_succ]
      generalize W1.alloc (.cells #[.int .i64 0, .int .i64 0, .int .i64 0, .int .i64 0, .int .i64 0, .int .i64 0] 53) = W2 at *
      refine AnyS_step (i := 15) rfl (by kernel_rfl) rfl (fun K hK => ?_)
      go_simp
      have B3 : Below W.heap.size W (W2.alloc (.cells #[.bool false, .bool false, .int .i64 0] 84)) := B2.alloc B2.size _
      have X3 : Blk (W2.alloc (.cells #[.bool false, .bool false, .int .i64 0] 84)) W2.heap.size 84 [.bool false, .bool false, .int .i64 0] := Blk.new W2 _ [.bool false, .bool false, .int .i64 0]
      have N3 := N2.alloc (.cells #[.bool false, .bool false, .int .i64 0] 84)
      have L3 : W.heap.size ≤ W2.heap.size := B2.size
      refine hK.out _ _ (HKS.out _ B3) (fun hHeld => ?_)
      clear hK K
      try simp only [Act.put, List.setIfInBounds_toArray, List.set_cons_zero, List.set_cons_succ]
      generalize W2.alloc (.cells #[.bool false, .bool false, .int .i64 0] 84) = W3 at *
      have nc0 := N3.cell 0
      have nf0 := N3.frozen 0
      have nc1 := N3.cell 1
      have nf1 := N3.frozen 1
      have nc2 := N3.cell 2
      have nf2 := N3.frozen 2
      have nc3 := N3.cell 3
      have nf3 := N3.frozen 3
      have nc4 := N3.cell 4
      have nf4 := N3.frozen 4
      have nc5 := N3.cell 5
      have nf5 := N3.frozen 5
      simp only [List.getElem?_cons_succ, List.getElem?_cons_zero] at nc0 nc1 nc2 nc3 nc4 nc5
      have hnx : W1.heap.size ≠ W2.heap.size := N3.ne X3 (by decide)
      have hxn : W2.heap.size ≠ W1.heap.size := fun h => hnx h.symm
      refine AnyS_step (i := 16) rfl (by kernel_rfl) rfl (fun K hK => ?_)
      go_simp
      have BA : Below W.heap.size W ((((((W3.setCell ⟨W1.heap.size, 0, none⟩ (.int .i64 n1)).setCell ⟨W1.heap.size, 1, none⟩ (.int .i64 n2)).setCell ⟨W1.heap.size, 2, none⟩ (.int .i64 n3)).setCell ⟨W1.heap.size, 3, none⟩ (.int .i64 n4)).setCell ⟨W1.heap.size, 4, none⟩ (.int .i64 n5)).setCell ⟨W1.heap.size, 5, none⟩ (.int .i64 n6)) := ((((((B3.setCell (p := ⟨W1.heap.size, 0, none⟩) L2 (.int .i64 n1)).setCell (p := ⟨W1.heap.size, 1, none⟩) L2 (.int .i64 n2)).setCell (p := ⟨W1.heap.size, 2, none⟩) L2 (.int .i64 n3)).setCell (p := ⟨W1.heap.size, 3, none⟩) L2 (.int .i64 n4)).setCell (p := ⟨W1.heap.size, 4, none⟩) L2 (.int .i64 n5)).setCell (p := ⟨W1.heap.size, 5, none⟩) L2 (.int .i64 n6))
      have NA : Blk ((((((W3.setCell ⟨W1.heap.size, 0, none⟩ (.int .i64 n1)).setCell ⟨W1.heap.size, 1, none⟩ (.int .i64 n2)).setCell ⟨W1.heap.size, 2, none⟩ (.int .i64 n3)).setCell ⟨W1.heap.size, 3, none⟩ (.int .i64 n4)).setCell ⟨W1.heap.size, 4, none⟩ (.int .i64 n5)).setCell ⟨W1.heap.size, 5, none⟩ (.int .i64 n6)) W1.heap.size 53 (SetsS.cells ⟨n1, n2, n3, n4, n5, n6⟩) := ((((((N3.set 0 (.int .i64 n1)).set 1 (.int .i64 n2)).set 2 (.int .i64 n3)).set 3 (.int .i64 n4)).set 4 (.int .i64 n5)).set 5 (.int .i64 n6))
      have XA : Blk ((((((W3.setCell ⟨W1.heap.size, 0, none⟩ (.int .i64 n1)).setCell ⟨W1.heap.size, 1, none⟩ (.int .i64 n2)).setCell ⟨W1.heap.size, 2, none⟩ (.int .i64 n3)).setCell ⟨W1.heap.size, 3, none⟩ (.int .i64 n4)).setCell ⟨W1.heap.size, 4, none⟩ (.int .i64 n5)).setCell ⟨W1.heap.size, 5, none⟩ (.int .i64 n6)) W2.heap.size 84 [.bool false, .bool false, .int .i64 0] := ((((((X3.far (a := ⟨W1.heap.size, 0, none⟩) hxn (.int .i64 n1)).far (a := ⟨W1.heap.size, 1, none⟩) hxn (.int .i64 n2)).far (a := ⟨W1.heap.size, 2, none⟩) hxn (.int .i64 n3)).far (a := ⟨W1.heap.size, 3, none⟩) hxn (.int .i64 n4)).far (a := ⟨W1.heap.size, 4, none⟩) hxn (.int .i64 n5)).far (a := ⟨W1.heap.size, 5, none⟩) hxn (.int .i64 n6))
      refine hK.out _ _ (HKS.out _ BA) (fun hHeld => ?_)
      clear hK K
      try simp only [Act.put, List.setIfInBounds_toArray, List.set_cons_zero, List.set_cons_succ]
      clear nc0 nc1 nc2 nc3 nc4 nc5 nf0 nf1 nf2 nf3 nf4 nf5
      generalize ((((((W3.setCell ⟨W1.heap.size, 0, none⟩ (.int .i64 n1)).setCell ⟨W1.heap.size, 1, none⟩ (.int .i64 n2)).setCell ⟨W1.heap.size, 2, none⟩ (.int .i64 n3)).setCell ⟨W1.heap.size, 3, none⟩ (.int .i64 n4)).setCell ⟨W1.heap.size, 4, none⟩ (.int .i64 n5)).setCell ⟨W1.heap.size, 5, none⟩ (.int .i64 n6)) = V at *
      have xc0 := XA.cell 0
      have xf0 := XA.frozen 0
      have xc1 := XA.cell 1
      have xf1 := XA.frozen 1
      have xc2 := XA.cell 2
      have xf2 := XA.frozen 2
      simp only [List.getElem?_cons_succ, List.getElem?_cons_zero] at xc0 xc1 xc2
      refine AnyS_step (i := 17) rfl (by kernel_rfl) rfl (fun K hK => ?_)
      go_simp
      have BC : Below W.heap.size W (((V.setCell ⟨W2.heap.size, 0, none⟩ (.bool x1)).setCell ⟨W2.heap.size, 1, none⟩ (.bool x2)).setCell ⟨W2.heap.size, 2, none⟩ (.int .i64 x3)) := (((BA.setCell (p := ⟨W2.heap.size, 0, none⟩) L3 (.bool x1)).setCell (p := ⟨W2.heap.size, 1, none⟩) L3 (.bool x2)).setCell (p := ⟨W2.heap.size, 2, none⟩) L3 (.int .i64 x3))
      have NC : Blk (((V.setCell ⟨W2.heap.size, 0, none⟩ (.bool x1)).setCell ⟨W2.heap.size, 1, none⟩ (.bool x2)).setCell ⟨W2.heap.size, 2, none⟩ (.int .i64 x3)) W1.heap.size 53 (SetsS.cells ⟨n1, n2, n3, n4, n5, n6⟩) := (((NA.far (a := ⟨W2.heap.size, 0, none⟩) hnx (.bool x1)).far (a := ⟨W2.heap.size, 1, none⟩) hnx (.bool x2)).far (a := ⟨W2.heap.size, 2, none⟩) hnx (.int .i64 x3))
      have XC : Blk (((V.setCell ⟨W2.heap.size, 0, none⟩ (.bool x1)).setCell ⟨W2.heap.size, 1, none⟩ (.bool x2)).setCell ⟨W2.heap.size, 2, none⟩ (.int .i64 x3)) W2.heap.size 84 [.bool x1, .bool x2, .int .i64 x3] := (((XA.set 0 (.bool x1)).set 1 (.bool x2)).set 2 (.int .i64 x3))
      refine hK.out _ _ (HKS.out _ BC) (fun hHeld => ?_)
      clear hK K
      try simp only [Act.put, List.setIfInBounds_toArray, List.set_cons_zero, List.set_cons_succ]
      refine AnyS_done (by kernel_rfl) (NoPanic.normal ?_) _
      try simp only [Act.put, List.setIfInBounds_toArray, List.set_cons_zero, List.set_cons_succ]
      show tailW _ _ _ _ _ _
      exact HREST.out _ BC _ _ NC XC _ _ _ _ _ _ _ _ _ _ _ _ _ _ _ _ _ _ _ _ _ _ _ _ _ _ _ _ _ _ _ _ _ _ _ _ _ _ _ _ _ _ _ _ _ _ _ _ _ _ _ _ _ _ _ _ _ _ _ _ _ _ _ _ _ _ _ _ _ _ _ _ _ _ _ _ _ _ _ _ _ _ _ _ _ _
    · go_simp
      have B2 : Below W.heap.size W (W1.alloc (.cells #[.bool false, .bool false, .int .i64 0] 84)) := B1.alloc B1.size _
      have X2 : Blk (W1.alloc (.cells #[.bool false, .bool false, .int .i64 0] 84)) W1.heap.size 84 [.bool false, .bool false, .int .i64 0] := Blk.new W1 _ [.bool false, .bool false, .int .i64 0]
      have L2 : W.heap.size ≤ W1.heap.size := B1.size
      refine hK.out _ _ (HKS.out _ B2) (fun hHeld => ?_)
      clear hK K
      try simp only [Act.put, List.setIfInBounds_toArray, List.set_cons_zero, List.set_cons_succ]
      generalize W1.alloc (.cells #[.bool false, .bool false, .int .i64 0] 84) = W2 at *
      refine AnyS_step (i := 14) rfl (by kernel_rfl) rfl (fun K hK => ?_)
      go_simp
      have B3 : Below W.heap.size W (W2.alloc (.cells #[.int .i64 0, .int .i64 0, .int .i64 0, .int .i64 0, .int .i64 0, .int .i64 0] 53)) := B2.alloc B2.size _
      have N3 : Blk (W2.alloc (.cells #[.int .i64 0, .int .i64 0, .int .i64 0, .int .i64 0, .int .i64 0, .int .i64 0] 53)) W2.heap.size 53 [.int .i64 0, .int .i64 0, .int .i64 0, .int .i64 0, .int .i64 0, .int .i64 0] := Blk.new W2 _ [.int .i64 0, .int .i64 0, .int .i64 0, .int .i64 0, .int .i64 0, .int .i64 0]
      have X3 := X2.alloc (.cells #[.int .i64 0, .int .i64 0, .int .i64 0, .int .i64 0, .int .i64 0, .int .i64 0] 53)
      have L3 : W.heap.size ≤ W2.heap.size := B2.size
      refine hK.out _ _ (HKS.out _ B3) (fun hHeld => ?_)
      clear hK K
      try simp only [Act.put, List.setIfInBounds_toArray, List.set_cons_zero, List.set_cons_succ]
      generalize W2.alloc (.cells #[.int .i64 0, .int .i64 0, .int .i64 0, .int .i64 0, .int .i64 0, .int .i64 0] 53) = W3 at *
      have nc0 := N3.cell 0
      have nf0 := N3.frozen 0
      have nc1 := N3.cell 1
      have nf1 := N3.frozen 1
      have nc2 := N3.cell 2
      have nf2 := N3.frozen 2
      have nc3 := N3.cell 3
      have nf3 := N3.frozen 3
      have nc4 := N3.cell 4
      have nf4 := N3.frozen 4
      have nc5 := N3.cell 5
      have nf5 := N3.frozen 5
      simp only [List.getElem?_cons_succ, List.getElem?_cons_zero] at nc0 nc1 nc2 nc3 nc4 nc5
      have hnx : W2.heap.size ≠ W1.heap.size := N3.ne X3 (by decide)
      have hxn : W1.heap.size ≠ W2.heap.size := fun h => hnx h.symm
      refine AnyS_step (i := 16) rfl (by kernel_rfl) rfl (fun K hK => ?_)
      go_simp
      have BA : Below W.heap.size W ((((((W3.setCell ⟨W2.heap.size, 0, none⟩ (.int .i64 n1)).setCell ⟨W2.heap.size, 1, none⟩ (.int .i64 n2)).setCell ⟨W2.heap.size, 2, none⟩ (.int .i64 n3)).setCell ⟨W2.heap.size, 3, none⟩ (.int .i64 n4)).setCell ⟨W2.heap.size, 4, none⟩ (.int .i64 n5)).setCell ⟨W2.heap.size, 5, none⟩ (.int .i64 n6)) := ((((((B3.setCell (p := ⟨W2.heap.size, 0, none⟩) L3 (.int .i64 n1)).setCell (p := ⟨W2.heap.size, 1, none⟩) L3 (.int .i64 n2)).setCell (p := ⟨W2.heap.size, 2, none⟩) L3 (.int .i64 n3)).setCell (p := ⟨W2.heap.size, 3, none⟩) L3 (.int .i64 n4)).setCell (p := ⟨W2.heap.size, 4, none⟩) L3 (.int .i64 n5)).setCell (p := ⟨W2.heap.size, 5, none⟩) L3 (.int .i64 n6))
      have NA : Blk ((((((W3.setCell ⟨W2.heap.size, 0, none⟩ (.int .i64 n1)).setCell ⟨W2.heap.size, 1, none⟩ (.int .i64 n2)).setCell ⟨W2.heap.size, 2, none⟩ (.int .i64 n3)).setCell ⟨W2.heap.size, 3, none⟩ (.int .i64 n4)).setCell ⟨W2.heap.size, 4, none⟩ (.int .i64 n5)).setCell ⟨W2.heap.size, 5, none⟩ (.int .i64 n6)) W2.heap.size 53 (SetsS.cells ⟨n1, n2, n3, n4, n5, n6⟩) := ((((((N3.set 0 (.int .i64 n1)).set 1 (.int .i64 n2)).set 2 (.int .i64 n3)).set 3 (.int .i64 n4)).set 4 (.int .i64 n5)).set 5 (.int .i64 n6))
      have XA : Blk ((((((W3.setCell ⟨W2.heap.size, 0, none⟩ (.int .i64 n1)).setCell ⟨W2.heap.size, 1, none⟩ (.int .i64 n2)).setCell ⟨W2.heap.size, 2, none⟩ (.int .i64 n3)).setCell ⟨W2.heap.size, 3, none⟩ (.int .i64 n4)).setCell ⟨W2.heap.size, 4, none⟩ (.int .i64 n5)).setCell ⟨W2.heap.size, 5, none⟩ (.int .i64 n6)) W1.heap.size 84 [.bool false, .bool false, .int .i64 0] := ((((((X3.far (a := ⟨W2.heap.size, 0, none⟩) hxn (.int .i64 n1)).far (a := ⟨W2.heap.size, 1, none⟩) hxn (.int .i64 n2)).far (a := ⟨W2.heap.size, 2, none⟩) hxn (.int .i64 n3)).far (a := ⟨W2.heap.size, 3, none⟩) hxn (.int .i64 n4)).far (a := ⟨W2.heap.size, 4, none⟩) hxn (.int .i64 n5)).far (a := ⟨W2.heap.size, 5, none⟩) hxn (.int .i64 n6))
      refine hK.out _ _ (HKS.out _ BA) (fun hHeld => ?_)
      clear hK K
      try simp only [Act.put, List.setIfInBounds_toArray, List.set_cons_zero, List.set_cons_succ]
      clear nc0 nc1 nc2 nc3 nc4 nc5 nf0 nf1 nf2 nf3 nf4 nf5
      generalize ((((((W3.setCell ⟨W2.heap.size, 0, none⟩ (.int .i64 n1)).setCell ⟨W2.heap.size, 1, none⟩ (.int .i64 n2)).setCell ⟨W2.heap.size, 2, none⟩ (.int .i64 n3)).setCell ⟨W2.heap.size, 3, none⟩ (.int .i64 n4)).setCell ⟨W2.heap.size, 4, none⟩ (.int .i64 n5)).setCell ⟨W2.heap.size, 5, none⟩ (.int .i64 n6)) = V at *
      have xc0 := XA.cell 0
      have xf0 := XA.frozen 0
      have xc1 := XA.cell 1
      have xf1 := XA.frozen 1
      have xc2 := XA.cell 2
      have xf2 := XA.frozen 2
      simp only [List.getElem?_cons_succ, List.getElem?_cons_zero] at xc0 xc1 xc2
      refine AnyS_step (i := 17) rfl (by kernel_rfl) rfl (fun K hK => ?_)
      go_simp
      have BC : Below W.heap.size W (((V.setCell ⟨W1.heap.size, 0, none⟩ (.bool x1)).setCell ⟨W1.heap.size, 1, none⟩ (.bool x2)).setCell ⟨W1.heap.size, 2, none⟩ (.int .i64 x3)) := (((BA.setCell (p := ⟨W1.heap.size, 0, none⟩) L2 (.bool x1)).setCell (p := ⟨W1.heap.size, 1, none⟩) L2 (.bool x2)).setCell (p := ⟨W1.heap.size, 2, none⟩) L2 (.int .i64 x3))
      have NC : Blk (((V.setCell ⟨W1.heap.size, 0, none⟩ (.bool x1)).setCell ⟨W1.heap.size, 1, none⟩ (.bool x2)).setCell ⟨W1.heap.size, 2, none⟩ (.int .i64 x3)) W2.heap.size 53 (SetsS.cells ⟨n1, n2, n3, n4, n5, n6⟩) := (((NA.far (a := ⟨W1.heap.size, 0, none⟩) hnx (.bool x1)).far (a := ⟨W1.heap.size, 1, none⟩) hnx (.bool x2)).far (a := ⟨W1.heap.size, 2, none⟩) hnx (.int .i64 x3))
      have XC : Blk (((V.setCell ⟨W1.heap.size, 0, none⟩ (.bool x1)).setCell ⟨W1.heap.size, 1, none⟩ (.bool x2)).setCell ⟨W1.heap.size, 2, none⟩ (.int .i64 x3)) W1.heap.size 84 [.bool x1, .bool x2, .int .i64 x3] := (((XA.set 0 (.bool x1)).set 1 (.bool x2)).set 2 (.int .i64 x3))
      refine hK.out _ _ (HKS.out _ BC) (fun hHeld => ?_)
      clear hK K
      try simp only [Act.put, List.setIfInBounds_toArray, List.set_cons_zero, List.set_cons_succ]
      refine AnyS_done (by kernel_rfl) (NoPanic.normal ?_) _
      try simp only [Act.put, List.setIfInBounds_toArray, List.set_cons_zero, List.set_cons_succ]
      show tailW _ _ _ _ _ _
      exact HREST.out _ BC _ _ NC XC _ _ _ _ _ _ _ _ _ _ _ _ _ _ _ _ _ _ _ _ _ _ _ _ _ _ _ _ _ _ _ _ _ _ _ _ _ _ _ _ _ _ _ _ _ _ _ _ _ _ _ _ _ _ _ _ _ _ _ _ _ _ _ _ _ _ _ _ _ _ _ _ _ _ _ _ _ _ _ _ _ _ _ _ _ _
  · go_simp
    have B1 : Below W.heap.size W (W0.alloc (.cells #[.int .i64 0, .int .i64 0, .int .i64 0, .int .i64 0, .int .i64 0, .int .i64 0] 53)) := B0.alloc B0.size _
    have N1 : Blk (W0.alloc (.cells #[.int .i64 0, .int .i64 0, .int .i64 0, .int .i64 0, .int .i64 0, .int .i64 0] 53)) W0.heap.size 53 [.int .i64 0, .int .i64 0, .int .i64 0, .int .i64 0, .int .i64 0, .int .i64 0] := Blk.new W0 _ [.int .i64 0, .int .i64 0, .int .i64 0, .int .i64 0, .int .i64 0, .int .i64 0]
    have L1 : W.heap.size ≤ W0.heap.size := B0.size
    refine hK.out _ _ (HKS.out _ B1) (fun hHeld => ?_)
    clear hK K
    try simp only [Act.put, List.setIfInBounds_toArray, List.set_cons_zero, List.set_cons_succ]
    generalize W0.alloc (.cells #[.int .i64 0, .int .i64 0, .int .i64 0, .int .i64 0, .int .i64 0, .int .i64 0] 53) = W1 at *
    refine AnyS_two (i := 10) (j := 15) rfl rfl (by kernel_rfl) rfl rfl (fun K hK => ?_) (fun K hK => ?_)
    · go_simp
      refine (HAP.out _ B1).mono ?_
      rintro e W2 ⟨rfl, hb2⟩
      have B2 : Below W.heap.size W W2 := bcall hb2 B1
      have N2 := N1.below hb2 N1.lt
      refine hK.out _ _ (HKS.out _ B2) (fun hHeld => ?_)
      clear hK K
      try simp only [Act.put, List.setIfInBounds_toArray, List.set_cons_zero, List.set_cons_succ]
      refine AnyS_plain (i := 11) (v := ?_) rfl (by kernel_rfl) (by kernel_rfl) (by kernel_rfl) (by kernel_rfl) (fun _ _ _ h => h) (Or.inl ⟨by rfl, ?_⟩) hHeld ?_
      rotate_left
      · intro w' hSw
        (try dsimp only at hSw)
        go_simp
        try with_reducible rfl
      try simp only [Act.put, List.setIfInBounds_toArray, List.set_cons_zero, List.set_cons_succ]
      refine AnyS_plain (i := 12) (v := ?_) rfl (by kernel_rfl) (by kernel_rfl) (by kernel_rfl) (by kernel_rfl) (fun _ _ _ h => h) (Or.inl ⟨by rfl, ?_⟩) hHeld ?_
      rotate_left
      · intro w' hSw
        (try dsimp only at hSw)
        go_simp
        try with_reducible rfl
      try simp only [Act.put, List.setIfInBounds_toArray, List.set_cons_zero, List.set_cons_succ]
      refine AnyS_plain (i := 13) (v := ?_) rfl (by kernel_rfl) (by kernel_rfl) (by kernel_rfl) (by kernel_rfl) (fun _ _ _ h => h) (Or.inl ⟨by rfl, ?_⟩) hHeld ?_
      rotate_left
      · intro w' hSw
        (try dsimp only at hSw)
        go_simp
        try with_reducible rfl
      try simp only [Act.put, List.setIfInBounds_toArray, List.set_cons_zero, List.set_cons_succ]
      refine AnyS_step (i := 15) rfl (by kernel_rfl) rfl (fun K hK => ?_)
      go_simp
      have B3 : Below W.heap.size W (W2.alloc (.cells #[.bool false, .bool false, .int .i64 0] 84)) := B2.alloc B2.size _
      have X3 : Blk (W2.alloc (.cells #[.bool false, .bool false, .int .i64 0] 84)) W2.heap.size 84 [.bool false, .bool false, .int .i64 0] := Blk.new W2 _ [.bool false, .bool false, .int .i64 0]
      have N3 := N2.alloc (.cells #[.bool false, .bool false, .int .i64 0] 84)
      have L3 : W.heap.size ≤ W2.heap.size := B2.size
      refine hK.out _ _ (HKS.out _ B3) (fun hHeld => ?_)
      clear hK K
      try simp only [Act.put, List.setIfInBounds_toArray, List.set_cons_zero, List.set_cons_succ]
      generalize W2.alloc (.cells #[.bool false, .bool false, .int .i64 0] 84) = W3 at *
      have nc0 := N3.cell 0
      have nf0 := N3.frozen 0
      have nc1 := N3.cell 1
      have nf1 := N3.frozen 1
      have nc2 := N3.cell 2
      have nf2 := N3.frozen 2
      have nc3 := N3.cell 3
      have nf3 := N3.frozen 3
      have nc4 := N3.cell 4
      have nf4 := N3.frozen 4
      have nc5 := N3.cell 5
      have nf5 := N3.frozen 5
      simp only [List.getElem?_cons_succ, List.getElem?_cons_zero] at nc0 nc1 nc2 nc3 nc4 nc5
      have hnx : W0.heap.size ≠ W2.heap.size := N3.ne X3 (by decide)
      have hxn : W2.heap.size ≠ W0.heap.size := fun h => hnx h.symm
      refine AnyS_step (i := 16) rfl (by kernel_rfl) rfl (fun K hK => ?_)
      go_simp
      have BA : Below W.heap.size W ((((((W3.setCell ⟨W0.heap.size, 0, none⟩ (.int .i64 n1)).setCell ⟨W0.heap.size, 1, none⟩ (.int .i64 n2)).setCell ⟨W0.heap.size, 2, none⟩ (.int .i64 n3)).setCell ⟨W0.heap.size, 3, none⟩ (.int .i64 n4)).setCell ⟨W0.heap.size, 4, none⟩ (.int .i64 n5)).setCell ⟨W0.heap.size, 5, none⟩ (.int .i64 n6)) := ((((((B3.setCell (p := ⟨W0.heap.size, 0, none⟩) L1 (.int .i64 n1)).setCell (p := ⟨W0.heap.size, 1, none⟩) L1 (.int .i64 n2)).setCell (p := ⟨W0.heap.size, 2, none⟩) L1 (.int .i64 n3)).setCell (p := ⟨W0.heap.size, 3, none⟩) L1 (.int .i64 n4)).setCell (p := ⟨W0.heap.size, 4, none⟩) L1 (.int .i64 n5)).setCell (p := ⟨W0.heap.size, 5, none⟩) L1 (.int .i64 n6))
      have NA : Blk ((((((W3.setCell ⟨W0.heap.size, 0, none⟩ (.int .i64 n1)).setCell ⟨W0.heap.size, 1, none⟩ (.int .i64 n2)).setCell ⟨W0.heap.size, 2, none⟩ (.int .i64 n3)).setCell ⟨W0.heap.size, 3, none⟩ (.int .i64 n4)).setCell ⟨W0.heap.size, 4, none⟩ (.int .i64 n5)).setCell ⟨W0.heap.size, 5, none⟩ (.int .i64 n6)) W0.heap.size 53 (SetsS.cells ⟨n1, n2, n3, n4, n5, n6⟩) := ((((((N3.set 0 (.int .i64 n1)).set 1 (.int .i64 n2)).set 2 (.int .i64 n3)).set 3 (.int .i64 n4)).set 4 (.int .i64 n5)).set 5 (.int .i64 n6))
      have XA : Blk ((((((W3.setCell ⟨W0.heap.size, 0, none⟩ (.int .i64 n1)).setCell ⟨W0.heap.size, 1, none⟩ (.int .i64 n2)).setCell ⟨W0.heap.size, 2, none⟩ (.int .i64 n3)).setCell ⟨W0.heap.size, 3, none⟩ (.int .i64 n4)).setCell ⟨W0.heap.size, 4, none⟩ (.int .i64 n5)).setCell ⟨W0.heap.size, 5, none⟩ (.int .i64 n6)) W2.heap.size 84 [.bool false, .bool false, .int .i64 0] := ((((((X3.far (a := ⟨W0.heap.size, 0, none⟩) hxn (.int .i64 n1)).far (a := ⟨W0.heap.size, 1, none⟩) hxn (.int .i64 n2)).far (a := ⟨W0.heap.size, 2, none⟩) hxn (.int .i64 n3)).far (a := ⟨W0.heap.size, 3, none⟩) hxn (.int .i64 n4)).far (a := ⟨W0.heap.size, 4, none⟩) hxn (.int .i64 n5)).far (a := ⟨W0.heap.size, 5, none⟩) hxn (.int .i64 n6))
      refine hK.out _ _ (HKS.out _ BA) (fun hHeld => ?_)
      clear hK K
      try simp only [Act.put, List.setIfInBounds_toArray, List.set_cons_zero, List.set_cons_succ]
      clear nc0 nc1 nc2 nc3 nc4 nc5 nf0 nf1 nf2 nf3 nf4 nf5
      generalize ((((((W3.setCell ⟨W0.heap.size, 0, none⟩ (.int .i64 n1)).setCell ⟨W0.heap.size, 1, none⟩ (.int .i64 n2)).setCell ⟨W0.heap.size, 2, none⟩ (.int .i64 n3)).setCell ⟨W0.heap.size, 3, none⟩ (.int .i64 n4)).setCell ⟨W0.heap.size, 4, none⟩ (.int .i64 n5)).setCell ⟨W0.heap.size, 5, none⟩ (.int .i64 n6)) = V at *
      have xc0 := XA.cell 0
      have xf0 := XA.frozen 0
      have xc1 := XA.cell 1
      have xf1 := XA.frozen 1
      have xc2 := XA.cell 2
      have xf2 := XA.frozen 2
      simp only [List.getElem?_cons_succ, List.getElem?_cons_zero] at xc0 xc1 xc2
      refine AnyS_step (i := 17) rfl (by kernel_rfl) rfl (fun K hK => ?_)
      go_simp
      have BC : Below W.heap.size W (((V.setCell ⟨W2.heap.size, 0, none⟩ (.bool x1)).setCell ⟨W2.heap.size, 1, none⟩ (.bool x2)).setCell ⟨W2.heap.size, 2, none⟩ (.int .i64 x3)) := (((BA.setCell (p := ⟨W2.heap.size, 0, none⟩) L3 (.bool x1)).setCell (p := ⟨W2.heap.size, 1, none⟩) L3 (.bool x2)).setCell (p := ⟨W2.heap.size, 2, none⟩) L3 (.int .i64 x3))
      have NC : Blk (((V.setCell ⟨W2.heap.size, 0, none⟩ (.bool x1)).setCell ⟨W2.heap.size, 1, none⟩ (.bool x2)).setCell ⟨W2.heap.size, 2, none⟩ (.int .i64 x3)) W0.heap.size 53 (SetsS.cells ⟨n1, n2, n3, n4, n5, n6⟩) := (((NA.far (a := ⟨W2.heap.size, 0, none⟩) hnx (.bool x1)).far (a := ⟨W2.heap.size, 1, none⟩) hnx (.bool x2)).far (a := ⟨W2.heap.size, 2, none⟩) hnx (.int .i64 x3))
      have XC : Blk (((V.setCell ⟨W2.heap.size, 0, none⟩ (.bool x1)).setCell ⟨W2.heap.size, 1, none⟩ (.bool x2)).setCell ⟨W2.heap.size, 2, none⟩ (.int .i64 x3)) W2.heap.size 84 [.bool x1, .bool x2, .int .i64 x3] := (((XA.set 0 (.bool x1)).set 1 (.bool x2)).set 2 (.int .i64 x3))
      refine hK.out _ _ (HKS.out _ BC) (fun hHeld => ?_)
      clear hK K
      try simp only [Act.put, List.setIfInBounds_toArray, List.set_cons_zero, List.set_cons_succ]
      refine AnyS_done (by kernel_rfl) (NoPanic.normal ?_) _
      try simp only [Act.put, List.setIfInBounds_toArray, List.set_cons_zero, List.set_cons_succ]
      show tailW _ _ _ _ _ _
      exact HREST.out _ BC _ _ NC XC _ _ _ _ _ _ _ _ _ _ _ _ _ _ _ _ _ _ _ _ _ _ _ _ _ _ _ _ _ _ _ _ _ _ _ _ _ _ _ _ _ _ _ _ _ _ _ _ _ _ _ _ _ _ _ _ _ _ _ _ _ _ _ _ _ _ _ _ _ _ _ _ _ _ _ _ _ _ _ _ _ _ _ _ _ _
    · go_simp
      have B2 : Below W.heap.size W (W1.alloc (.cells #[.bool false, .bool false, .int .i64 0] 84)) := B1.alloc B1.size _
      have X2 : Blk (W1.alloc (.cells #[.bool false, .bool false, .int .i64 0] 84)) W1.heap.size 84 [.bool false, .bool false, .int .i64 0] := Blk.new W1 _ [.bool false, .bool false, .int .i64 0]
      have N2 := N1.alloc (.cells #[.bool false, .bool false, .int .i64 0] 84)
      have L2 : W.heap.size ≤ W1.heap.size := B1.size
      refine hK.out _ _ (HKS.out _ B2) (fun hHeld => ?_)
      clear hK K
      try simp only [Act.put, List.setIfInBounds_toArray, List.set_cons_zero, List.set_cons_succ]
      generalize W1.alloc (.cells #[.bool false, .bool false, .int .i64 0] 84) = W2 at *
      refine AnyS_step (i := 10) rfl (by kernel_rfl) rfl (fun K hK => ?_)
      go_simp
      refine (HAP.out _ B2).mono ?_
      rintro e W3 ⟨rfl, hb3⟩
      have B3 : Below W.heap.size W W3 := bcall hb3 B2
      have N3 := N2.below hb3 N2.lt
      have X3 := X2.below hb3 X2.lt
      refine hK.out _ _ (HKS.out _ B3) (fun hHeld => ?_)
      clear hK K
      try simp only [Act.put, List.setIfInBounds_toArray, List.set_cons_zero, List.set_cons_succ]
      refine AnyS_plain (i := 11) (v := ?_) rfl (by kernel_rfl) (by kernel_rfl) (by kernel_rfl) (by kernel_rfl) (fun _ _ _ h => h) (Or.inl ⟨by rfl, ?_⟩) hHeld ?_
      rotate_left
      · intro w' hSw
        (try dsimp only at hSw)
        go_simp
        try with_reducible rfl
      try simp only [Act.put, List.setIfInBounds_toArray, List.set_cons_zero, List.set_cons_succ]
      refine AnyS_plain (i := 12) (v := ?_) rfl (by kernel_rfl) (by kernel_rfl) (by kernel_rfl) (by kernel_rfl) (fun _ _ _ h => h) (Or.inl ⟨by rfl, ?_⟩) hHeld ?_
      rotate_left
      · intro w' hSw
        (try dsimp only at hSw)
        go_simp
        try with_reducible rfl
      try simp only [Act.put, List.setIfInBounds_toArray, List.set_cons_zero, List.set_cons_succ]
      refine AnyS_plain (i := 13) (v := ?_) rfl (by kernel_rfl) (by kernel_rfl) (by kernel_rfl) (by kernel_rfl) (fun _ _ _ h => h) (Or.inl ⟨by rfl, ?_⟩) hHeld ?_
      rotate_left
      · intro w' hSw
        (try dsimp only at hSw)
        go_simp
        try with_reducible rfl
      try simp only [Act.put, List.setIfInBounds_toArray, List.set_cons_zero, List.set_cons_succ]
      have nc0 := N3.cell 0
      have nf0 := N3.frozen 0
      have nc1 := N3.cell 1
      have nf1 := N3.frozen 1
      have nc2 := N3.cell 2
      have nf2 := N3.frozen 2
      have nc3 := N3.cell 3
      have nf3 := N3.frozen 3
      have nc4 := N3.cell 4
      have nf4 := N3.frozen 4
      have nc5 := N3.cell 5
      have nf5 := N3.frozen 5
      simp only [List.getElem?_cons_succ, List.getElem?_cons_zero] at nc0 nc1 nc2 nc3 nc4 nc5
      have hnx : W0.heap.size ≠ W1.heap.size := N3.ne X3 (by decide)
      have hxn : W1.heap.size ≠ W0.heap.size := fun h => hnx h.symm
      refine AnyS_step (i := 16) rfl (by kernel_rfl) rfl (fun K hK => ?_)
      go_simp
      have BA : Below W.heap.size W ((((((W3.setCell ⟨W0.heap.size, 0, none⟩ (.int .i64 n1)).setCell ⟨W0.heap.size, 1, none⟩ (.int .i64 n2)).setCell ⟨W0.heap.size, 2, none⟩ (.int .i64 n3)).setCell ⟨W0.heap.size, 3, none⟩ (.int .i64 n4)).setCell ⟨W0.heap.size, 4, none⟩ (.int .i64 n5)).setCell ⟨W0.heap.size, 5, none⟩ (.int .i64 n6)) := ((((((B3.setCell (p := ⟨W0.heap.size, 0, none⟩) L1 (.int .i64 n1)).setCell (p := ⟨W0.heap.size, 1, none⟩) L1 (.int .i64 n2)).setCell (p := ⟨W0.heap.size, 2, none⟩) L1 (.int .i64 n3)).setCell (p := ⟨W0.heap.size, 3, none⟩) L1 (.int .i64 n4)).setCell (p := ⟨W0.heap.size, 4, none⟩) L1 (.int .i64 n5)).setCell (p := ⟨W0.heap.size, 5, none⟩) L1 (.int .i64 n6))
      have NA : Blk ((((((W3.setCell ⟨W0.heap.size, 0, none⟩ (.int .i64 n1)).setCell ⟨W0.heap.size, 1, none⟩ (.int .i64 n2)).setCell ⟨W0.heap.size, 2, none⟩ (.int .i64 n3)).setCell ⟨W0.heap.size, 3, none⟩ (.int .i64 n4)).setCell ⟨W0.heap.size, 4, none⟩ (.int .i64 n5)).setCell ⟨W0.heap.size, 5, none⟩ (.int .i64 n6)) W0.heap.size 53 (SetsS.cells ⟨n1, n2, n3, n4, n5, n6⟩) := ((((((N3.set 0 (.int .i64 n1)).set 1 (.int .i64 n2)).set 2 (.int .i64 n3)).set 3 (.int .i64 n4)).set 4 (.int .i64 n5)).set 5 (.int .i64 n6))
      have XA : Blk ((((((W3.setCell ⟨W0.heap.size, 0, none⟩ (.int .i64 n1)).setCell ⟨W0.heap.size, 1, none⟩ (.int .i64 n2)).setCell ⟨W0.heap.size, 2, none⟩ (.int .i64 n3)).setCell ⟨W0.heap.size, 3, none⟩ (.int .i64 n4)).setCell ⟨W0.heap.size, 4, none⟩ (.int .i64 n5)).setCell ⟨W0.heap.size, 5, none⟩ (.int .i64 n6)) W1.heap.size 84 [.bool false, .bool false, .int .i64 0] := ((((((X3.far (a := ⟨W0.heap.size, 0, none⟩) hxn (.int .i64 n1)).far (a := ⟨W0.heap.size, 1, none⟩) hxn (.int .i64 n2)).far (a := ⟨W0.heap.size, 2, none⟩) hxn (.int .i64 n3)).far (a := ⟨W0.heap.size, 3, none⟩) hxn (.int .i64 n4)).far (a := ⟨W0.heap.size, 4, none⟩) hxn (.int .i64 n5)).far (a := ⟨W0.heap.size, 5, none⟩) hxn (.int .i64 n6))
      refine hK.out _ _ (HKS.out _ BA) (fun hHeld => ?_)
      clear hK K
      try simp only [Act.put, List.setIfInBounds_toArray, List.set_cons_zero, List.set_cons_succ]
      clear nc0 nc1 nc2 nc3 nc4 nc5 nf0 nf1 nf2 nf3 nf4 nf5
      generalize ((((((W3.setCell ⟨W0.heap.size, 0, none⟩ (.int .i64 n1)).setCell ⟨W0.heap.size, 1, none⟩ (.int .i64 n2)).setCell ⟨W0.heap.size, 2, none⟩ (.int .i64 n3)).setCell ⟨W0.heap.size, 3, none⟩ (.int .i64 n4)).setCell ⟨W0.heap.size, 4, none⟩ (.int .i64 n5)).setCell ⟨W0.heap.size, 5, none⟩ (.int .i64 n6)) = V at *
      have xc0 := XA.cell 0
      have xf0 := XA.frozen 0
      have xc1 := XA.cell 1
      have xf1 := XA.frozen 1
      have xc2 := XA.cell 2
      have xf2 := XA.frozen 2
      simp only [List.getElem?_cons_succ, List.getElem?_cons_zero] at xc0 xc1 xc2
      refine AnyS_step (i := 17) rfl (by kernel_rfl) rfl (fun K hK => ?_)
      go_simp
      have BC : Below W.heap.size W (((V.setCell ⟨W1.heap.size, 0, none⟩ (.bool x1)).setCell ⟨W1.heap.size, 1, none⟩ (.bool x2)).setCell ⟨W1.heap.size, 2, none⟩ (.int .i64 x3)) := (((BA.setCell (p := ⟨W1.heap.size, 0, none⟩) L2 (.bool x1)).setCell (p := ⟨W1.heap.size, 1, none⟩) L2 (.bool x2)).setCell (p := ⟨W1.heap.size, 2, none⟩) L2 (.int .i64 x3))
      have NC : Blk (((V.setCell ⟨W1.heap.size, 0, none⟩ (.bool x1)).setCell ⟨W1.heap.size, 1, none⟩ (.bool x2)).setCell ⟨W1.heap.size, 2, none⟩ (.int .i64 x3)) W0.heap.size 53 (SetsS.cells ⟨n1, n2, n3, n4, n5, n6⟩) := (((NA.far (a := ⟨W1.heap.size, 0, none⟩) hnx (.bool x1)).far (a := ⟨W1.heap.size, 1, none⟩) hnx (.bool x2)).far (a := ⟨W1.heap.size, 2, none⟩) hnx (.int .i64 x3))
      have XC : Blk (((V.setCell ⟨W1.heap.size, 0, none⟩ (.bool x1)).setCell ⟨W1.heap.size, 1, none⟩ (.bool x2)).setCell ⟨W1.heap.size, 2, none⟩ (.int .i64 x3)) W1.heap.size 84 [.bool x1, .bool x2, .int .i64 x3] := (((XA.set 0 (.bool x1)).set 1 (.bool x2)).set 2 (.int .i64 x3))
      refine hK.out _ _ (HKS.out _ BC) (fun hHeld => ?_)
      clear hK K
      try simp only [Act.put, List.setIfInBounds_toArray, List.set_cons_zero, List.set_cons_succ]
      refine AnyS_done (by kernel_rfl) (NoPanic.normal ?_) _
      try simp only [Act.put, List.setIfInBounds_toArray, List.set_cons_zero, List.set_cons_succ]
      show tailW _ _ _ _ _ _
      exact HREST.out _ BC _ _ NC XC _ _ _ _ _ _ _ _ _ _ _ _ _ _ _ _ _ _ _ _ _ _ _ _ _ _ _ _ _ _ _ _ _ _ _ _ _ _ _ _ _ _ _ _ _ _ _ _ _ _ _ _ _ _ _ _ _ _ _ _ _ _ _ _ _ _ _ _ _ _ _ _ _ _ _ _ _ _ _ _ _ _ _ _ _ _
  · go_simp
    have B1 : Below W.heap.size W (W0.alloc (.cells #[.bool false, .bool false, .int .i64 0] 84)) := B0.alloc B0.size _
    have X1 : Blk (W0.alloc (.cells #[.bool false, .bool false, .int .i64 0] 84)) W0.heap.size 84 [.bool false, .bool false, .int .i64 0] := Blk.new W0 _ [.bool false, .bool false, .int .i64 0]
    have L1 : W.heap.size ≤ W0.heap.size := B0.size
    refine hK.out _ _ (HKS.out _ B1) (fun hHeld => ?_)
    clear hK K
    try simp only [Act.put, List.setIfInBounds_toArray, List.set_cons_zero, List.set_cons_succ]
    generalize W0.alloc (.cells #[.bool false, .bool false, .int .i64 0] 84) = W1 at *
    refine AnyS_two (i := 10) (j := 14) rfl rfl (by kernel_rfl) rfl rfl (fun K hK => ?_) (fun K hK => ?_)
    · go_simp
      refine (HAP.out _ B1).mono ?_
      rintro e W2 ⟨rfl, hb2⟩
      have B2 : Below W.heap.size W W2 := bcall hb2 B1
      have X2 := X1.below hb2 X1.lt
      refine hK.out _ _ (HKS.out _ B2) (fun hHeld => ?_)
      clear hK K
      try simp only [Act.put, List.setIfInBounds_toArray, List.set_cons_zero, List.set_cons_succ]
      refine AnyS_plain (i := 11) (v := ?_) rfl (by kernel_rfl) (by kernel_rfl) (by kernel_rfl) (by kernel_rfl) (fun _ _ _ h => h) (Or.inl ⟨by rfl, ?_⟩) hHeld ?_
      rotate_left
      · intro w' hSw
        (try dsimp only at hSw)
        go_simp
        try with_reducible rfl
      try simp only [Act.put, List.setIfInBounds_toArray, List.set_cons_zero, List.set_cons_succ]
      refine AnyS_plain (i := 12) (v := ?_) rfl (by kernel_rfl) (by kernel_rfl) (by kernel_rfl) (by kernel_rfl) (fun _ _ _ h => h) (Or.inl ⟨by rfl, ?_⟩) hHeld ?_
      rotate_left
      · intro w' hSw
        (try dsimp only at hSw)
        go_simp
        try with_reducible rfl
      try simp only [Act.put, List.setIfInBounds_toArray, List.set_cons_zero, List.set_cons_succ]
      refine AnyS_plain (i := 13) (v := ?_) rfl (by kernel_rfl) (by kernel_rfl) (by kernel_rfl) (by kernel_rfl) (fun _ _ _ h => h) (Or.inl ⟨by rfl, ?_⟩) hHeld ?_
      rotate_left
      · intro w' hSw
        (try dsimp only at hSw)
        go_simp
        try with_reducible rfl
      try simp only [Act.put, List.setIfInBounds_toArray, List.set_cons_zero, List.set_cons_succ]
      refine AnyS_step (i := 14) rfl (by kernel_rfl) rfl (fun K hK => ?_)
      go_simp
      have B3 : Below W.heap.size W (W2.alloc (.cells #[.int .i64 0, .int .i64 0, .int .i64 0, .int .i64 0, .int .i64 0, .int .i64 0] 53)) := B2.alloc B2.size _
      have N3 : Blk (W2.alloc (.cells #[.int .i64 0, .int .i64 0, .int .i64 0, .int .i64 0, .int .i64 0, .int .i64 0] 53)) W2.heap.size 53 [.int .i64 0, .int .i64 0, .int .i64 0, .int .i64 0, .int .i64 0, .int .i64 0] := Blk.new W2 _ [.int .i64 0, .int .i64 0, .int .i64 0, .int .i64 0, .int .i64 0, .int .i64 0]
      have X3 := X2.alloc (.cells #[.int .i64 0, .int .i64 0, .int .i64 0, .int .i64 0, .int .i64 0, .int .i64 0] 53)
      have L3 : W.heap.size ≤ W2.heap.size := B2.size
      refine hK.out _ _ (HKS.out _ B3) (fun hHeld => ?_)
      clear hK K
      try simp only [Act.put, List.setIfInBounds_toArray, List.set_cons_zero, List.set_cons_succ]
      generalize W2.alloc (.cells #[.int .i64 0, .int .i64 0, .int .i64 0, .int .i64 0, .int .i64 0, .int .i64 0] 53) = W3 at *
      have nc0 := N3.cell 0
      have nf0 := N3.frozen 0
      have nc1 := N3.cell 1
      have nf1 := N3.frozen 1
      have nc2 := N3.cell 2
      have nf2 := N3.frozen 2
      have nc3 := N3.cell 3
      have nf3 := N3.frozen 3
      have nc4 := N3.cell 4
      have nf4 := N3.frozen 4
      have nc5 := N3.cell 5
      have nf5 := N3.frozen 5
      simp only [List.getElem?_cons_succ, List.getElem?_cons_zero] at nc0 nc1 nc2 nc3 nc4 nc5
      have hnx : W2.heap.size ≠ W0.heap.size := N3.ne X3 (by decide)
      have hxn : W0.heap.size ≠ W2.heap.size := fun h => hnx h.symm
      refine AnyS_step (i := 16) rfl (by kernel_rfl) rfl (fun K hK => ?_)
      go_simp
      have BA : Below W.heap.size W ((((((W3.setCell ⟨W2.heap.size, 0, none⟩ (.int .i64 n1)).setCell ⟨W2.heap.size, 1, none⟩ (.int .i64 n2)).setCell ⟨W2.heap.size, 2, none⟩ (.int .i64 n3)).setCell ⟨W2.heap.size, 3, none⟩ (.int .i64 n4)).setCell ⟨W2.heap.size, 4, none⟩ (.int .i64 n5)).setCell ⟨W2.heap.size, 5, none⟩ (.int .i64 n6)) := ((((((B3.setCell (p := ⟨W2.heap.size, 0, none⟩) L3 (.int .i64 n1)).setCell (p := ⟨W2.heap.size, 1, none⟩) L3 (.int .i64 n2)).setCell (p := ⟨W2.heap.size, 2, none⟩) L3 (.int .i64 n3)).setCell (p := ⟨W2.heap.size, 3, none⟩) L3 (.int .i64 n4)).setCell (p := ⟨W2.heap.size, 4, none⟩) L3 (.int .i64 n5)).setCell (p := ⟨W2.heap.size, 5, none⟩) L3 (.int .i64 n6))
      have NA : Blk ((((((W3.setCell ⟨W2.heap.size, 0, none⟩ (.int .i64 n1)).setCell ⟨W2.heap.size, 1, none⟩ (.int .i64 n2)).setCell ⟨W2.heap.size, 2, none⟩ (.int .i64 n3)).setCell ⟨W2.heap.size, 3, none⟩ (.int .i64 n4)).setCell ⟨W2.heap.size, 4, none⟩ (.int .i64 n5)).setCell ⟨W2.heap.size, 5, none⟩ (.int .i64 n6)) W2.heap.size 53 (SetsS.cells ⟨n1, n2, n3, n4, n5, n6⟩) := ((((((N3.set 0 (.int .i64 n1)).set 1 (.int .i64 n2)).set 2 (.int .i64 n3)).set 3 (.int .i64 n4)).set 4 (.int .i64 n5)).set 5 (.int .i64 n6))
      have XA : Blk ((((((W3.setCell ⟨W2.heap.size, 0, none⟩ (.int .i64 n1)).setCell ⟨W2.heap.size, 1, none⟩ (.int .i64 n2)).setCell ⟨W2.heap.size, 2, none⟩ (.int .i64 n3)).setCell ⟨W2.heap.size, 3, none⟩ (.int .i64 n4)).setCell ⟨W2.heap.size, 4, none⟩ (.int .i64 n5)).setCell ⟨W2.heap.size, 5, none⟩ (.int .i64 n6)) W0.heap.size 84 [.bool false, .bool false, .int .i64 0] := ((((((X3.far (a := ⟨W2.heap.size, 0, none⟩) hxn (.int .i64 n1)).far (a := ⟨W2.heap.size, 1, none⟩) hxn (.int .i64 n2)).far (a := ⟨W2.heap.size, 2, none⟩) hxn (.int .i64 n3)).far (a := ⟨W2.heap.size, 3, none⟩) hxn (.int .i64 n4)).far (a := ⟨W2.heap.size, 4, none⟩) hxn (.int .i64 n5)).far (a := ⟨W2.heap.size, 5, none⟩) hxn (.int .i64 n6))
      refine hK.out _ _ (HKS.out _ BA) (fun hHeld => ?_)
      clear hK K
      try simp only [Act.put, List.setIfInBounds_toArray, List.set_cons_zero, List.set_cons_succ]
      clear nc0 nc1 nc2 nc3 nc4 nc5 nf0 nf1 nf2 nf3 nf4 nf5
      generalize ((((((W3.setCell ⟨W2.heap.size, 0, none⟩ (.int .i64 n1)).setCell ⟨W2.heap.size, 1, none⟩ (.int .i64 n2)).setCell ⟨W2.heap.size, 2, none⟩ (.int .i64 n3)).setCell ⟨W2.heap.size, 3, none⟩ (.int .i64 n4)).setCell ⟨W2.heap.size, 4, none⟩ (.int .i64 n5)).setCell ⟨W2.heap.size, 5, none⟩ (.int .i64 n6)) = V at *
      have xc0 := XA.cell 0
      have xf0 := XA.frozen 0
      have xc1 := XA.cell 1
      have xf1 := XA.frozen 1
      have xc2 := XA.cell 2
      have xf2 := XA.frozen 2
      simp only [List.getElem?_cons_succ, List.getElem?_cons_zero] at xc0 xc1 xc2
      refine AnyS_step (i := 17) rfl (by kernel_rfl) rfl (fun K hK => ?_)
      go_simp
      have BC : Below W.heap.size W (((V.setCell ⟨W0.heap.size, 0, none⟩ (.bool x1)).setCell ⟨W0.heap.size, 1, none⟩ (.bool x2)).setCell ⟨W0.heap.size, 2, none⟩ (.int .i64 x3)) := (((BA.setCell (p := ⟨W0.heap.size, 0, none⟩) L1 (.bool x1)).setCell (p := ⟨W0.heap.size, 1, none⟩) L1 (.bool x2)).setCell (p := ⟨W0.heap.size, 2, none⟩) L1 (.int .i64 x3))
      have NC : Blk (((V.setCell ⟨W0.heap.size, 0, none⟩ (.bool x1)).setCell ⟨W0.heap.size, 1, none⟩ (.bool x2)).setCell ⟨W0.heap.size, 2, none⟩ (.int .i64 x3)) W2.heap.size 53 (SetsS.cells ⟨n1, n2, n3, n4, n5, n6⟩) := (((NA.far (a := ⟨W0.heap.size, 0, none⟩) hnx (.bool x1)).far (a := ⟨W0.heap.size, 1, none⟩) hnx (.bool x2)).far (a := ⟨W0.heap.size, 2, none⟩) hnx (.int .i64 x3))
      have XC : Blk (((V.setCell ⟨W0.heap.size, 0, none⟩ (.bool x1)).setCell ⟨W0.heap.size, 1, none⟩ (.bool x2)).setCell ⟨W0.heap.size, 2, none⟩ (.int .i64 x3)) W0.heap.size 84 [.bool x1, .bool x2, .int .i64 x3] := (((XA.set 0 (.bool x1)).set 1 (.bool x2)).set 2 (.int .i64 x3))
      refine hK.out _ _ (HKS.out _ BC) (fun hHeld => ?_)
      clear hK K
      try simp only [Act.put, List.setIfInBounds_toArray, List.set_cons_zero, List.set_cons_succ]
      refine AnyS_done (by kernel_rfl) (NoPanic.normal ?_) _
      try simp only [Act.put, List.setIfInBounds_toArray, List.set_cons_zero, List.set_cons_succ]
      show tailW _ _ _ _ _ _
      exact HREST.out _ BC _ _ NC XC _ _ _ _ _ _ _ _ _ _ _ _ _ _ _ _ _ _ _ _ _ _ _ _ _ _ _ _ _ _ _ _ _ _ _ _ _ _ _ _ _ _ _ _ _ _ _ _ _ _ _ _ _ _ _ _ _ _ _ _ _ _ _ _ _ _ _ _ _ _ _ _ _ _ _ _ _ _ _ _ _ _ _ _ _ _
    · go_simp
      have B2 : Below W.heap.size W (W1.alloc (.cells #[.int .i64 0, .int .i64 0, .int .i64 0, .int .i64 0, .int .i64 0, .int .i64 0] 53)) := B1.alloc B1.size _
      have N2 : Blk (W1.alloc (.cells #[.int .i64 0, .int .i64 0, .int .i64 0, .int .i64 0, .int .i64 0, .int .i64 0] 53)) W1.heap.size 53 [.int .i64 0, .int .i64 0, .int .i64 0, .int .i64 0, .int .i64 0, .int .i64 0] := Blk.new W1 _ [.int .i64 0, .int .i64 0, .int .i64 0, .int .i64 0, .int .i64 0, .int .i64 0]
      have X2 := X1.alloc (.cells #[.int .i64 0, .int .i64 0, .int .i64 0, .int .i64 0, .int .i64 0, .int .i64 0] 53)
      have L2 : W.heap.size ≤ W1.heap.size := B1.size
      refine hK.out _ _ (HKS.out _ B2) (fun hHeld => ?_)
      clear hK K
      try simp only [Act.put, List.setIfInBounds_toArray, List.set_cons_zero, List.set_cons_succ]
      generalize W1.alloc (.cells #[.int .i64 0, .int .i64 0, .int .i64 0, .int .i64 0, .int .i64 0, .int .i64 0] 53) = W2 at *
      refine AnyS_step (i := 10) rfl (by kernel_rfl) rfl (fun K hK => ?_)
      go_simp
      refine (HAP.out _ B2).mono ?_
      rintro e W3 ⟨rfl, hb3⟩
      have B3 : Below W.heap.size W W3 := bcall hb3 B2
      have N3 := N2.below hb3 N2.lt
      have X3 := X2.below hb3 X2.lt
      refine hK.out _ _ (HKS.out _ B3) (fun hHeld => ?_)
      clear hK K
      try simp only [Act.put, List.setIfInBounds_toArray, List.set_cons_zero, List.set_cons_succ]
      refine AnyS_plain (i := 11) (v := ?_) rfl (by kernel_rfl) (by kernel_rfl) (by kernel_rfl) (by kernel_rfl) (fun _ _ _ h => h) (Or.inl ⟨by rfl, ?_⟩) hHeld ?_
      rotate_left
      · intro w' hSw
        (try dsimp only at hSw)
        go_simp
        try with_reducible rfl
      try simp only [Act.put, List.setIfInBounds_toArray, List.set_cons_zero, List.set_cons_succ]
      refine AnyS_plain (i := 12) (v := ?_) rfl (by kernel_rfl) (by kernel_rfl) (by kernel_rfl) (by kernel_rfl) (fun _ _ _ h => h) (Or.inl ⟨by rfl, ?_⟩) hHeld ?_
      rotate_left
      · intro w' hSw
        (try dsimp only at hSw)
        go_simp
        try with_reducible rfl
      try simp only [Act.put, List.setIfInBounds_toArray, List.set_cons_zero, List.set_cons_succ]
      refine AnyS_plain (i := 13) (v := ?_) rfl (by kernel_rfl) (by kernel_rfl) (by kernel_rfl) (by kernel_rfl) (fun _ _ _ h => h) (Or.inl ⟨by rfl, ?_⟩) hHeld ?_
      rotate_left
      · intro w' hSw
        (try dsimp only at hSw)
        go_simp
        try with_reducible rfl
      try simp only [Act.put, List.setIfInBounds_toArray, List.set_cons_zero, List.set_cons_succ]
      have nc0 := N3.cell 0
      have nf0 := N3.frozen 0
      have nc1 := N3.cell 1
      have nf1 := N3.frozen 1
      have nc2 := N3.cell 2
      have nf2 := N3.frozen 2
      have nc3 := N3.cell 3
      have nf3 := N3.frozen 3
      have nc4 := N3.cell 4
      have nf4 := N3.frozen 4
      have nc5 := N3.cell 5
      have nf5 := N3.frozen 5
      simp only [List.getElem?_cons_succ, List.getElem?_cons_zero] at nc0 nc1 nc2 nc3 nc4 nc5
      have hnx : W1.heap.size ≠ W0.heap.size := N3.ne X3 (by decide)
      have hxn : W0.heap.size ≠ W1.heap.size := fun h => hnx h.symm
      refine AnyS_step (i := 16) rfl (by kernel_rfl) rfl (fun K hK => ?_)
      go_simp
      have BA : Below W.heap.size W ((((((W3.setCell ⟨W1.heap.size, 0, none⟩ (.int .i64 n1)).setCell ⟨W1.heap.size, 1, none⟩ (.int .i64 n2)).setCell ⟨W1.heap.size, 2, none⟩ (.int .i64 n3)).setCell ⟨W1.heap.size, 3, none⟩ (.int .i64 n4)).setCell ⟨W1.heap.size, 4, none⟩ (.int .i64 n5)).setCell ⟨W1.heap.size, 5, none⟩ (.int .i64 n6)) := ((((((B3.setCell (p := ⟨W1.heap.size, 0, none⟩) L2 (.int .i64 n1)).setCell (p := ⟨W1.heap.size, 1, none⟩) L2 (.int .i64 n2)).setCell (p := ⟨W1.heap.size, 2, none⟩) L2 (.int .i64 n3)).setCell (p := ⟨W1.heap.size, 3, none⟩) L2 (.int .i64 n4)).setCell (p := ⟨W1.heap.size, 4, none⟩) L2 (.int .i64 n5)).setCell (p := ⟨W1.heap.size, 5, none⟩) L2 (.int .i64 n6))
      have NA : Blk ((((((W3.setCell ⟨W1.heap.size, 0, none⟩ (.int .i64 n1)).setCell ⟨W1.heap.size, 1, none⟩ (.int .i64 n2)).setCell ⟨W1.heap.size, 2, none⟩ (.int .i64 n3)).setCell ⟨W1.heap.size, 3, none⟩ (.int .i64 n4)).setCell ⟨W1.heap.size, 4, none⟩ (.int .i64 n5)).setCell ⟨W1.heap.size, 5, none⟩ (.int .i64 n6)) W1.heap.size 53 (SetsS.cells ⟨n1, n2, n3, n4, n5, n6⟩) := ((((((N3.set 0 (.int .i64 n1)).set 1 (.int .i64 n2)).set 2 (.int .i64 n3)).set 3 (.int .i64 n4)).set 4 (.int .i64 n5)).set 5 (.int .i64 n6))
      have XA : Blk ((((((W3.setCell ⟨W1.heap.size, 0, none⟩ (.int .i64 n1)).setCell ⟨W1.heap.size, 1, none⟩ (.int .i64 n2)).setCell ⟨W1.heap.size, 2, none⟩ (.int .i64 n3)).setCell ⟨W1.heap.size, 3, none⟩ (.int .i64 n4)).setCell ⟨W1.heap.size, 4, none⟩ (.int .i64 n5)).setCell ⟨W1.heap.size, 5, none⟩ (.int .i64 n6)) W0.heap.size 84 [.bool false, .bool false, .int .i64 0] := ((((((X3.far (a := ⟨W1.heap.size, 0, none⟩) hxn (.int .i64 n1)).far (a := ⟨W1.heap.size, 1, none⟩) hxn (.int .i64 n2)).far (a := ⟨W1.heap.size, 2, none⟩) hxn (.int .i64 n3)).far (a := ⟨W1.heap.size, 3, none⟩) hxn (.int .i64 n4)).far (a := ⟨W1.heap.size, 4, none⟩) hxn (.int .i64 n5)).far (a := ⟨W1.heap.size, 5, none⟩) hxn (.int .i64 n6))
      refine hK.out _ _ (HKS.out _ BA) (fun hHeld => ?_)
      clear hK K
      try simp only [Act.put, List.setIfInBounds_toArray, List.set_cons_zero, List.set_cons_succ]
      clear nc0 nc1 nc2 nc3 nc4 nc5 nf0 nf1 nf2 nf3 nf4 nf5
      generalize ((((((W3.setCell ⟨W1.heap.size, 0, none⟩ (.int .i64 n1)).setCell ⟨W1.heap.size, 1, none⟩ (.int .i64 n2)).setCell ⟨W1.heap.size, 2, none⟩ (.int .i64 n3)).setCell ⟨W1.heap.size, 3, none⟩ (.int .i64 n4)).setCell ⟨W1.heap.size, 4, none⟩ (.int .i64 n5)).setCell ⟨W1.heap.size, 5, none⟩ (.int .i64 n6)) = V at *
      have xc0 := XA.cell 0
      have xf0 := XA.frozen 0
      have xc1 := XA.cell 1
      have xf1 := XA.frozen 1
      have xc2 := XA.cell 2
      have xf2 := XA.frozen 2
      simp only [List.getElem?_cons_succ, List.getElem?_cons_zero] at xc0 xc1 xc2
      refine AnyS_step (i := 17) rfl (by kernel_rfl) rfl (fun K hK => ?_)
      go_simp
      have BC : Below W.heap.size W (((V.setCell ⟨W0.heap.size, 0, none⟩ (.bool x1)).setCell ⟨W0.heap.size, 1, none⟩ (.bool x2)).setCell ⟨W0.heap.size, 2, none⟩ (.int .i64 x3)) := (((BA.setCell (p := ⟨W0.heap.size, 0, none⟩) L1 (.bool x1)).setCell (p := ⟨W0.heap.size, 1, none⟩) L1 (.bool x2)).setCell (p := ⟨W0.heap.size, 2, none⟩) L1 (.int .i64 x3))
      have NC : Blk (((V.setCell ⟨W0.heap.size, 0, none⟩ (.bool x1)).setCell ⟨W0.heap.size, 1, none⟩ (.bool x2)).setCell ⟨W0.heap.size, 2, none⟩ (.int .i64 x3)) W1.heap.size 53 (SetsS.cells ⟨n1, n2, n3, n4, n5, n6⟩) := (((NA.far (a := ⟨W0.heap.size, 0, none⟩) hnx (.bool x1)).far (a := ⟨W0.heap.size, 1, none⟩) hnx (.bool x2)).far (a := ⟨W0.heap.size, 2, none⟩) hnx (.int .i64 x3))
      have XC : Blk (((V.setCell ⟨W0.heap.size, 0, none⟩ (.bool x1)).setCell ⟨W0.heap.size, 1, none⟩ (.bool x2)).setCell ⟨W0.heap.size, 2, none⟩ (.int .i64 x3)) W0.heap.size 84 [.bool x1, .bool x2, .int .i64 x3] := (((XA.set 0 (.bool x1)).set 1 (.bool x2)).set 2 (.int .i64 x3))
      refine hK.out _ _ (HKS.out _ BC) (fun hHeld => ?_)
      clear hK K
      try simp only [Act.put, List.setIfInBounds_toArray, List.set_cons_zero, List.set_cons_succ]
      refine AnyS_done (by kernel_rfl) (NoPanic.normal ?_) _
      try simp only [Act.put, List.setIfInBounds_toArray, List.set_cons_zero, List.set_cons_succ]
      show tailW _ _ _ _ _ _
      exact HREST.out _ BC _ _ NC XC _ _ _ _ _ _ _ _ _ _ _ _ _ _ _ _ _ _ _ _ _ _ _ _ _ _ _ _ _ _ _ _ _ _ _ _ _ _ _ _ _ _ _ _ _ _ _ _ _ _ _ _ _ _ _ _ _ _ _ _ _ _ _ _ _ _ _ _ _ _ _ _ _ _ _ _ _ _ _ _ _ _ _ _ _ _

set_option maxRecDepth 100000 in
set_option maxHeartbeats 1000000 in
theorem applies_any (w : World) (b : Nat) (v : Locs) (s : WatchS) (S : Own) (h : WAt w b v s S) (hw : ∀ x ∈ s.m, Go.Proofs.YthmfifcogokpoaaDoor.W x.2.window) (hs0 : 0 ≤ s.sets.window ∧ s.sets.window ≤ 2147483647) (hlen : s.waits.length ≤ 1000000000) :
    Calls Tryd.prog 34 #[.pointer (some ⟨b, 0, none⟩)] w (RightQ b (appliesS s) S w) := by
  have e9 := h.blk.cell 9
  simp only [WatchS.cells, List.getElem?_cons_succ, List.getElem?_cons_zero] at e9
  have HH := Lib.hid h
  cases hwt : s.waits with
  | nil =>
    rw [hwt] at e9
    simp only [List.length_nil] at e9
    have hap : appliesS s = (false, s) := by
      unfold appliesS
      rw [hwt]
    rw [hap]
    clear h hw hs0 hlen hap
    go_enter Tryd.func34, Tryd.ntmps34
    go_wp2
    go_ret
    exact ⟨rfl, v, S, s, Sim.refl s, HH.out, Upd.refl _ _⟩
  | cons l r =>
    rw [hwt] at e9
    simp only [List.length_cons] at e9
    have t1 : (((r.length + 1 : Nat) : Int) == 0) = false := beq_eq_false_iff_ne.2 (by omega)
    have t2 : ((r.length : Int) + 1 == 0) = false := beq_eq_false_iff_ne.2 (by omega)
    have HR := Lib.hid (ap_region w w b v s S S h (Upd.refl _ _) hw hs0 l r hwt)
    clear h hw hs0 hlen
    go_enter Tryd.func34, Tryd.ntmps34
    refine wp_cut_as apBody (by kernel_rfl) 2 ?_
    show Code.wp _ _ _ _ _
    go_wp2
    show Code.wp _ _ _ _ _
    go_wp2
    show tailW _ _ _ _ _ _
    exact HR.out _ _ _ _ _ _ _ _ _ _ _ _ _ _ _ _ _ _ _ _ _ _ _ _ _ _ _ _ _ _ _ _ _ _ _ _ _ _ _ _ _ _ _ _ _ _ _ _ _ _ _ _ _ _ _ _ _ _ _ _ _ _ _ _ _ _ _ _ _ _ _ _ _ _ _ _ _ _ _ _ _ _ _ _ _ _ _ _
end Go.Proofs.YthmfifcogokpoaaDoor

