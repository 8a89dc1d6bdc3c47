/- What is proved here: contracts of the program's functions and plain lemmas that the claim's last text uses, in parts: package watch: hears, headers; whole; package watch: what stays true of a Watch; In's specification. -/
import Derived.Test.YthmfifcogokpoaaDoorM18
set_option linter.unusedVariables false
set_option linter.unusedSimpArgs false
namespace Go.Proofs.YthmfifcogokpoaaDoor
open Go.RowKit
open Go.ChangeMaps (setBlock)

theorem strsL_push (kbs : List Nat) (m : List (Nat × StrS)) (hk : kbs.length = m.length) (kb : Nat) (x : Nat × StrS) : strsL (kbs ++ [kb]) (m ++ [x]) = strsL kbs m ++ [streamP kb x.2] := by
  simp only [strsL]
  rw [List.zipWith_append hk]
  rfl
/-- A new stream. -/
theorem WAt.newStream {W1 : World} {b : Nat} {v : Locs} {s : WatchS} {S : Own} (h : WAt W1 b v s S) (n : Nat) (win : Int) :
    ∃ S', WAt (setBlock (W1.alloc (.cells #[.int .i64 win, .bool false, .bool false, .bool false, .slice none 0 0] 71)).drew v.mb (.map (ents 0 (mapL v s ++ [((n : Int), W1.heap.size)])).toArray ((mapL v s).length + 1))) b { v with kbs := v.kbs ++ [W1.heap.size] } { s with m := s.m ++ [(n, ⟨win, false, false, false, []⟩)] } S' ∧
      Upd S S' W1 (setBlock (W1.alloc (.cells #[.int .i64 win, .bool false, .bool false, .bool false, .slice none 0 0] 71)).drew v.mb (.map (ents 0 (mapL v s ++ [((n : Int), W1.heap.size)])).toArray ((mapL v s).length + 1))) := by
  have hb0 : Below W1.heap.size W1 (W1.alloc (.cells #[.int .i64 win, .bool false, .bool false, .bool false, .slice none 0 0] 71)).drew := ((Below.refl _ _).alloc (Nat.le_refl _) _).drew
  have hblk : Blk (W1.alloc (.cells #[.int .i64 win, .bool false, .bool false, .bool false, .slice none 0 0] 71)).drew W1.heap.size 71 [.int .i64 win, .bool false, .bool false, .bool false, .slice none 0 0] := (Blk.new W1 _ [.int .i64 win, .bool false, .bool false, .bool false, .slice none 0 0]).drew
  generalize (W1.alloc (.cells #[.int .i64 win, .bool false, .bool false, .bool false, .slice none 0 0] 71)).drew = W2 at *
  have hmap := (h.below hb0).map
  obtain ⟨T, h1, h2, h3⟩ := StarL.focus 4 h.star rfl
  have hT := (starP (strsL v.kbs s.m)).lt h1
  have hu1 : Upd T (or_ T (one_ W1.heap.size)) W1 W2 := Upd.of_below hb0 fun k hk => hk.imp id fun e => by rw [show k = W1.heap.size from e]; exact Nat.le_refl _
  obtain ⟨S3, h4, u4⟩ := h3 W2 (or_ T (one_ W1.heap.size)) (starP (strsL (v.kbs ++ [W1.heap.size]) (s.m ++ [(n, ⟨win, false, false, false, []⟩)]))) (by
    show StarL _ _ _
    rw [strsL_push _ _ h.kbs]
    exact StarL.push (StarL.keep h1 fun k hk => hb0.block k (hT k hk)) (T := one_ W1.heap.size) ⟨none, 0, none_, hblk, Row.nil _ _ _, fun h => h, fun k => ⟨.inl, fun h => h.elim id False.elim⟩⟩ fun k hk he => by have := hT k hk; have he : k = W1.heap.size := he; omega) hu1
  obtain ⟨M, g1, g2, g3⟩ := StarL.focus 3 h4 rfl
  have hml : mapL { v with kbs := v.kbs ++ [W1.heap.size] } { s with m := s.m ++ [(n, ⟨win, false, false, false, []⟩)] } = mapL v s ++ [((n : Int), W1.heap.size)] := by
    simp only [mapL]
    rw [List.zipWith_append h.kbs.symm]
    rfl
  have hlay := hmap.laid (mapL v s ++ [((n : Int), W1.heap.size)])
  rw [List.length_append] at hlay
  have hmb := hmap.lt
  have hu2 : Upd M M W2 (setBlock W2 v.mb (.map (ents 0 (mapL v s ++ [((n : Int), W1.heap.size)])).toArray ((mapL v s).length + 1))) :=
    ⟨rfl, rfl, rfl, by simp [setBlock], fun k hk hn => Go.ChangeMaps.heap_setBlock_other hmap _ fun e => hn (by rw [e]; exact (g1.2 v.mb).2 rfl), fun k hk => .inl hk⟩
  obtain ⟨S4, g4, u5⟩ := g3 _ M (mapP v.mb (mapL v s ++ [((n : Int), W1.heap.size)])) ⟨hlay, g1.2⟩ hu2
  have hu := u4.trans u5
  refine ⟨S4, ⟨by simp [h.kbs], ?_, h.glob.upd hu h.g0, fun h0 => ?_⟩, hu⟩
  · have hw : watL b { v with kbs := v.kbs ++ [W1.heap.size] } { s with m := s.m ++ [(n, ⟨win, false, false, false, []⟩)] } = ((watL b v s).set 4 (starP (strsL (v.kbs ++ [W1.heap.size]) (s.m ++ [(n, ⟨win, false, false, false, []⟩)])))).set 3 (mapP v.mb (mapL v s ++ [((n : Int), W1.heap.size)])) := by
      simp only [watL, hml]
      rfl
    rw [hw]
    exact g4
  · rcases hu.own 0 h0 with h6 | h6
    · exact h.g0 h6
    · have := h.glob.pos; omega

theorem tmod2 (n : Nat) : (n : Int).tmod 2 = ((n % 2 : Nat) : Int) := by
  rw [Int.tmod_eq_emod_of_nonneg (by omega)]
  omega

set_option maxRecDepth 100000 in
set_option maxHeartbeats 1000000 in
theorem hears_even (w W : World) (b : Nat) (v : Locs) (s : WatchS) (S : Own) (f : FrameS) (r : PartS × Fault) (A : Option Addr) (c : Nat) (A1 : Option Addr) (c1 : Nat) (A2 : Option Addr) (c2 : Nat) (fb pb xb : Nat) (S1 S2 : Own) (hM : ReadM w W b v s S f r A c A1 c1 A2 c2 fb pb xb S1 S2) (h1 : f.kind = 1) (ho : f.stream % 2 ≠ 1) (u1 u2 u6 u7 u8 u9 u10 u11 u13 u14 u15 u16 u17 u18 u19 u20 u21 u22 u23 u24 u25 u26 u27 u28 u29 u30 u31 u32 u33 u34 u35 u36 u37 u38 u39 u40 u41 u42 u43 u44 u45 u46 u47 u48 u49 u50 u51 u52 u53 u54 u55 u56 u57 u58 u59 u60 u61 u62 u63 u64 u65 u66 u67 u68 u69 u70 u71 u72 u73 u74 u75 u76 u77 : Value) :
    tailW Tryd.prog 3 hearsBody (HearsP b s S w) ⟨#[.pointer (some ⟨b, 0, none⟩), u1, u2, .pointer (some ⟨fb, 0, none⟩), .pointer (some ⟨pb, 0, none⟩), .pointer (some ⟨xb, 0, none⟩), u6, u7, u8, u9, u10, u11, .int .i64 f.kind, u13, u14, u15, u16, u17, u18, u19, u20, u21, u22, u23, u24, u25, u26, u27, u28, u29, u30, u31, u32, u33, u34, u35, u36, u37, u38, u39, u40, u41, u42, u43, u44, u45, u46, u47, u48, u49, u50, u51, u52, u53, u54, u55, u56, u57, u58, u59, u60, u61, u62, u63, u64, u65, u66, u67, u68, u69, u70, u71, u72, u73, u74, u75, u76, u77], []⟩ W := by
  have f2 := hM.f.cell 2
  simp only [List.getElem?_cons_succ, List.getElem?_cons_zero] at f2
  have HM := Lib.hid hM
  rw [h1]
  have hr : (f.stream : Int).tmod 2 = 0 := by rw [tmod2]; omega
  clear hM h1 ho
  show Code.wp _ _ _ _ _
  go_wp2
  go_quiet (fail)
  go_wp2
  go_end0
  exact ⟨rfl, v, S, HM.out.wat.drewN _, HM.out.upd.drewN _⟩

set_option maxRecDepth 100000 in
set_option maxHeartbeats 1000000 in
theorem hears_low (w W : World) (b : Nat) (v : Locs) (s : WatchS) (S : Own) (f : FrameS) (r : PartS × Fault) (A : Option Addr) (c : Nat) (A1 : Option Addr) (c1 : Nat) (A2 : Option Addr) (c2 : Nat) (fb pb xb : Nat) (S1 S2 : Own) (hM : ReadM w W b v s S f r A c A1 c1 A2 c2 fb pb xb S1 S2) (h1 : f.kind = 1) (ho : f.stream % 2 = 1) (hh : ¬ s.highest < f.stream) (u1 u2 u6 u7 u8 u9 u10 u11 u13 u14 u15 u16 u17 u18 u19 u20 u21 u22 u23 u24 u25 u26 u27 u28 u29 u30 u31 u32 u33 u34 u35 u36 u37 u38 u39 u40 u41 u42 u43 u44 u45 u46 u47 u48 u49 u50 u51 u52 u53 u54 u55 u56 u57 u58 u59 u60 u61 u62 u63 u64 u65 u66 u67 u68 u69 u70 u71 u72 u73 u74 u75 u76 u77 : Value) :
    tailW Tryd.prog 3 hearsBody (HearsP b s S w) ⟨#[.pointer (some ⟨b, 0, none⟩), u1, u2, .pointer (some ⟨fb, 0, none⟩), .pointer (some ⟨pb, 0, none⟩), .pointer (some ⟨xb, 0, none⟩), u6, u7, u8, u9, u10, u11, .int .i64 f.kind, u13, u14, u15, u16, u17, u18, u19, u20, u21, u22, u23, u24, u25, u26, u27, u28, u29, u30, u31, u32, u33, u34, u35, u36, u37, u38, u39, u40, u41, u42, u43, u44, u45, u46, u47, u48, u49, u50, u51, u52, u53, u54, u55, u56, u57, u58, u59, u60, u61, u62, u63, u64, u65, u66, u67, u68, u69, u70, u71, u72, u73, u74, u75, u76, u77], []⟩ W := by
  have f2 := hM.f.cell 2
  have w6 := hM.wat.blk.cell 6
  simp only [WatchS.cells, List.getElem?_cons_succ, List.getElem?_cons_zero] at f2 w6
  have HM := Lib.hid hM
  rw [h1]
  have hr : (f.stream : Int).tmod 2 = 1 := by rw [tmod2]; omega
  have t1 : decide (s.highest < f.stream) = false := decide_eq_false hh
  clear hM h1 ho hh
  show Code.wp _ _ _ _ _
  go_wp2
  go_quiet (fail)
  go_wp2
  go_end0
  exact ⟨rfl, v, S, HM.out.wat.drewN _, HM.out.upd.drewN _⟩

set_option maxRecDepth 100000 in
set_option maxHeartbeats 1000000 in
theorem hears_new (w W : World) (b : Nat) (v : Locs) (s : WatchS) (S : Own) (f : FrameS) (r : PartS × Fault) (A : Option Addr) (c : Nat) (A1 : Option Addr) (c1 : Nat) (A2 : Option Addr) (c2 : Nat) (fb pb xb : Nat) (S1 S2 : Own) (hM : ReadM w W b v s S f r A c A1 c1 A2 c2 fb pb xb S1 S2) (h1 : f.kind = 1) (ho : f.stream % 2 = 1) (hh : s.highest < f.stream) (hkeys : ∀ x ∈ s.m, x.1 ≤ s.highest) (u1 u2 u6 u7 u8 u9 u10 u11 u13 u14 u15 u16 u17 u18 u19 u20 u21 u22 u23 u24 u25 u26 u27 u28 u29 u30 u31 u32 u33 u34 u35 u36 u37 u38 u39 u40 u41 u42 u43 u44 u45 u46 u47 u48 u49 u50 u51 u52 u53 u54 u55 u56 u57 u58 u59 u60 u61 u62 u63 u64 u65 u66 u67 u68 u69 u70 u71 u72 u73 u74 u75 u76 u77 : Value) :
    tailW Tryd.prog 3 hearsBody (HearsP b { s with highest := f.stream, m := s.m ++ [(f.stream, ⟨s.sets.window, false, false, false, []⟩)] } S w) ⟨#[.pointer (some ⟨b, 0, none⟩), u1, u2, .pointer (some ⟨fb, 0, none⟩), .pointer (some ⟨pb, 0, none⟩), .pointer (some ⟨xb, 0, none⟩), u6, u7, u8, u9, u10, u11, .int .i64 f.kind, u13, u14, u15, u16, u17, u18, u19, u20, u21, u22, u23, u24, u25, u26, u27, u28, u29, u30, u31, u32, u33, u34, u35, u36, u37, u38, u39, u40, u41, u42, u43, u44, u45, u46, u47, u48, u49, u50, u51, u52, u53, u54, u55, u56, u57, u58, u59, u60, u61, u62, u63, u64, u65, u66, u67, u68, u69, u70, u71, u72, u73, u74, u75, u76, u77], []⟩ W := by
  have hnone : lookM (mapL v s) f.stream = none := by
    rcases hM.old.look f.stream with ⟨-, h2⟩ | ⟨i, x, kb, -, h2, -⟩
    · exact h2
    · have := hkeys _ (List.mem_of_getElem? h2)
      simp only at this
      omega
  have f2 := hM.f.cell 2
  have w6 := hM.wat.blk.cell 6
  have wf6 := hM.wat.blk.frozen 6
  have w7 := hM.wat.blk.cell 7
  have w13 := hM.wat.blk.cell 13
  have hltb := hM.wat.blk.lt
  have hltf := hM.f.lt
  have hfb : fb ≠ b := hM.f.ne hM.wat.blk (by decide)
  have hbf : b ≠ fb := fun h => hfb h.symm
  simp only [WatchS.cells, List.getElem?_cons_succ, List.getElem?_cons_zero] at f2 w6 w7 w13
  have HM := Lib.hid hM
  have HN := Lib.hid hnone
  rw [h1]
  have hr : (f.stream : Int).tmod 2 = 1 := by rw [tmod2]; omega
  have t1 : decide (s.highest < f.stream) = true := decide_eq_true hh
  clear hM h1 ho hh hnone
  show Code.wp _ _ _ _ _
  go_wp2
  go_quiet (fail)
  go_wp2
  obtain ⟨S3, k1, u1⟩ := (HM.out.wat.drewN nq).set 6 (.int .i64 f.stream) { s with highest := f.stream } rfl rfl rfl
  have f2' : ((W.drewN nq).setCell ⟨b, 6, none⟩ (.int .i64 f.stream)).cell? ⟨fb, 2, none⟩ = some (.int .i64 f.stream) := (World.cell?_of_block (heap_set_other (a := ⟨b, 6, none⟩) _ hfb)).trans f2
  have HU := Lib.hid (HM.out.upd.drewN nq |>.trans u1)
  have hlt1 : fb < ((W.drewN nq).setCell ⟨b, 6, none⟩ (.int .i64 f.stream)).heap.size := by simpa [World.setCell] using hltf
  clear f2 w6 wf6 w7 w13 u1 hltb hltf
  generalize (W.drewN nq).setCell ⟨b, 6, none⟩ (.int .i64 f.stream) = W1 at *
  have w7 := k1.blk.cell 7
  have w13 := k1.blk.cell 13
  have hltb := k1.blk.lt
  simp only [WatchS.cells, List.getElem?_cons_succ, List.getElem?_cons_zero] at w7 w13
  have HKS := Lib.hid (show ∀ W' : World, (∀ k, k < W1.heap.size → W'.heap[k]? = W1.heap[k]?) → W'.cell? ⟨b, 7, none⟩ = some (.map (some v.mb)) ∧ W'.cell? ⟨b, 13, none⟩ = some (.int .i64 s.sets.window) ∧ W'.cell? ⟨fb, 2, none⟩ = some (.int .i64 f.stream) from
    fun W' hk => ⟨(World.cell?_of_block (hk b hltb)).trans w7, (World.cell?_of_block (hk b hltb)).trans w13, (World.cell?_of_block (hk fb hlt1)).trans f2'⟩)
  have HK1 := Lib.hid k1
  clear k1
  refine wp_region_S (fun w' => w'.cell? ⟨b, 7, none⟩ = some (.map (some v.mb)) ∧ w'.cell? ⟨b, 13, none⟩ = some (.int .i64 s.sets.window) ∧ w'.cell? ⟨fb, 2, none⟩ = some (.int .i64 f.stream)) 13 (by kernel_rfl) ((HKS.out _ fun _ _ => rfl)) (fun hHeld => ?_)
  refine AnyS_take (i := 0) (v := ?_) rfl (by kernel_rfl) (by kernel_rfl) (by kernel_rfl) (by kernel_rfl) (by kernel_rfl) (fun _ _ _ h => h) (Or.inl ⟨by rfl, ?_⟩) hHeld ?_
  rotate_left
  · intro w' hSw
    (try dsimp only at hSw)
    go_simp
    try with_reducible rfl
  try simp only [Act.put, List.setIfInBounds_toArray, List.set_cons_zero, List.set_cons_succ]
  refine AnyS_take (i := 1) (v := ?_) rfl (by kernel_rfl) (by kernel_rfl) (by kernel_rfl) (by kernel_rfl) (by kernel_rfl) (fun _ _ _ h => h) (Or.inl ⟨by rfl, ?_⟩) hHeld ?_
  rotate_left
  · intro w' hSw
    (try dsimp only at hSw)
    go_simp
    try with_reducible rfl
  try simp only [Act.put, List.setIfInBounds_toArray, List.set_cons_zero, List.set_cons_succ]
  refine AnyS_take (i := 2) (v := ?_) rfl (by kernel_rfl) (by kernel_rfl) (by kernel_rfl) (by kernel_rfl) (by kernel_rfl) (fun _ _ _ h => h) (Or.inl ⟨by rfl, ?_⟩) hHeld ?_
  rotate_left
  · intro w' hSw
    (try dsimp only at hSw)
    go_simp
    try with_reducible rfl
  try simp only [Act.put, List.setIfInBounds_toArray, List.set_cons_zero, List.set_cons_succ]
  refine AnyS_take (i := 3) (v := ?_) rfl (by kernel_rfl) (by kernel_rfl) (by kernel_rfl) (by kernel_rfl) (by kernel_rfl) (fun _ _ _ h => h) (Or.inl ⟨by rfl, ?_⟩) hHeld ?_
  rotate_left
  · intro w' hSw
    (try dsimp only at hSw)
    go_simp
    try with_reducible rfl
  try simp only [Act.put, List.setIfInBounds_toArray, List.set_cons_zero, List.set_cons_succ]
  refine AnyS_take (i := 4) (v := ?_) rfl (by kernel_rfl) (by kernel_rfl) (by kernel_rfl) (by kernel_rfl) (by kernel_rfl) (fun _ _ _ h => h) (Or.inl ⟨by rfl, ?_⟩) hHeld ?_
  rotate_left
  · intro w' hSw
    (try dsimp only at hSw)
    go_simp
    try with_reducible rfl
  try simp only [Act.put, List.setIfInBounds_toArray, List.set_cons_zero, List.set_cons_succ]
  refine AnyS_take (i := 5) (v := ?_) rfl (by kernel_rfl) (by kernel_rfl) (by kernel_rfl) (by kernel_rfl) (by kernel_rfl) (fun _ _ _ h => h) (Or.inl ⟨by rfl, ?_⟩) hHeld ?_
  rotate_left
  · intro w' hSw
    (try dsimp only at hSw)
    go_simp
    try with_reducible rfl
  try simp only [Act.put, List.setIfInBounds_toArray, List.set_cons_zero, List.set_cons_succ]
  refine AnyS_take (i := 6) (v := ?_) rfl (by kernel_rfl) (by kernel_rfl) (by kernel_rfl) (by kernel_rfl) (by kernel_rfl) (fun _ _ _ h => h) (Or.inl ⟨by rfl, ?_⟩) hHeld ?_
  rotate_left
  · intro w' hSw
    (try dsimp only at hSw)
    go_simp
    try with_reducible rfl
  try simp only [Act.put, List.setIfInBounds_toArray, List.set_cons_zero, List.set_cons_succ]
  refine AnyS_take (i := 7) (v := ?_) rfl (by kernel_rfl) (by kernel_rfl) (by kernel_rfl) (by kernel_rfl) (by kernel_rfl) (fun _ _ _ h => h) (Or.inl ⟨by rfl, ?_⟩) hHeld ?_
  rotate_left
  · intro w' hSw
    (try dsimp only at hSw)
    go_simp
    try with_reducible rfl
  try simp only [Act.put, List.setIfInBounds_toArray, List.set_cons_zero, List.set_cons_succ]
  refine AnyS_take (i := 8) (v := ?_) rfl (by kernel_rfl) (by kernel_rfl) (by kernel_rfl) (by kernel_rfl) (by kernel_rfl) (fun _ _ _ h => h) (Or.inl ⟨by rfl, ?_⟩) hHeld ?_
  rotate_left
  · intro w' hSw
    (try dsimp only at hSw)
    go_simp
    try with_reducible rfl
  try simp only [Act.put, List.setIfInBounds_toArray, List.set_cons_zero, List.set_cons_succ]
  refine AnyS_take (i := 9) (v := ?_) rfl (by kernel_rfl) (by kernel_rfl) (by kernel_rfl) (by kernel_rfl) (by kernel_rfl) (fun _ _ _ h => h) (Or.inl ⟨by rfl, ?_⟩) hHeld ?_
  rotate_left
  · intro w' hSw
    (try dsimp only at hSw)
    go_simp
    try with_reducible rfl
  try simp only [Act.put, List.setIfInBounds_toArray, List.set_cons_zero, List.set_cons_succ]
  refine AnyS_take (i := 10) (v := ?_) rfl (by kernel_rfl) (by kernel_rfl) (by kernel_rfl) (by kernel_rfl) (by kernel_rfl) (fun _ _ _ h => h) (Or.inl ⟨by rfl, ?_⟩) hHeld ?_
  rotate_left
  · intro w' hSw
    (try dsimp only at hSw)
    go_simp
    try with_reducible rfl
  try simp only [Act.put, List.setIfInBounds_toArray, List.set_cons_zero, List.set_cons_succ]
  refine AnyS_take (i := 11) (v := ?_) rfl (by kernel_rfl) (by kernel_rfl) (by kernel_rfl) (by kernel_rfl) (by kernel_rfl) (fun _ _ _ h => h) (Or.inl ⟨by rfl, ?_⟩) hHeld ?_
  rotate_left
  · intro w' hSw
    (try dsimp only at hSw)
    go_simp
    try with_reducible rfl
  try simp only [Act.put, List.setIfInBounds_toArray, List.set_cons_zero, List.set_cons_succ]
  refine AnyS_step (i := 12) rfl (by kernel_rfl) rfl (fun K hK => ?_)
  go_simp
  refine hK.out _ _ ((HKS.out _ fun k hk => Below.heap_alloc W1 _ k hk)) (fun hHeld => ?_)
  clear hK K
  try simp only [Act.put, List.setIfInBounds_toArray, List.set_cons_zero, List.set_cons_succ]
  refine AnyS_stepT (i := 13) rfl (by kernel_rfl) (by kernel_rfl) rfl (fun K hK => ?_)
  go_simp
  rw [run_lay _ v.mb (mapL v s) (HK1.out.alloc _).drew.map f.stream _ HN.out]
  go_simp
  refine hK.out _ _ ?_
  clear hK K
  refine AnyS_done (by kernel_rfl) (NoPanic.normal ?_) _
  try simp only [Act.put, List.setIfInBounds_toArray, List.set_cons_zero, List.set_cons_succ]
  go_wp2
  go_end0
  obtain ⟨S4, k2, u2⟩ := HK1.out.newStream f.stream s.sets.window
  exact ⟨rfl, _, S4, k2, HU.out.trans u2⟩

/-- Behind part.Read, with the results laid into blocks. -/
theorem ReadM.make {w w1 : World} {b : Nat} {v : Locs} {s : WatchS} {S : Own} {f : FrameS} {r : PartS × Fault} {A : Option Addr} {c : Nat} {A1 : Option Addr} {c1 : Nat} {A2 : Option Addr} {c2 : Nat} {S1 S2 : Own} (h : WAt w b v s S)
    (h1 : Row 5 1 A1 r.1.data.length c1 (bys r.1.data) S1 w1) (h2 : Row 66 2 A2 r.1.sets.length c2 (setCells r.1.sets) S2 w1) (h12 : ∀ k, S1 k → ¬ S2 k)
    (hu : Upd none_ (fun k => S1 k ∨ S2 k) (w.alloc (.cells #[.int .i64 f.kind, .int .i64 f.flags, .int .i64 f.stream, .slice A f.body.length c] 29)) w1) :
    ReadM w ((w1.alloc (.cells (r.1.cells A1 c1 A2 c2).toArray 82)).alloc (.cells #[.bool r.2.bad, .bool r.2.conn, .int .i64 r.2.code] 84)) b v s S f r A c A1 c1 A2 c2 w.heap.size w1.heap.size (w1.heap.size + 1) S1 S2 := by
  have hb := hu.below (fun _ h => h.elim) (Nat.le_refl _)
  have hsz := hb.size
  simp at hsz
  have l1 := h1.lt
  have l2 := h2.lt
  have hown : ∀ k, S1 k ∨ S2 k → w.heap.size + 1 ≤ k := fun k hk => by
    rcases hu.own k hk with h | h
    · exact h.elim
    · simpa using h
  refine ⟨h, ?_, ?_, (Blk.new w1 82 (r.1.cells A1 c1 A2 c2)).alloc _, Blk.push (cs := [.bool r.2.bad, .bool r.2.conn, .int .i64 r.2.code]) (by simp), h1.loc fun k hk => ?_, h2.loc fun k hk => ?_, fun k hk => ?_, ?_, ?_, h12⟩
  · have hw1 : Below w.heap.size w w1 := bcall hb ((Below.refl _ _).alloc (Nat.le_refl _) _)
    exact (hw1.alloc hw1.size _).alloc (by simp; omega) _
  · exact (((Blk.new w 29 [.int .i64 f.kind, .int .i64 f.flags, .int .i64 f.stream, .slice A f.body.length c]).below hb (by simp)).alloc _).alloc _
  · exact (Below.heap_alloc _ _ k (by have := l1 k hk; simp; omega)).trans (Below.heap_alloc w1 _ k (l1 k hk))
  · exact (Below.heap_alloc _ _ k (by have := l2 k hk; simp; omega)).trans (Below.heap_alloc w1 _ k (l2 k hk))
  · rcases hk with rfl | rfl | rfl | hk | hk
    · exact Nat.le_refl _
    · omega
    · omega
    · have := hown k (.inl hk); omega
    · have := hown k (.inr hk); omega
  · exact ⟨fun h => by have := hown _ (.inl h); omega, fun h => by have := l1 _ h; omega, fun h => by have := l1 _ h; omega⟩
  · exact ⟨fun h => by have := hown _ (.inr h); omega, fun h => by have := l2 _ h; omega, fun h => by have := l2 _ h; omega⟩

set_option maxRecDepth 100000 in
set_option maxHeartbeats 1000000 in
theorem hears_any (w : World) (b : Nat) (v : Locs) (s : WatchS) (S : Own) (h : WAt w b v s S) (hwin : Go.Proofs.YthmfifcogokpoaaDoor.W s.window) (hm : ∀ x ∈ s.m, Go.Proofs.YthmfifcogokpoaaDoor.W x.2.window) (hkeys : ∀ x ∈ s.m, x.1 ≤ s.highest) (hlen : s.waits.length ≤ 1000000000) (f : FrameS) (hf : f.Ok) (A : Option Addr) (c : Nat) (hrd : Rd w 1 A f.body.length c (bys f.body)) :
    Calls Tryd.prog 26 #[.pointer (some ⟨b, 0, none⟩), f.v A c] w (HearsQ b (hearsS s f) S w) := by
  have HREAD := Lib.hid (partRead_any f A c (w.alloc (.cells #[.int .i64 f.kind, .int .i64 f.flags, .int .i64 f.stream, .slice A f.body.length c] 29)) hf (hrd.alloc (by omega) _))
  have HW := Lib.hid h
  have HT := Lib.hid (show ∀ (W : World) A1 c1 A2 c2 fb pb xb S1 S2, ReadM w W b v s S f (readS f) A c A1 c1 A2 c2 fb pb xb S1 S2 → ∀ (u1 u2 u6 u7 u8 u9 u10 u11 u13 u14 u15 u16 u17 u18 u19 u20 u21 u22 u23 u24 u25 u26 u27 u28 u29 u30 u31 u32 u33 u34 u35 u36 u37 u38 u39 u40 u41 u42 u43 u44 u45 u46 u47 u48 u49 u50 u51 u52 u53 u54 u55 u56 u57 u58 u59 u60 u61 u62 u63 u64 u65 u66 u67 u68 u69 u70 u71 u72 u73 u74 u75 u76 u77 : Value), tailW Tryd.prog 3 hearsBody (HearsP b (hearsS s f) S w) ⟨#[.pointer (some ⟨b, 0, none⟩), u1, u2, .pointer (some ⟨fb, 0, none⟩), .pointer (some ⟨pb, 0, none⟩), .pointer (some ⟨xb, 0, none⟩), u6, u7, u8, u9, u10, u11, .int .i64 f.kind, u13, u14, u15, u16, u17, u18, u19, u20, u21, u22, u23, u24, u25, u26, u27, u28, u29, u30, u31, u32, u33, u34, u35, u36, u37, u38, u39, u40, u41, u42, u43, u44, u45, u46, u47, u48, u49, u50, u51, u52, u53, u54, u55, u56, u57, u58, u59, u60, u61, u62, u63, u64, u65, u66, u67, u68, u69, u70, u71, u72, u73, u74, u75, u76, u77], []⟩ W from by
    intro W A1 c1 A2 c2 fb pb xb S1 S2 hM
    intro u1 u2 u6 u7 u8 u9 u10 u11 u13 u14 u15 u16 u17 u18 u19 u20 u21 u22 u23 u24 u25 u26 u27 u28 u29 u30 u31 u32 u33 u34 u35 u36 u37 u38 u39 u40 u41 u42 u43 u44 u45 u46 u47 u48 u49 u50 u51 u52 u53 u54 u55 u56 u57 u58 u59 u60 u61 u62 u63 u64 u65 u66 u67 u68 u69 u70 u71 u72 u73 u74 u75 u76 u77
    unfold hearsS
    by_cases h1 : f.kind = 1
    · rw [if_pos h1]
      by_cases ho : f.stream % 2 = 1
      · by_cases hh : s.highest < f.stream
        · rw [if_pos ⟨ho, hh⟩]
          exact hears_new w W b v s S f _ A c A1 c1 A2 c2 fb pb xb S1 S2 hM h1 ho hh hkeys _ _ _ _ _ _ _ _ _ _ _ _ _ _ _ _ _ _ _ _ _ _ _ _ _ _ _ _ _ _ _ _ _ _ _ _ _ _ _ _ _ _ _ _ _ _ _ _ _ _ _ _ _ _ _ _ _ _ _ _ _ _ _ _ _ _ _ _ _ _ _ _ _
        · rw [if_neg (fun h => hh h.2)]
          exact hears_low w W b v s S f _ A c A1 c1 A2 c2 fb pb xb S1 S2 hM h1 ho hh _ _ _ _ _ _ _ _ _ _ _ _ _ _ _ _ _ _ _ _ _ _ _ _ _ _ _ _ _ _ _ _ _ _ _ _ _ _ _ _ _ _ _ _ _ _ _ _ _ _ _ _ _ _ _ _ _ _ _ _ _ _ _ _ _ _ _ _ _ _ _ _ _
      · rw [if_neg (fun h => ho h.1)]
        exact hears_even w W b v s S f _ A c A1 c1 A2 c2 fb pb xb S1 S2 hM h1 ho _ _ _ _ _ _ _ _ _ _ _ _ _ _ _ _ _ _ _ _ _ _ _ _ _ _ _ _ _ _ _ _ _ _ _ _ _ _ _ _ _ _ _ _ _ _ _ _ _ _ _ _ _ _ _ _ _ _ _ _ _ _ _ _ _ _ _ _ _ _ _ _ _
    · rw [if_neg h1]
      by_cases h4 : f.kind = 4
      · rw [if_pos h4]
        exact hears_settings w W b v s S f _ A c A1 c1 A2 c2 fb pb xb S1 S2 hM h4 hlen _ _ _ _ _ _ _ _ _ _ _ _ _ _ _ _ _ _ _ _ _ _ _ _ _ _ _ _ _ _ _ _ _ _ _ _ _ _ _ _ _ _ _ _ _ _ _ _ _ _ _ _ _ _ _ _ _ _ _ _ _ _ _ _ _ _ _ _ _ _ _ _ _
      · rw [if_neg h4]
        by_cases h8 : f.kind = 8
        · rw [if_pos h8]
          exact hears_update w W b v s S f _ A c A1 c1 A2 c2 fb pb xb S1 S2 hM h8 hwin hm _ _ _ _ _ _ _ _ _ _ _ _ _ _ _ _ _ _ _ _ _ _ _ _ _ _ _ _ _ _ _ _ _ _ _ _ _ _ _ _ _ _ _ _ _ _ _ _ _ _ _ _ _ _ _ _ _ _ _ _ _ _ _ _ _ _ _ _ _ _ _ _ _
        · rw [if_neg h8]
          exact hears_other w W b v s S f _ A c A1 c1 A2 c2 fb pb xb S1 S2 hM h1 h4 h8 _ _ _ _ _ _ _ _ _ _ _ _ _ _ _ _ _ _ _ _ _ _ _ _ _ _ _ _ _ _ _ _ _ _ _ _ _ _ _ _ _ _ _ _ _ _ _ _ _ _ _ _ _ _ _ _ _ _ _ _ _ _ _ _ _ _ _ _ _ _ _ _ _)
  clear h hwin hm hkeys hlen hf hrd
  generalize hearsS s f = s2 at *
  have HMK := Lib.hid (fun (w1 : World) (A1 : Option Addr) (c1 : Nat) (A2 : Option Addr) (c2 : Nat) (S1 S2 : Own) h1 h2 h12 hu => ReadM.make (w := w) (w1 := w1) (A1 := A1) (c1 := c1) (A2 := A2) (c2 := c2) (S1 := S1) (S2 := S2) (f := f) (r := readS f) (A := A) (c := c) HW.out h1 h2 h12 hu)
  unfold FrameS.v
  generalize readS f = r at *
  obtain ⟨⟨pd, pp, pc, pl, ps, pt, pf, pa, pw⟩, ⟨xb1, xb2, xb3⟩⟩ := r
  obtain ⟨fk, ff, fs, fbd⟩ := f
  simp only [PartS.cells] at *
  go_enter Tryd.func26, Tryd.ntmps26
  refine wp_cut_as hearsBody (by kernel_rfl) 3 ?_
  show Code.wp _ _ _ _ _
  go_wp2
  show Code.wp _ _ _ _ _
  go_wp2_with (go_at_call 32; refine HREAD.out.mono ?_; rintro e w1 ⟨A1, c1, A2, c2, S1, S2, rfl, hr1, hr2, hr12, hu⟩; have HM := Lib.hid (HMK.out w1 A1 c1 A2 c2 S1 S2 hr1 hr2 hr12 hu); obtain ⟨hcz, hfz⟩ := bcell (hu.below (fun _ h => h.elim) (Nat.le_refl _)); have hzz := hu.size; clear hr1 hr2 hr12 hu; unfold PartS.v Fault.v)
  show Code.wp _ _ _ _ _
  have hf0 := HM.out.f.cell 0
  simp only [List.getElem?_cons_zero] at hf0
  clear hcz hfz
  go_wp2
  show tailW _ _ _ _ _ _
  exact HT.out _ A1 c1 A2 c2 _ _ _ S1 S2 HM.out _ _ _ _ _ _ _ _ _ _ _ _ _ _ _ _ _ _ _ _ _ _ _ _ _ _ _ _ _ _ _ _ _ _ _ _ _ _ _ _ _ _ _ _ _ _ _ _ _ _ _ _ _ _ _ _ _ _ _ _ _ _ _ _ _ _ _ _ _ _ _ _ _
end Go.Proofs.YthmfifcogokpoaaDoor
namespace Go.Proofs.YthmfifcogokpoaaDoor
open Go.RowKit

/-- What holds of a Watch that was given at most B bytes. -/
structure WOk (B : Nat) (s : WatchS) : Prop where
  head : s.head ≤ 24
  inB : s.inB.length + s.waits.length ≤ B
  outB : s.outB.length + s.frames ≤ B
  data : ∀ x ∈ s.m, x.2.data.length + s.outB.length ≤ B
  keys : ∀ x ∈ s.m, x.1 ≤ s.highest
  wins : ∀ x ∈ s.m, W x.2.window
  win : W s.window
  sets : 0 ≤ s.sets.window ∧ s.sets.window ≤ 2147483647
theorem newS_ok : WOk 0 newS := ⟨by simp [newS], by simp [newS], by simp [newS], by simp [newS], by simp [newS], by simp [newS], by simp [newS, W], by simp [newS, firstS]⟩
theorem WOk.more {B B' : Nat} {s : WatchS} (h : WOk B s) (hB : B ≤ B') : WOk B' s := ⟨h.head, by have := h.inB; omega, by have := h.outB; omega, fun x hx => by have := h.data x hx; omega, h.keys, h.wins, h.win, h.sets⟩
theorem idxS_at {s : WatchS} {n i : Nat} (h : idxS s n = some i) : ∃ x, s.m[i]? = some (n, x) := by
  unfold idxS at h
  obtain ⟨hlt, h1, -⟩ := List.findIdx?_eq_some_iff_getElem.1 h
  refine ⟨s.m[i].2, ?_⟩
  have h2 : s.m[i].1 = n := by simpa using h1
  rw [List.getElem?_eq_getElem hlt, ← h2]
theorem grantedS_ok {B : Nat} {s : WatchS} (h : WOk B s) (n : Nat) (step : Int) : WOk B (grantedS s n step) := by
  unfold grantedS
  split
  · exact ⟨h.head, h.inB, h.outB, h.data, h.keys, h.wins, (grantS_W _ _ _ _ (cutW_W _) (cutW_W _)).2, h.sets⟩
  · split
    · exact h
    · rename_i i hi
      obtain ⟨x, hx⟩ := idxS_at hi
      have hmem : ∀ y ∈ s.m.set i (n, { strOf s i with window := (grantS (cutW (strOf s i).window) (cutW 0) step 0).1 }), y ∈ s.m ∨ y = (n, { strOf s i with window := (grantS (cutW (strOf s i).window) (cutW 0) step 0).1 }) := fun y hy => List.mem_or_eq_of_mem_set hy
      have hx2 := List.mem_of_getElem? hx
      refine ⟨h.head, h.inB, h.outB, fun y hy => ?_, fun y hy => ?_, fun y hy => ?_, h.win, h.sets⟩
      · rcases hmem y hy with h1 | rfl
        · exact h.data y h1
        · simp only [strOf_at hx]
          exact h.data _ hx2
      · rcases hmem y hy with h1 | rfl
        · exact h.keys y h1
        · have h3 := h.keys _ hx2
          exact h3
      · rcases hmem y hy with h1 | rfl
        · exact h.wins y h1
        · exact (grantS_W _ _ _ _ (cutW_W _) (cutW_W _)).1
theorem hearsS_ok {B : Nat} {s : WatchS} (h : WOk B s) (h1 : s.inB.length + s.waits.length + 1 ≤ B) (f : FrameS) : WOk B (hearsS s f) := by
  unfold hearsS
  split
  · split
    · rename_i hh
      refine ⟨h.head, h.inB, h.outB, fun x hx => ?_, fun x hx => ?_, fun x hx => ?_, h.win, h.sets⟩
      · simp only [List.mem_append, List.mem_singleton] at hx
        rcases hx with hx | rfl
        · exact h.data x hx
        · have := h.outB; simp; omega
      · simp only [List.mem_append, List.mem_singleton] at hx
        rcases hx with hx | rfl
        · have := h.keys x hx; simp only; omega
        · exact Nat.le_refl _
      · simp only [List.mem_append, List.mem_singleton] at hx
        rcases hx with hx | rfl
        · exact h.wins x hx
        · have := h.sets; simp only [W]; omega
    · exact h
  · split
    · split
      · exact ⟨h.head, by simp only [List.length_append, List.length_singleton]; omega, h.outB, h.data, h.keys, h.wins, h.win, h.sets⟩
      · exact h
    · split
      · split
        · exact grantedS_ok h _ _
        · exact h
      · exact h

theorem nextS_cases (l : List UInt8) (room : Int) (hr : room ≤ 1000000000000) :
    ((nextS room l).2.1 = 4 ∧ (nextS room l).2.2 = l) ∨ ((nextS room l).2.1 = 3 ∧ (nextS room l).2.2 = l) ∨
    ((nextS room l).2.1 = 0 ∧ (nextS room l).2.2.length + 9 ≤ l.length ∧ (nextS room l).1.Ok ∧ ((nextS room l).1.body.length : Int) ≤ room ∧ (nextS room l).2.2.length + (nextS room l).1.body.length + 9 = l.length) := by
  unfold nextS
  split
  · exact .inl ⟨rfl, rfl⟩
  split
  · exact .inr (.inl ⟨rfl, rfl⟩)
  split
  · exact .inl ⟨rfl, rfl⟩
  · rename_i h1 h2 h3
    have hb : ((l.drop 9).take (num3 l)).length = num3 l := by rw [List.length_take, List.length_drop]; omega
    have hd : (l.drop (9 + num3 l)).length = l.length - (9 + num3 l) := by rw [List.length_drop]
    refine .inr (.inr ⟨rfl, by simp only; omega, ⟨?_, ?_, ?_, ?_⟩, ?_, ?_⟩)
    · have := (l.getD 3 0).toNat_lt; simp only; omega
    · have := (l.getD 4 0).toNat_lt; simp only; omega
    · simp only
      have h5 : num4 (l.drop 5) &&& 2147483647 ≤ 2147483647 := Nat.and_le_right
      omega
    · simp only; omega
    · simp only; omega
    · simp only; omega

/-- In's loop. -/
def inLoop : Nat → WatchS → WatchS
  | 0, s => s
  | n + 1, s =>
    if s.deaf || s.blind then s
    else if (nextS 16384 s.inB).2.1 = 4 then s
    else if (nextS 16384 s.inB).2.1 = 0 then inLoop n (hearsS { s with inB := (nextS 16384 s.inB).2.2, deaf := false } (nextS 16384 s.inB).1)
    else { s with deaf := true }
def takeS (s : WatchS) (l : List UInt8) : WatchS := { s with head := s.head + min (24 - s.head) l.length, inB := s.inB ++ l.drop (min (24 - s.head) l.length) }
def inS (s : WatchS) (l : List UInt8) : WatchS := inLoop ((takeS s l).inB.length + 1) (takeS s l)
theorem takeS_ok {B : Nat} {s : WatchS} (h : WOk B s) (l : List UInt8) : WOk (B + l.length) (takeS s l) := by
  have h1 := h.more (B' := B + l.length) (by omega)
  refine ⟨?_, ?_, h1.outB, h1.data, h1.keys, h1.wins, h1.win, h1.sets⟩
  · have := h.head; simp only [takeS]; omega
  · have := h.inB; simp only [takeS, List.length_append, List.length_drop]; omega
theorem hearsS_inB (s : WatchS) (f : FrameS) : (hearsS s f).inB = s.inB := by
  unfold hearsS grantedS
  repeat' split
  all_goals rfl
theorem hearsS_deaf (s : WatchS) (f : FrameS) : (hearsS s f).deaf = s.deaf := by
  unfold hearsS grantedS
  repeat' split
  all_goals rfl
theorem inLoop_ok {B : Nat} : ∀ (n : Nat) {s : WatchS}, WOk B s → WOk B (inLoop n s)
  | 0, _, h => h
  | n + 1, s, h => by
    unfold inLoop
    split
    · exact h
    split
    · exact h
    split
    · rename_i h0
      refine inLoop_ok n (hearsS_ok ?_ ?_ _)
      · rcases nextS_cases s.inB 16384 (by omega) with ⟨h1, -⟩ | ⟨h1, -⟩ | ⟨h1, h2, -⟩
        · rw [h1] at h0; cases h0
        · rw [h1] at h0; cases h0
        · exact ⟨h.head, by have := h.inB; simp only; omega, h.outB, h.data, h.keys, h.wins, h.win, h.sets⟩
      · rcases nextS_cases s.inB 16384 (by omega) with ⟨h1, -⟩ | ⟨h1, -⟩ | ⟨h1, h2, -⟩
        · rw [h1] at h0; cases h0
        · rw [h1] at h0; cases h0
        · have := h.inB; simp only; omega
    · exact ⟨h.head, h.inB, h.outB, h.data, h.keys, h.wins, h.win, h.sets⟩
theorem inS_ok {B : Nat} {s : WatchS} (h : WOk B s) (l : List UInt8) : WOk (B + l.length) (inS s l) := inLoop_ok _ (takeS_ok h l)
end Go.Proofs.YthmfifcogokpoaaDoor
