/- What is proved here: contracts of the program's functions and plain lemmas that the claim's last text uses, in parts: package watch: Sent; package watch: sends. -/
import Derived.Test.YthmfifcogokpoaaDoorM22
set_option linter.unusedVariables false
set_option linter.unusedSimpArgs false
namespace Go.Proofs.YthmfifcogokpoaaDoor
open Go.RowKit
open Go.ChangeMaps (setBlock)

/-- What was sent on a stream. -/
def sentS (s : WatchS) (n : Nat) : List UInt8 := match idxS s n with | none => [] | some i => (strOf s i).data

set_option maxRecDepth 100000 in
theorem sent_any (w : World) (b : Nat) (v : Locs) (s : WatchS) (S : Own) (h : WAt w b v s S) (n : Nat) (hb : ∀ x ∈ s.m, x.2.data.length ≤ 1000000000) :
    Calls Tryd.prog 19 #[.pointer (some ⟨b, 0, none⟩), .int .i64 n] w (fun e w' => ∃ A c S', e = .returned (.slice A (sentS s n).length c) ∧ Row 5 1 A (sentS s n).length c (bys (sentS s n)) S' w' ∧ Upd none_ S' w w') := by
  have e7 := h.blk.cell 7
  simp only [WatchS.cells, List.getElem?_cons_succ, List.getElem?_cons_zero] at e7
  have hl := run_look w v.mb (mapL v s) h.map n
  unfold sentS
  rcases h.look n with ⟨h1, h2⟩ | ⟨i, x, kb, h1, h2, h3, h4⟩
  · rw [h2] at hl
    rw [h1]
    simp only [ptrM] at hl
    clear h h1 h2 hb
    go_enter Tryd.func19, Tryd.ntmps19
    go_wp2
    go_ret
    exact ⟨none, 0, none_, rfl, Row.nil _ _ _, Upd.refl _ _⟩
  · rw [h4] at hl
    rw [h1]
    simp only [ptrM] at hl
    obtain ⟨kb', S1, g1, ⟨A, c, S2, f1, f2, -, -⟩, -, -⟩ := h.stream h2
    rw [h3] at g1
    obtain rfl : kb = kb' := by simpa using g1
    have c4 := f1.cell 4
    simp only [List.getElem?_cons_succ, List.getElem?_cons_zero] at c4
    have hlen := hb _ (List.mem_of_getElem? h2)
    simp only [strOf_at h2] at hlen ⊢
    have HC := Lib.hid (bytesClone_any A x.data.length c (bys x.data) w f2.rd (by intro u hu; simp only [bys, List.mem_map] at hu; obtain ⟨y, -, rfl⟩ := hu; rfl) (by simp only [big]; omega))
    clear h h1 h2 h3 h4 hb f1 f2 g1 hlen
    go_enter Tryd.func19, Tryd.ntmps19
    go_wp2_with (go_at_call 29; refine HC.out.mono ?_; rintro e w1 ⟨A', c', S', rfl, hr, hu⟩; have HR := Lib.hid hr; have HU := Lib.hid hu; clear hr hu)
    go_ret
    exact ⟨A', c', S', rfl, HR.out, HU.out⟩
end Go.Proofs.YthmfifcogokpoaaDoor
namespace Go.Proofs.YthmfifcogokpoaaDoor
open Go.RowKit
open Go.ChangeMaps (setBlock)

/-- Data went out. -/
def sentTo (s : WatchS) (i : Nat) (n : Nat) (a c : Int) (p : PartS) : WatchS :=
  { s with window := c, m := s.m.set i (n, { strOf s i with window := a, data := (strOf s i).data ++ p.data, ended := p.fin }) }
def sendsS (s : WatchS) (f : FrameS) (p : PartS) : Bool × WatchS :=
  match liveS s f.stream with
  | none => (false, s)
  | some i =>
    if (strOf s i).begun = false ∨ s.sets.frame < f.body.length then (false, s)
    else if f.body.length = 0 then (true, sentTo s i f.stream (cutW (strOf s i).window) (cutW s.window) p)
    else if (spendS (cutW (strOf s i).window) (cutW s.window) f.body.length).2.2 ≠ 0 then (false, s)
    else (true, sentTo s i f.stream (spendS (cutW (strOf s i).window) (cutW s.window) f.body.length).1 (spendS (cutW (strOf s i).window) (cutW s.window) f.body.length).2.1 p)

noncomputable def seBody : Code := Tryd.f36.body.getD .skip
abbrev SeP (b : Nat) (r : Bool × WatchS) (S : Own) (w : World) : Exit → Act → World → Prop := bodyPost Tryd.prog Tryd.f36 (RightQ b r S w)

set_option maxRecDepth 100000 in
set_option maxHeartbeats 1000000 in
theorem se_fin (w W : World) (b : Nat) (v : Locs) (s : WatchS) (S S0 : Own) (h : WAt W b v s S0) (hu : Upd S S0 w W) (n i kb pb : Nat) (x : StrS) (hx : s.m[i]? = some (n, x)) (hkb : v.kbs[i]? = some kb) (a c : Int) (ha : Go.Proofs.YthmfifcogokpoaaDoor.W a) (hc : Go.Proofs.YthmfifcogokpoaaDoor.W c) (p : PartS) (A1 : Option Addr) (c1 : Nat) (A2 : Option Addr) (c2 : Nat)
    (hp : Blk W pb 82 (p.cells A1 c1 A2 c2)) (hpS : ¬ S0 pb) (hrd : Rd W 1 A1 p.data.length c1 (bys p.data)) (hA1 : ∀ k, blockOf A1 = some k → k < W.heap.size ∧ ¬ S0 k) (hbig : x.data.length + p.data.length ≤ 1000000000) (u1 u2 u3 u4 u6 u8 u10 u11 u12 u13 u14 u15 u16 u17 u18 u19 u20 u21 u22 u23 u24 u25 u26 u27 u28 u29 u30 u31 u32 u33 u34 u35 u36 u37 u38 u39 u40 u41 u42 u43 u44 u45 u46 u47 u48 u49 u50 u51 u52 u53 u54 u55 u56 u57 u58 u59 u60 u61 u62 u63 u64 u65 u66 u67 u68 u69 u70 u71 u72 u73 u74 u75 u76 u77 u78 u79 u80 u81 : Value) :
    tailW Tryd.prog 5 seBody (SeP b (true, { s with window := c, m := s.m.set i (n, { x with window := a, data := x.data ++ p.data, ended := p.fin }) }) S w) ⟨#[.pointer (some ⟨b, 0, none⟩), u1, u2, u3, u4, .pointer (some ⟨pb, 0, none⟩), u6, .pointer (some ⟨kb, 0, none⟩), u8, C a c, u10, u11, u12, u13, u14, u15, u16, u17, u18, u19, u20, u21, u22, u23, u24, u25, u26, u27, u28, u29, u30, u31, u32, u33, u34, u35, u36, u37, u38, u39, u40, u41, u42, u43, u44, u45, u46, u47, u48, u49, u50, u51, u52, u53, u54, u55, u56, u57, u58, u59, u60, u61, u62, u63, u64, u65, u66, u67, u68, u69, u70, u71, u72, u73, u74, u75, u76, u77, u78, u79, u80, u81], []⟩ W := by
  have b8 := h.blk.cell 8
  have bf8 := h.blk.frozen 8
  simp only [WatchS.cells, List.getElem?_cons_succ, List.getElem?_cons_zero] at b8
  obtain ⟨kb', S1, y1, ⟨A, cc, S2, k1, k2, k3, k4⟩, y3, y4⟩ := h.stream hx
  obtain rfl : kb = kb' := by rw [hkb] at y1; simpa using y1
  have d0 := k1.cell 0
  have df0 := k1.frozen 0
  simp only [List.getElem?_cons_zero] at d0
  have hkbb : kb ≠ b := k1.ne h.blk (by decide)
  have hbkb : b ≠ kb := fun e => hkbb e.symm
  have hSkb : S0 kb := y3 kb ((k4 kb).2 (.inl rfl))
  have hpk : pb ≠ kb := fun e => hpS (e ▸ hSkb)
  have hpb : pb ≠ b := fun e => hpS (e ▸ h.base)
  obtain ⟨S3, j1, u1⟩ := y4 _ S1 { x with window := a } ⟨A, cc, S2, k1.set 0 (.int .i64 a), k2.loc fun k hk => heap_set_other (a := ⟨kb, 0, none⟩) _ (fun e => k3 (by rw [← show k = kb from e]; exact hk)), k3, k4⟩ ((Upd.refl S1 _).setCell (.inl ((k4 kb).2 (.inl rfl))) _)
  obtain ⟨S4, j2, u2⟩ := j1.set 8 (.int .i64 c) { s with window := c, m := s.m.set i (n, { x with window := a }) } rfl rfl rfl
  have hu2 := hu.trans (u1.trans u2)
  have hrd2 := hrd.upd (u1.trans u2) hA1
  have hpS4 : ¬ S4 pb := fun e => ((u1.trans u2).own pb e).elim hpS (fun e2 => by have := hp.lt; omega)
  have hp2 := (hp.far (a := ⟨kb, 0, none⟩) hpk (.int .i64 a)).far (a := ⟨b, 8, none⟩) hpb (.int .i64 c)
  have HJ := Lib.hid j2
  have HU := Lib.hid hu2
  have HR := Lib.hid hrd2
  have HP := Lib.hid hp2
  have HX := Lib.hid hx
  have HKB := Lib.hid hkb
  have HAC := Lib.hid (And.intro ha hc)
  clear h hu hx hkb ha hc hp hrd y1 y3 y4 k1 k2 k3 k4 j1 j2 u1 u2 hu2 hrd2 hp2 hA1
  refine tail_step 5 seBody ?_
  show Code.wp _ _ _ _ _
  go_wp2_with (first | (go_at_call 49; refine (stream_any a c _ HAC.out.1 HAC.out.2).mono ?_; rintro e w5 ⟨rfl, rfl⟩) | (go_at_call 48; refine (conn_any a c _ HAC.out.1 HAC.out.2).mono ?_; rintro e w5 ⟨rfl, rfl⟩))
  show tailW _ _ _ _ _ _
  clear b8 bf8 d0 df0 hSkb
  generalize (W.setCell ⟨kb, 0, none⟩ (.int .i64 a)).setCell ⟨b, 8, none⟩ (.int .i64 c) = W2 at *
  have hi2 : (s.m.set i (n, { x with window := a }))[i]? = some (n, { x with window := a }) := by
    have := (List.getElem?_eq_some_iff.1 HX.out).1
    simp [this]
  obtain ⟨kb', S5, y1, ⟨A, cc, S6, k1, k2, k3, k4⟩, y3, y4⟩ := HJ.out.stream hi2
  obtain rfl : kb = kb' := by have := HKB.out; rw [y1] at this; simpa using this.symm
  simp only at k1 k2
  have q4 := k1.cell 4
  have qf4 := k1.frozen 4
  have qf2 := k1.frozen 2
  have q2 := k1.cell 2
  have p0 := HP.out.cell 0
  have p6 := HP.out.cell 6
  have hltk := k1.lt
  have hltp := HP.out.lt
  simp only [PartS.cells, List.getElem?_cons_succ, List.getElem?_cons_zero] at q4 q2 p0 p6
  have hnp : ¬ S6 pb := fun e => hpS4 (y3 pb ((k4 pb).2 (.inr e)))
  have HKS := Lib.hid (show ∀ (W' : World) (S' : Own), Upd S6 S' W2 W' → W'.cell? ⟨pb, 0, none⟩ = some (.slice A1 p.data.length c1) ∧ W'.cell? ⟨pb, 6, none⟩ = some (.bool p.fin) from
    fun W' S' hu => ⟨(hu.cell (a := ⟨pb, 0, none⟩) hltp hnp).trans p0, (hu.cell (a := ⟨pb, 6, none⟩) hltp hnp).trans p6⟩)
  have HROW := Lib.hid k2
  have HSRC := Lib.hid (show Src Tryd.prog W2.drew 1 (.slice A1 p.data.length c1) p.data.length (bys p.data) from Src.of_rd (HR.out.keep fun _ _ => rfl) (by intro u hu; simp only [bys, List.mem_map] at hu; obtain ⟨y, -, rfl⟩ := hu; rfl))
  have h63 : x.data.length + p.data.length ≤ maxLen := by simp only [maxLen]; omega
  have hbb : (x.data.length + p.data.length) * 1 ≤ big := by simp only [big]; omega
  have HK1 := Lib.hid k1
  have HK3 := Lib.hid k3
  have HK4 := Lib.hid k4
  have HY4 := Lib.hid y4
  clear k1 k2 k3 k4 y1 y3 y4 hbig
  refine tail_step 6 seBody ?_
  show Code.wp _ _ _ _ _
  refine wp_region_S (fun W' => W'.cell? ⟨pb, 0, none⟩ = some (.slice A1 p.data.length c1) ∧ W'.cell? ⟨pb, 6, none⟩ = some (.bool p.fin)) 17 (by kernel_rfl) (⟨p0, p6⟩) (fun hHeld => ?_)
  refine AnyS_take (i := 0) (v := ?_) rfl (by kernel_rfl) (by kernel_rfl) (by kernel_rfl) (by kernel_rfl) (by kernel_rfl) (fun _ _ _ h => h) (Or.inl ⟨by rfl, ?_⟩) hHeld ?_
  rotate_left
  · intro w' hSw
    (try dsimp only at hSw)
    go_simp
    try with_reducible rfl
  try simp only [Act.put, List.setIfInBounds_toArray, List.set_cons_zero, List.set_cons_succ]
  refine AnyS_take (i := 1) (v := ?_) rfl (by kernel_rfl) (by kernel_rfl) (by kernel_rfl) (by kernel_rfl) (by kernel_rfl) (fun _ _ _ h => h) (Or.inl ⟨by rfl, ?_⟩) hHeld ?_
  rotate_left
  · intro w' hSw
    (try dsimp only at hSw)
    go_simp
    try with_reducible rfl
  try simp only [Act.put, List.setIfInBounds_toArray, List.set_cons_zero, List.set_cons_succ]
  refine AnyS_take (i := 2) (v := ?_) rfl (by kernel_rfl) (by kernel_rfl) (by kernel_rfl) (by kernel_rfl) (by kernel_rfl) (fun _ _ _ h => h) (Or.inl ⟨by rfl, ?_⟩) hHeld ?_
  rotate_left
  · intro w' hSw
    (try dsimp only at hSw)
    go_simp
    try with_reducible rfl
  try simp only [Act.put, List.setIfInBounds_toArray, List.set_cons_zero, List.set_cons_succ]
  refine AnyS_take (i := 3) (v := ?_) rfl (by kernel_rfl) (by kernel_rfl) (by kernel_rfl) (by kernel_rfl) (by kernel_rfl) (fun _ _ _ h => h) (Or.inl ⟨by rfl, ?_⟩) hHeld ?_
  rotate_left
  · intro w' hSw
    (try dsimp only at hSw)
    go_simp
    try with_reducible rfl
  try simp only [Act.put, List.setIfInBounds_toArray, List.set_cons_zero, List.set_cons_succ]
  refine AnyS_take (i := 4) (v := ?_) rfl (by kernel_rfl) (by kernel_rfl) (by kernel_rfl) (by kernel_rfl) (by kernel_rfl) (fun _ _ _ h => h) (Or.inl ⟨by rfl, ?_⟩) hHeld ?_
  rotate_left
  · intro w' hSw
    (try dsimp only at hSw)
    go_simp
    try with_reducible rfl
  try simp only [Act.put, List.setIfInBounds_toArray, List.set_cons_zero, List.set_cons_succ]
  refine AnyS_take (i := 6) (v := ?_) rfl (by kernel_rfl) (by kernel_rfl) (by kernel_rfl) (by kernel_rfl) (by kernel_rfl) (fun _ _ _ h => h) (Or.inl ⟨by rfl, ?_⟩) hHeld ?_
  rotate_left
  · intro w' hSw
    (try dsimp only at hSw)
    go_simp
    try with_reducible rfl
  try simp only [Act.put, List.setIfInBounds_toArray, List.set_cons_zero, List.set_cons_succ]
  refine AnyS_take (i := 7) (v := ?_) rfl (by kernel_rfl) (by kernel_rfl) (by kernel_rfl) (by kernel_rfl) (by kernel_rfl) (fun _ _ _ h => h) (Or.inl ⟨by rfl, ?_⟩) hHeld ?_
  rotate_left
  · intro w' hSw
    (try dsimp only at hSw)
    go_simp
    try with_reducible rfl
  try simp only [Act.put, List.setIfInBounds_toArray, List.set_cons_zero, List.set_cons_succ]
  refine AnyS_take (i := 9) (v := ?_) rfl (by kernel_rfl) (by kernel_rfl) (by kernel_rfl) (by kernel_rfl) (by kernel_rfl) (fun _ _ _ h => h) (Or.inl ⟨by rfl, ?_⟩) hHeld ?_
  rotate_left
  · intro w' hSw
    (try dsimp only at hSw)
    go_simp
    try with_reducible rfl
  try simp only [Act.put, List.setIfInBounds_toArray, List.set_cons_zero, List.set_cons_succ]
  refine AnyS_take (i := 10) (v := ?_) rfl (by kernel_rfl) (by kernel_rfl) (by kernel_rfl) (by kernel_rfl) (by kernel_rfl) (fun _ _ _ h => h) (Or.inl ⟨by rfl, ?_⟩) hHeld ?_
  rotate_left
  · intro w' hSw
    (try dsimp only at hSw)
    go_simp
    try with_reducible rfl
  try simp only [Act.put, List.setIfInBounds_toArray, List.set_cons_zero, List.set_cons_succ]
  refine AnyS_step (i := 5) rfl (by kernel_rfl) rfl (fun K hK => ?_)
  go_simp
  refine hK.out _ _ (hHeld) (fun hHeld => ?_)
  clear hK K
  try simp only [Act.put, List.setIfInBounds_toArray, List.set_cons_zero, List.set_cons_succ]
  refine AnyS_step (i := 8) rfl (by kernel_rfl) rfl (fun K hK => ?_)
  refine wp_append _ _ _ _ (by rfl) 5 1 1 tyBytes tyBytes.src A x.data.length cc (bys x.data) S6 (.slice A1 p.data.length c1) p.data.length (bys p.data) (by rfl) (by rfl) (HROW.out.loc fun _ _ => rfl) HSRC.out h63 hbb ?_
  intro A5 c5 w5 S7 hr5 hu5 ha5
  refine hK.out _ _ (HKS.out _ S7 (((Upd.refl _ _).drew).trans hu5)) (fun hHeld => ?_)
  clear hK K
  try simp only [Act.put, List.setIfInBounds_toArray, List.set_cons_zero, List.set_cons_succ]
  have hu6 : Upd S6 S7 W2 w5 := ((Upd.refl S6 W2).drew).trans hu5
  have hb5 := HK1.out.upd hu6 HK3.out
  have g4 := hb5.cell 4
  have gf4 := hb5.frozen 4
  have g2 := hb5.cell 2
  have gf2 := hb5.frozen 2
  simp only [List.getElem?_cons_succ, List.getElem?_cons_zero] at g4 g2
  have HB5 := Lib.hid hb5
  have HU6 := Lib.hid hu6
  have HR5 := Lib.hid hr5
  have hS7 : ¬ S7 kb := fun e => (hu6.own kb e).elim HK3.out (fun e2 => by omega)
  clear hb5 hu6 hr5 hu5 q4 qf4 q2 qf2
  refine AnyS_take (i := 11) (v := ?_) rfl (by kernel_rfl) (by kernel_rfl) (by kernel_rfl) (by kernel_rfl) (by kernel_rfl) (fun _ _ _ h => h) (Or.inl ⟨by rfl, ?_⟩) hHeld ?_
  rotate_left
  · intro w' hSw
    (try dsimp only at hSw)
    go_simp
    try with_reducible rfl
  try simp only [Act.put, List.setIfInBounds_toArray, List.set_cons_zero, List.set_cons_succ]
  refine AnyS_take (i := 12) (v := ?_) rfl (by kernel_rfl) (by kernel_rfl) (by kernel_rfl) (by kernel_rfl) (by kernel_rfl) (fun _ _ _ h => h) (Or.inl ⟨by rfl, ?_⟩) hHeld ?_
  rotate_left
  · intro w' hSw
    (try dsimp only at hSw)
    go_simp
    try with_reducible rfl
  try simp only [Act.put, List.setIfInBounds_toArray, List.set_cons_zero, List.set_cons_succ]
  refine AnyS_step (i := 13) rfl (by kernel_rfl) rfl (fun K hK => ?_)
  go_simp
  refine hK.out _ _ (⟨(World.cell?_of_block (heap_set_other (a := ⟨kb, 4, none⟩) _ hpk)).trans hHeld.1, (World.cell?_of_block (heap_set_other (a := ⟨kb, 4, none⟩) _ hpk)).trans hHeld.2⟩) (fun hHeld => ?_)
  clear hK K
  try simp only [Act.put, List.setIfInBounds_toArray, List.set_cons_zero, List.set_cons_succ]
  refine AnyS_take (i := 14) (v := ?_) rfl (by kernel_rfl) (by kernel_rfl) (by kernel_rfl) (by kernel_rfl) (by kernel_rfl) (fun _ _ _ h => h) (Or.inl ⟨by rfl, ?_⟩) hHeld ?_
  rotate_left
  · intro w' hSw
    (try dsimp only at hSw)
    go_simp
    try with_reducible rfl
  try simp only [Act.put, List.setIfInBounds_toArray, List.set_cons_zero, List.set_cons_succ]
  refine AnyS_take (i := 15) (v := ?_) rfl (by kernel_rfl) (by kernel_rfl) (by kernel_rfl) (by kernel_rfl) (by kernel_rfl) (fun _ _ _ h => h) (Or.inl ⟨by rfl, ?_⟩) hHeld ?_
  rotate_left
  · intro w' hSw
    (try dsimp only at hSw)
    go_simp
    try with_reducible rfl
  try simp only [Act.put, List.setIfInBounds_toArray, List.set_cons_zero, List.set_cons_succ]
  refine AnyS_step (i := 16) rfl (by kernel_rfl) rfl (fun K hK => ?_)
  go_simp
  refine hK.out _ _ (⟨(World.cell?_of_block (heap_set_other (a := ⟨kb, 2, none⟩) _ hpk)).trans hHeld.1, (World.cell?_of_block (heap_set_other (a := ⟨kb, 2, none⟩) _ hpk)).trans hHeld.2⟩) (fun hHeld => ?_)
  clear hK K
  try simp only [Act.put, List.setIfInBounds_toArray, List.set_cons_zero, List.set_cons_succ]
  refine AnyS_done (by kernel_rfl) (NoPanic.normal ?_) _
  try simp only [Act.put, List.setIfInBounds_toArray, List.set_cons_zero, List.set_cons_succ]
  show Code.wp _ _ _ _ _
  go_wp2
  go_ret
  have hl5 : (x.data ++ p.data).length = x.data.length + p.data.length := List.length_append
  obtain ⟨S8, z1, z2⟩ := HY4.out ((w5.setCell ⟨kb, 4, none⟩ (.slice A5 (x.data.length + p.data.length) c5)).setCell ⟨kb, 2, none⟩ (.bool p.fin)) (fun k => k = kb ∨ S7 k) { x with window := a, data := x.data ++ p.data, ended := p.fin }
    ⟨A5, c5, S7, by
      simp only [hl5]
      exact (HB5.out.set 4 _).set 2 _, by
      simp only [hl5]
      have := HR5.out
      rw [show bys x.data ++ bys p.data = bys (x.data ++ p.data) from by simp [bys]] at this
      exact this.loc fun k hk => (heap_set_other (a := ⟨kb, 2, none⟩) _ (fun e => hS7 (by rw [← show k = kb from e]; exact hk))).trans (heap_set_other (a := ⟨kb, 4, none⟩) _ (fun e => hS7 (by rw [← show k = kb from e]; exact hk))), hS7, fun _ => Iff.rfl⟩ (by
      have h1 := ((HU6.out.wider (R := S5) (fun k hk => (HK4.out k).2 (.inr hk))).setCell (p := ⟨kb, 4, none⟩) (.inl ((HK4.out kb).2 (.inl rfl))) (.slice A5 (x.data.length + p.data.length) c5)).setCell (p := ⟨kb, 2, none⟩) (.inl ((HK4.out kb).2 (.inl rfl))) (.bool p.fin)
      refine h1.holds fun k hk => ?_
      rcases hk with rfl | hk
      · exact .inl ((HK4.out k).2 (.inl rfl))
      · exact h1.own k hk)
  refine ⟨rfl, v, S8, _, Sim.refl _, ?_, HU.out.trans z2⟩
  simp only [List.set_set] at z1
  exact z1
end Go.Proofs.YthmfifcogokpoaaDoor
