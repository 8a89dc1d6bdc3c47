/- What is proved here: contracts of the program's functions and plain lemmas that the claim's last text uses, in parts: package watch: hears. -/
import Derived.Test.YthmfifcogokpoaaDoorM17
set_option linter.unusedVariables false
set_option linter.unusedSimpArgs false
namespace Go.Proofs.YthmfifcogokpoaaDoor
open Go.RowKit
open Go.ChangeMaps (setBlock)

/-- A frame of the client. -/
def hearsS (s : WatchS) (f : FrameS) : WatchS :=
  if f.kind = 1 then
    if f.stream % 2 = 1 ∧ s.highest < f.stream then { s with highest := f.stream, m := s.m ++ [(f.stream, ⟨s.sets.window, false, false, false, []⟩)] } else s
  else if f.kind = 4 then
    if (readS f).2.bad = false ∧ (readS f).1.ack = false then { s with waits := s.waits ++ [(readS f).1.sets] } else s
  else if f.kind = 8 then
    if (readS f).2.bad = false then grantedS s f.stream (readS f).1.step else s
  else s

def PartS.cells (p : PartS) (A : Option Addr) (c : Nat) (A2 : Option Addr) (c2 : Nat) : List Value :=
  [.slice A p.data.length c, .int .i64 p.pad, .int .i64 p.code, .int .i64 p.last, .int .i64 p.step, .slice A2 p.sets.length c2, .bool p.fin, .bool p.ack, .bool p.whole]
/-- A frame was read. -/
structure ReadM (w W : World) (b : Nat) (v : Locs) (s : WatchS) (S : Own) (f : FrameS) (r : PartS × Fault) (A : Option Addr) (c : Nat) (A1 : Option Addr) (c1 : Nat) (A2 : Option Addr) (c2 : Nat) (fb pb xb : Nat) (S1 S2 : Own) : Prop where
  old : WAt w b v s S
  below : Below w.heap.size w W
  f : Blk W fb 29 [.int .i64 f.kind, .int .i64 f.flags, .int .i64 f.stream, .slice A f.body.length c]
  p : Blk W pb 82 (r.1.cells A1 c1 A2 c2)
  x : Blk W xb 84 [.bool r.2.bad, .bool r.2.conn, .int .i64 r.2.code]
  data : Row 5 1 A1 r.1.data.length c1 (bys r.1.data) S1 W
  sets : Row 66 2 A2 r.1.sets.length c2 (setCells r.1.sets) S2 W
  far : ∀ k, k = fb ∨ k = pb ∨ k = xb ∨ S1 k ∨ S2 k → w.heap.size ≤ k
  n1 : ¬ S1 fb ∧ ¬ S1 pb ∧ ¬ S1 xb
  n2 : ¬ S2 fb ∧ ¬ S2 pb ∧ ¬ S2 xb
  n12 : ∀ k, S1 k → ¬ S2 k
theorem ReadM.wat {w W : World} {b : Nat} {v : Locs} {s : WatchS} {S : Own} {f : FrameS} {r : PartS × Fault} {A : Option Addr} {c : Nat} {A1 : Option Addr} {c1 : Nat} {A2 : Option Addr} {c2 : Nat} {fb pb xb : Nat} {S1 S2 : Own} (h : ReadM w W b v s S f r A c A1 c1 A2 c2 fb pb xb S1 S2) : WAt W b v s S := h.old.below h.below
theorem ReadM.upd {w W : World} {b : Nat} {v : Locs} {s : WatchS} {S : Own} {f : FrameS} {r : PartS × Fault} {A : Option Addr} {c : Nat} {A1 : Option Addr} {c1 : Nat} {A2 : Option Addr} {c2 : Nat} {fb pb xb : Nat} {S1 S2 : Own} (h : ReadM w W b v s S f r A c A1 c1 A2 c2 fb pb xb S1 S2) : Upd S S w W := Upd.of_below h.below fun _ hk => .inl hk

noncomputable def hearsBody : Code := Tryd.f26.body.getD .skip
def HearsQ (b : Nat) (s : WatchS) (S : Own) (w : World) (e : Ending) (w' : World) : Prop := e = .returned (.tuple #[]) ∧ ∃ v' S', WAt w' b v' s S' ∧ Upd S S' w w'
abbrev HearsP (b : Nat) (s : WatchS) (S : Own) (w : World) : Exit → Act → World → Prop := bodyPost Tryd.prog Tryd.f26 (HearsQ b s S w)

set_option maxRecDepth 100000 in
theorem hears_other (w W : World) (b : Nat) (v : Locs) (s : WatchS) (S : Own) (f : FrameS) (r : PartS × Fault) (A : Option Addr) (c : Nat) (A1 : Option Addr) (c1 : Nat) (A2 : Option Addr) (c2 : Nat) (fb pb xb : Nat) (S1 S2 : Own) (hM : ReadM w W b v s S f r A c A1 c1 A2 c2 fb pb xb S1 S2) (h1 : f.kind ≠ 1) (h4 : f.kind ≠ 4) (h8 : f.kind ≠ 8) (u1 u2 u6 u7 u8 u9 u10 u11 u13 u14 u15 u16 u17 u18 u19 u20 u21 u22 u23 u24 u25 u26 u27 u28 u29 u30 u31 u32 u33 u34 u35 u36 u37 u38 u39 u40 u41 u42 u43 u44 u45 u46 u47 u48 u49 u50 u51 u52 u53 u54 u55 u56 u57 u58 u59 u60 u61 u62 u63 u64 u65 u66 u67 u68 u69 u70 u71 u72 u73 u74 u75 u76 u77 : Value) :
    tailW Tryd.prog 3 hearsBody (HearsP b s S w) ⟨#[.pointer (some ⟨b, 0, none⟩), u1, u2, .pointer (some ⟨fb, 0, none⟩), .pointer (some ⟨pb, 0, none⟩), .pointer (some ⟨xb, 0, none⟩), u6, u7, u8, u9, u10, u11, .int .i64 f.kind, u13, u14, u15, u16, u17, u18, u19, u20, u21, u22, u23, u24, u25, u26, u27, u28, u29, u30, u31, u32, u33, u34, u35, u36, u37, u38, u39, u40, u41, u42, u43, u44, u45, u46, u47, u48, u49, u50, u51, u52, u53, u54, u55, u56, u57, u58, u59, u60, u61, u62, u63, u64, u65, u66, u67, u68, u69, u70, u71, u72, u73, u74, u75, u76, u77], []⟩ W := by
  have t1 : ((f.kind : Int) == 1) = false := beq_eq_false_iff_ne.2 (by omega)
  have t4 : ((f.kind : Int) == 4) = false := beq_eq_false_iff_ne.2 (by omega)
  have t8 : ((f.kind : Int) == 8) = false := beq_eq_false_iff_ne.2 (by omega)
  have HM := Lib.hid hM
  clear hM h1 h4 h8
  show Code.wp _ _ _ _ _
  go_wp2
  go_end0
  exact ⟨rfl, v, S, HM.out.wat, HM.out.upd⟩

set_option maxRecDepth 100000 in
theorem hears_update (w W : World) (b : Nat) (v : Locs) (s : WatchS) (S : Own) (f : FrameS) (r : PartS × Fault) (A : Option Addr) (c : Nat) (A1 : Option Addr) (c1 : Nat) (A2 : Option Addr) (c2 : Nat) (fb pb xb : Nat) (S1 S2 : Own) (hM : ReadM w W b v s S f r A c A1 c1 A2 c2 fb pb xb S1 S2) (h8 : f.kind = 8) (hwin : Go.Proofs.YthmfifcogokpoaaDoor.W s.window) (hm : ∀ x ∈ s.m, Go.Proofs.YthmfifcogokpoaaDoor.W x.2.window) (u1 u2 u6 u7 u8 u9 u10 u11 u13 u14 u15 u16 u17 u18 u19 u20 u21 u22 u23 u24 u25 u26 u27 u28 u29 u30 u31 u32 u33 u34 u35 u36 u37 u38 u39 u40 u41 u42 u43 u44 u45 u46 u47 u48 u49 u50 u51 u52 u53 u54 u55 u56 u57 u58 u59 u60 u61 u62 u63 u64 u65 u66 u67 u68 u69 u70 u71 u72 u73 u74 u75 u76 u77 : Value) :
    tailW Tryd.prog 3 hearsBody (HearsP b (if r.2.bad = false then grantedS s f.stream r.1.step else s) S w) ⟨#[.pointer (some ⟨b, 0, none⟩), u1, u2, .pointer (some ⟨fb, 0, none⟩), .pointer (some ⟨pb, 0, none⟩), .pointer (some ⟨xb, 0, none⟩), u6, u7, u8, u9, u10, u11, .int .i64 f.kind, u13, u14, u15, u16, u17, u18, u19, u20, u21, u22, u23, u24, u25, u26, u27, u28, u29, u30, u31, u32, u33, u34, u35, u36, u37, u38, u39, u40, u41, u42, u43, u44, u45, u46, u47, u48, u49, u50, u51, u52, u53, u54, u55, u56, u57, u58, u59, u60, u61, u62, u63, u64, u65, u66, u67, u68, u69, u70, u71, u72, u73, u74, u75, u76, u77], []⟩ W := by
  have f2 := hM.f.cell 2
  have p4 := hM.p.cell 4
  have x0 := hM.x.cell 0
  simp only [PartS.cells, List.getElem?_cons_succ, List.getElem?_cons_zero] at f2 p4 x0
  have HM := Lib.hid hM
  have HG := Lib.hid (granted_any W b v s S hM.wat hwin hm f.stream r.1.step)
  rw [h8]
  clear hM h8 hm hwin
  obtain ⟨p, bad, q⟩ := r
  simp only at *
  cases bad with
  | true =>
    show Code.wp _ _ _ _ _
    go_wp2
    go_end0
    exact ⟨rfl, v, S, HM.out.wat, HM.out.upd⟩
  | false =>
    show Code.wp _ _ _ _ _
    go_wp2_with (go_at_call 33; refine HG.out.mono ?_; rintro e w1 ⟨rfl, S', hw1, hu1⟩; have HW1 := Lib.hid hw1; have HU1 := Lib.hid hu1; clear hw1 hu1)
    go_end0
    exact ⟨rfl, v, S', HW1.out, HM.out.upd.trans HU1.out⟩

/-- One part other than its own block turned, then a cell of its own block. -/
theorem WAt.focusB {w : World} {b : Nat} {v : Locs} {s : WatchS} {S : Own} (h : WAt w b v s S) (i : Nat) {p : Part} (hi : (watL b v s)[i + 1]? = some p) :
    ∃ S1, p.p w S1 ∧ (∀ k, S1 k → S k) ∧ ¬ S1 b ∧ ∀ (w1 : World) (S1' : Own) (p' : Part) (j : Nat) (x : Value) (v' : Locs) (s' : WatchS), p'.p w1 S1' → Upd S1 S1' w w1 → (s.cells v).set j x = s'.cells v' → ((watL b v s).drop 1).set i p' = (watL b v' s').drop 1 → v'.kbs.length = s'.m.length →
      ∃ S', WAt (w1.setCell ⟨b, j, none⟩ x) b v' s' S' ∧ Upd S S' w (w1.setCell ⟨b, j, none⟩ x) := by
  obtain ⟨Sb, R, hb, hr, hap, hiff⟩ := h.star
  have hSb : Sb b := (hb.2 b).2 rfl
  have hRb : ¬ R b := hap b hSb
  have hlt := hb.1.lt
  obtain ⟨S1, h1, h2, h3⟩ := StarL.focus i hr (by simpa [watL] using hi)
  refine ⟨S1, h1, fun k hk => (hiff k).2 (.inr (h2 k hk)), fun hk => hRb (h2 b hk), fun w1 S1' p' j x v' s' hp hu hc he hk => ?_⟩
  obtain ⟨R', h4, h5⟩ := h3 w1 S1' p' hp hu
  have hap2 : Apart Sb R' := (h5.apart hap.symm (fun k hk => (blkP b _ _).lt hb k hk)).symm
  have hRb' : ¬ R' b := hap2 b hSb
  have h6 : Upd S (or_ Sb R') w w1 := (h5.wider (R := S) (fun k hk => (hiff k).2 (.inr hk))).holds fun k hk => by
    rcases hk with hk | hk
    · exact .inl ((hiff k).2 (.inl hk))
    · exact (h5.own k hk).imp (fun h => (hiff k).2 (.inr h)) id
  have h7 := h6.setCell (p := ⟨b, j, none⟩) (.inl ((hiff b).2 (.inl hSb))) x
  have h8 : StarL (watL b v' s') (w1.setCell ⟨b, j, none⟩ x) (or_ Sb R') := by
    have h9 : watL b v' s' = blkP b 59 (s'.cells v') :: (watL b v' s').drop 1 := rfl
    rw [h9, ← he]
    refine ⟨Sb, R', ⟨hc ▸ (hb.1.upd h5 hRb).set j x, hb.2⟩, StarL.keep h4 fun k hk => heap_set_other _ (fun h => hRb' (by rw [← show k = b from h]; exact hk)), hap2, fun _ => Iff.rfl⟩
  refine ⟨or_ Sb R', ⟨hk, h8, h.glob.upd h7 h.g0, fun h0 => ?_⟩, h7⟩
  rcases h7.own 0 h0 with h7 | h7
  · exact h.g0 h7
  · have := h.glob.pos; omega

theorem tyWaits : ElemTy Tryd.prog 57 63 1 24 := elemTy_of Tryd.underlying57 (z := .slice none 0 0) (by kernel_rfl) rfl

set_option maxRecDepth 100000 in
set_option maxHeartbeats 1000000 in
theorem hears_settings (w W : World) (b : Nat) (v : Locs) (s : WatchS) (S : Own) (f : FrameS) (r : PartS × Fault) (A : Option Addr) (c : Nat) (A1 : Option Addr) (c1 : Nat) (A2 : Option Addr) (c2 : Nat) (fb pb xb : Nat) (S1 S2 : Own) (hM : ReadM w W b v s S f r A c A1 c1 A2 c2 fb pb xb S1 S2) (h4 : f.kind = 4) (hlen : s.waits.length ≤ 1000000000) (u1 u2 u6 u7 u8 u9 u10 u11 u13 u14 u15 u16 u17 u18 u19 u20 u21 u22 u23 u24 u25 u26 u27 u28 u29 u30 u31 u32 u33 u34 u35 u36 u37 u38 u39 u40 u41 u42 u43 u44 u45 u46 u47 u48 u49 u50 u51 u52 u53 u54 u55 u56 u57 u58 u59 u60 u61 u62 u63 u64 u65 u66 u67 u68 u69 u70 u71 u72 u73 u74 u75 u76 u77 : Value) :
    tailW Tryd.prog 3 hearsBody (HearsP b (if r.2.bad = false ∧ r.1.ack = false then { s with waits := s.waits ++ [r.1.sets] } else s) S w) ⟨#[.pointer (some ⟨b, 0, none⟩), u1, u2, .pointer (some ⟨fb, 0, none⟩), .pointer (some ⟨pb, 0, none⟩), .pointer (some ⟨xb, 0, none⟩), u6, u7, u8, u9, u10, u11, .int .i64 f.kind, u13, u14, u15, u16, u17, u18, u19, u20, u21, u22, u23, u24, u25, u26, u27, u28, u29, u30, u31, u32, u33, u34, u35, u36, u37, u38, u39, u40, u41, u42, u43, u44, u45, u46, u47, u48, u49, u50, u51, u52, u53, u54, u55, u56, u57, u58, u59, u60, u61, u62, u63, u64, u65, u66, u67, u68, u69, u70, u71, u72, u73, u74, u75, u76, u77], []⟩ W := by
  have p5 := hM.p.cell 5
  have p7 := hM.p.cell 7
  have x0 := hM.x.cell 0
  have w9 := hM.wat.blk.cell 9
  have wf9 := hM.wat.blk.frozen 9
  simp only [PartS.cells, WatchS.cells, List.getElem?_cons_succ, List.getElem?_cons_zero] at p5 p7 x0 w9
  have HM := Lib.hid hM
  rw [h4]
  obtain ⟨p, bad, q⟩ := r
  simp only at *
  cases bad with
  | true =>
    rw [if_neg (by simp)]
    clear hM h4
    show Code.wp _ _ _ _ _
    go_wp2
    go_end0
    exact ⟨rfl, v, S, HM.out.wat, HM.out.upd⟩
  | false =>
    obtain ⟨pd, pp, pc, pl, ps, pt, pf, pa, pw⟩ := p
    simp only at *
    cases pa with
    | true =>
      rw [if_neg (by simp)]
      clear hM h4
      show Code.wp _ _ _ _ _
      go_wp2
      go_end0
      exact ⟨rfl, v, S, HM.out.wat, HM.out.upd⟩
    | false =>
      rw [if_pos (by simp)]
      obtain ⟨T, ⟨hs, hlh, Sr, Se, hrow, hrest, hap, hiff⟩, hsub, hTb, hfin⟩ := hM.old.focusB 4 rfl
      have hltb := hM.wat.blk.lt
      have hltp := hM.p.lt
      have hnb : ¬ Sr b := fun h => hTb ((hiff b).2 (.inl h))
      have hnp : ¬ Sr pb := fun h => by have h1 := hM.old.lt pb (hsub pb ((hiff pb).2 (.inl h))); have h2 := hM.far pb (.inr (.inl rfl)); omega
      have hrowW := Row.loc hrow fun k hk => hM.below.block k (Row.lt hrow k hk)
      have HKS := Lib.hid (show ∀ (W' : World) (S' : Own), Upd Sr S' W W' → W'.cell? ⟨b, 9, none⟩ = some (.slice v.wA s.waits.length v.wc) ∧ W'.frozen? ⟨b, 9, none⟩ = false ∧ W'.cell? ⟨pb, 5, none⟩ = some (.slice A2 pt.length c2) from
        fun W' S' hu => ⟨(hu.cell (a := ⟨b, 9, none⟩) hltb hnb).trans w9, (hu.frozen (a := ⟨b, 9, none⟩) hltb hnb).trans wf9, (hu.cell (a := ⟨pb, 5, none⟩) hltp hnp).trans p5⟩)
      have HROWQ := Lib.hid (show ∀ q : Nat, Row 63 1 v.wA s.waits.length v.wc (List.zipWith (fun h l => Value.slice h.1 l.length h.2) hs s.waits) Sr ((W.drewN q).alloc (.cells #[.slice A2 pt.length c2] 63)) from fun q => Row.loc hrowW fun j hj => Below.heap_alloc (W.drewN q) _ j (Row.lt hrowW j hj))
      have HSRCQ := Lib.hid (show ∀ q : Nat, Src Tryd.prog ((W.drewN q).alloc (.cells #[.slice A2 pt.length c2] 63)) 1 (.slice (some ⟨W.heap.size, 0, none⟩) 1 1) 1 [.slice A2 pt.length c2] from fun q => Src.of_rd (Row.made (e := 63) (cs := [.slice A2 pt.length c2]) (Blk.push (by simp)) (Nat.le_refl _) (by simp [maxLen]) (by simp) rfl).rd (by simp [Value.oneCell']))
      have h63 : s.waits.length + 1 ≤ maxLen := by simp only [maxLen]; omega
      have hbb : (s.waits.length + 1) * 24 ≤ big := by simp only [big]; omega
      have HF := Lib.hid hfin
      have HI := Lib.hid hiff
      have HRW := Lib.hid hrest
      have HAP := Lib.hid hap
      have HLH := Lib.hid hlh
      have HSUB := Lib.hid hsub
      clear hM h4 hlen hfin hiff hrest hap hrow hrowW hlh hsub hTb
      show Code.wp _ _ _ _ _
      go_wp2
      refine wp_region_S (fun w' => w'.cell? ⟨b, 9, none⟩ = some (.slice v.wA s.waits.length v.wc) ∧ w'.frozen? ⟨b, 9, none⟩ = false ∧ w'.cell? ⟨pb, 5, none⟩ = some (.slice A2 pt.length c2)) 11 (by kernel_rfl) (⟨w9, wf9, p5⟩) (fun hHeld => ?_)
      refine AnyS_plain (i := 0) (v := ?_) rfl (by kernel_rfl) (by kernel_rfl) (by kernel_rfl) (by kernel_rfl) (fun _ _ _ h => h) (Or.inl ⟨by rfl, ?_⟩) hHeld ?_
      rotate_left
      · intro w' hSw
        (try dsimp only at hSw)
        go_simp
        try with_reducible rfl
      try simp only [Act.put, List.setIfInBounds_toArray, List.set_cons_zero, List.set_cons_succ]
      refine AnyS_plain (i := 1) (v := ?_) rfl (by kernel_rfl) (by kernel_rfl) (by kernel_rfl) (by kernel_rfl) (fun _ _ _ h => h) (Or.inl ⟨by rfl, ?_⟩) hHeld ?_
      rotate_left
      · intro w' hSw
        (try dsimp only at hSw)
        go_simp
        try with_reducible rfl
      try simp only [Act.put, List.setIfInBounds_toArray, List.set_cons_zero, List.set_cons_succ]
      refine AnyS_plain (i := 2) (v := ?_) rfl (by kernel_rfl) (by kernel_rfl) (by kernel_rfl) (by kernel_rfl) (fun _ _ _ h => h) (Or.inl ⟨by rfl, ?_⟩) hHeld ?_
      rotate_left
      · intro w' hSw
        (try dsimp only at hSw)
        go_simp
        try with_reducible rfl
      try simp only [Act.put, List.setIfInBounds_toArray, List.set_cons_zero, List.set_cons_succ]
      refine AnyS_plain (i := 3) (v := ?_) rfl (by kernel_rfl) (by kernel_rfl) (by kernel_rfl) (by kernel_rfl) (fun _ _ _ h => h) (Or.inl ⟨by rfl, ?_⟩) hHeld ?_
      rotate_left
      · intro w' hSw
        (try dsimp only at hSw)
        go_simp
        try with_reducible rfl
      try simp only [Act.put, List.setIfInBounds_toArray, List.set_cons_zero, List.set_cons_succ]
      refine AnyS_plain (i := 5) (v := ?_) rfl (by kernel_rfl) (by kernel_rfl) (by kernel_rfl) (by kernel_rfl) (fun _ _ _ h => h) (Or.inl ⟨by rfl, ?_⟩) hHeld ?_
      rotate_left
      · intro w' hSw
        (try dsimp only at hSw)
        go_simp
        try with_reducible rfl
      try simp only [Act.put, List.setIfInBounds_toArray, List.set_cons_zero, List.set_cons_succ]
      refine AnyS_take (i := 4) (v := ?_) rfl (by kernel_rfl) (by kernel_rfl) (by kernel_rfl) (by kernel_rfl) (by kernel_rfl) (fun _ _ _ h => h) (Or.inl ⟨by rfl, ?_⟩) hHeld ?_
      rotate_left
      · intro w' hSw
        (try dsimp only at hSw)
        go_simp
        try with_reducible rfl
      try simp only [Act.put, List.setIfInBounds_toArray, List.set_cons_zero, List.set_cons_succ]
      refine AnyS_take (i := 6) (v := ?_) rfl (by kernel_rfl) (by kernel_rfl) (by kernel_rfl) (by kernel_rfl) (by kernel_rfl) (fun _ _ _ h => h) (Or.inl ⟨by rfl, ?_⟩) hHeld ?_
      rotate_left
      · intro w' hSw
        (try dsimp only at hSw)
        go_simp
        try with_reducible rfl
      try simp only [Act.put, List.setIfInBounds_toArray, List.set_cons_zero, List.set_cons_succ]
      refine AnyS_step (i := 7) rfl (by kernel_rfl) rfl (fun K hK => ?_)
      go_simp
      refine hK.out _ _ (HKS.out _ Sr ((Upd.refl _ _).drew.alloc _)) (fun hHeld => ?_)
      clear hK K
      try simp only [Act.put, List.setIfInBounds_toArray, List.set_cons_zero, List.set_cons_succ]
      refine AnyS_step (i := 8) rfl (by kernel_rfl) rfl (fun K hK => ?_)
      refine wp_append _ _ _ _ (by rfl) 63 1 24 tyWaits tyWaits.src v.wA s.waits.length v.wc (List.zipWith (fun h l => Value.slice h.1 l.length h.2) hs s.waits) Sr (.slice (some ⟨W.heap.size, 0, none⟩) 1 1) 1 [.slice A2 pt.length c2] (by rfl) (by rfl) (HROWQ.out 1) (HSRCQ.out 1) h63 hbb ?_
      intro A5 c5 w5 S5 hr5 hu5 ha5
      refine hK.out _ _ (HKS.out _ S5 (((Upd.refl _ _).drew.alloc _).trans hu5)) (fun hHeld => ?_)
      clear hK K
      try simp only [Act.put, List.setIfInBounds_toArray, List.set_cons_zero, List.set_cons_succ]
      refine AnyS_plain (i := 9) (v := ?_) rfl (by kernel_rfl) (by kernel_rfl) (by kernel_rfl) (by kernel_rfl) (fun _ _ _ h => h) (Or.inl ⟨by rfl, ?_⟩) hHeld ?_
      rotate_left
      · intro w' hSw
        (try dsimp only at hSw)
        go_simp
        try with_reducible rfl
      try simp only [Act.put, List.setIfInBounds_toArray, List.set_cons_zero, List.set_cons_succ]
      refine AnyS_plain (i := 10) (v := ?_) rfl (by kernel_rfl) (by kernel_rfl) (by kernel_rfl) (by kernel_rfl) (fun _ _ _ h => h) (Or.inl ⟨by rfl, ?_⟩) hHeld ?_
      rotate_left
      · intro w' hSw
        (try dsimp only at hSw)
        go_simp
        try with_reducible rfl
      try simp only [Act.put, List.setIfInBounds_toArray, List.set_cons_zero, List.set_cons_succ]
      refine AnyS_stepT (i := 11) rfl (by kernel_rfl) (by kernel_rfl) rfl (fun K hK => ?_)
      obtain ⟨q0, qf0, -⟩ := hHeld
      go_simp
      refine hK.out _ _ ?_
      clear hK K
      refine AnyS_done (by kernel_rfl) (NoPanic.normal ?_) _
      try simp only [Act.put, List.setIfInBounds_toArray, List.set_cons_zero, List.set_cons_succ]
      go_wp2
      go_end0
      refine ⟨rfl, ?_⟩
      have hMB := HM.out.below
      have hMF := HM.out.far
      have hSlt : ∀ k, Sr k ∨ Se k → k < w.heap.size := fun k hk => HM.out.old.lt k (HSUB.out k ((HI.out k).2 hk))
      have hsz := hMB.size
      have hz5 : W.heap.size ≤ w5.heap.size := Nat.le_trans (by simp) hu5.size
      have hu6 : Upd Sr S5 W w5 := ((Upd.refl Sr W).alloc _).drew.trans hu5
      have hS5 : ∀ k, S5 k → Sr k ∨ W.heap.size ≤ k := hu6.own
      have hS2 := HM.out.sets.lt
      have z7 : StarL (rowP 63 1 A5 (s.waits.length + 1) c5 (List.zipWith (fun h l => Value.slice h.1 l.length h.2) hs s.waits ++ [.slice A2 pt.length c2]) :: (List.zipWith (fun h l => setsRow h.1 h.2 l) hs s.waits ++ [setsRow A2 c2 pt])) w5 (or_ S5 (or_ Se S2)) := by
        refine StarL.cons hr5 (StarL.push (StarL.keep HRW.out fun k hk => ?_) (p := setsRow A2 c2 pt) (Row.loc HM.out.sets fun k hk => ?_) fun k hk h2 => ?_) fun k hk h2 => ?_
        · exact (hu6.block k (by have := hSlt k (.inr hk); omega) (fun h => HAP.out k h hk)).trans (hMB.block k (hSlt k (.inr hk)))
        · exact hu6.block k (hS2 k hk) (fun h => by have := hSlt k (.inl h); have := hMF k (.inr (.inr (.inr (.inr hk)))); omega)
        · have := hSlt k (.inr hk); have := hMF k (.inr (.inr (.inr (.inr h2)))); omega
        · rcases hS5 k hk with h | h <;> rcases h2 with h2 | h2
          · exact HAP.out k h h2
          · have := hSlt k (.inl h); have := hMF k (.inr (.inr (.inr (.inr h2)))); omega
          · have := hSlt k (.inr h2); omega
          · have := hS2 k h2; omega
      have hu7 : Upd T (or_ S5 (or_ Se S2)) w w5 := by
        have h1 := (Upd.of_below hMB fun _ h => .inl h : Upd T T w W).trans (hu6.wider (R := T) (fun k hk => (HI.out k).2 (.inl hk)))
        refine h1.holds fun k hk => ?_
        rcases hk with hk | hk | hk
        · exact h1.own k hk
        · exact .inl ((HI.out k).2 (.inr hk))
        · exact .inr (hMF k (.inr (.inr (.inr (.inr hk)))))
      obtain ⟨S', k1, k2⟩ := HF.out w5 (or_ S5 (or_ Se S2)) (waitsP A5 c5 (s.waits ++ [pt])) 9 (.slice A5 (s.waits.length + 1) c5) { v with wA := A5, wc := c5 } { s with waits := s.waits ++ [pt] } ⟨hs ++ [(A2, c2)], by simp [HLH.out], by
          rw [List.zipWith_append HLH.out, List.zipWith_append HLH.out, List.length_append]
          exact z7⟩ hu7 (by simp [WatchS.cells]) rfl HM.out.old.kbs
      exact ⟨_, S', k1, k2⟩
end Go.Proofs.YthmfifcogokpoaaDoor
