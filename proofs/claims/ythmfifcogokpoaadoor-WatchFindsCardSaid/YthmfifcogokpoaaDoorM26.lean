/- What is proved here: contracts of the program's functions and plain lemmas that the claim's last text uses, in parts: package watch: answers, whole; package watch: right and Out, in plain words; in whatever pieces, it is the same; package watch: in whatever pieces, it is the same. -/
import Derived.Test.YthmfifcogokpoaaDoorM25
import Derived.Test.YthmfifcogokpoaaDoorM24
set_option linter.unusedVariables false
set_option linter.unusedSimpArgs false
namespace Go.Proofs.YthmfifcogokpoaaDoor
open Go.RowKit
open Go.ChangeMaps (setBlock)

set_option maxRecDepth 100000 in
theorem an_short (W : World) (b : Nat) (v : Locs) (s : WatchS) (S0 : Own) (h : WAt W b v s S0) (f : FrameS) (fb kb : Nat) (A : Option Addr) (c : Nat) (hf : Blk W fb 29 [.int .i64 f.kind, .int .i64 f.flags, .int .i64 f.stream, .slice A f.body.length c]) (hl : ¬ s.sets.frame < f.body.length)
    (t5 : Value) (Q : Exit → Act → World → Prop) (HK : ∀ nq, ∀ (u1 u2 u3 u6 u8 u9 u10 u11 u12 u13 u14 u15 u16 u17 u18 u19 u20 u21 u22 u23 u24 u25 u26 u27 u28 u29 u30 u31 u32 u33 u34 u35 u36 u37 u38 u39 u40 u41 u42 u43 u44 u45 u46 u47 u48 u49 u50 u51 u52 u53 u54 u55 u56 u57 u58 u59 u60 u61 u62 u63 u64 u65 u66 u67 u68 u69 u70 u71 u72 : Value), tailW Tryd.prog 3 anBody Q ⟨#[.pointer (some ⟨b, 0, none⟩), u1, u2, u3, .pointer (some ⟨fb, 0, none⟩), t5, u6, .pointer (some ⟨kb, 0, none⟩), u8, u9, u10, u11, u12, u13, u14, u15, u16, u17, u18, u19, u20, u21, u22, u23, u24, u25, u26, u27, u28, u29, u30, u31, u32, u33, u34, u35, u36, u37, u38, u39, u40, u41, u42, u43, u44, u45, u46, u47, u48, u49, u50, u51, u52, u53, u54, u55, u56, u57, u58, u59, u60, u61, u62, u63, u64, u65, u66, u67, u68, u69, u70, u71, u72], []⟩ (W.drewN nq)) (u1 u2 u3 u6 u8 u9 u10 u11 u12 u13 u14 u15 u16 u17 u18 u19 u20 u21 u22 u23 u24 u25 u26 u27 u28 u29 u30 u31 u32 u33 u34 u35 u36 u37 u38 u39 u40 u41 u42 u43 u44 u45 u46 u47 u48 u49 u50 u51 u52 u53 u54 u55 u56 u57 u58 u59 u60 u61 u62 u63 u64 u65 u66 u67 u68 u69 u70 u71 u72 : Value) :
    tailW Tryd.prog 2 anBody Q ⟨#[.pointer (some ⟨b, 0, none⟩), u1, u2, u3, .pointer (some ⟨fb, 0, none⟩), t5, u6, .pointer (some ⟨kb, 0, none⟩), u8, u9, u10, u11, u12, u13, u14, u15, u16, u17, u18, u19, u20, u21, u22, u23, u24, u25, u26, u27, u28, u29, u30, u31, u32, u33, u34, u35, u36, u37, u38, u39, u40, u41, u42, u43, u44, u45, u46, u47, u48, u49, u50, u51, u52, u53, u54, u55, u56, u57, u58, u59, u60, u61, u62, u63, u64, u65, u66, u67, u68, u69, u70, u71, u72], []⟩ W := by
  have b14 := h.blk.cell 14
  have f3 := hf.cell 3
  simp only [WatchS.cells, List.getElem?_cons_succ, List.getElem?_cons_zero] at b14 f3
  have HK2 := Lib.hid HK
  have t1 : decide (s.sets.frame < (f.body.length : Int)) = false := decide_eq_false hl
  clear h hf HK
  refine tail_step 2 anBody ?_
  show Code.wp _ _ _ _ _
  go_wp2
  go_quiet (fail)
  go_wp2
  show tailW _ _ _ _ _ _
  exact HK2.out nq _ _ _ _ _ _ _ _ _ _ _ _ _ _ _ _ _ _ _ _ _ _ _ _ _ _ _ _ _ _ _ _ _ _ _ _ _ _ _ _ _ _ _ _ _ _ _ _ _ _ _ _ _ _ _ _ _ _ _ _ _ _ _ _ _ _ _ _ _

theorem an_some (w W1 : World) (b : Nat) (v : Locs) (s : WatchS) (S S0 : Own) (h : WAt W1 b v s S0) (hu : Upd S S0 w W1) (hd : s.dead = false) (f : FrameS) (fb : Nat) (A : Option Addr) (c : Nat) (hf : Blk W1 fb 29 [.int .i64 f.kind, .int .i64 f.flags, .int .i64 f.stream, .slice A f.body.length c])
    (pb : Nat) (p : PartS) (A1 : Option Addr) (c1 : Nat) (A2 : Option Addr) (c2 : Nat) (hp : Blk W1 pb 82 (p.cells A1 c1 A2 c2)) (hpS : ¬ S0 pb) (hrd : Rd W1 1 A1 p.data.length c1 (bys p.data)) (hbig : p.data.length ≤ 1000000)
    (i kb : Nat) (hlv : liveS s f.stream = some i) (hkb : v.kbs[i]? = some kb) (u1 u2 u3 u6 u8 u9 u10 u11 u12 u13 u14 u15 u16 u17 u18 u19 u20 u21 u22 u23 u24 u25 u26 u27 u28 u29 u30 u31 u32 u33 u34 u35 u36 u37 u38 u39 u40 u41 u42 u43 u44 u45 u46 u47 u48 u49 u50 u51 u52 u53 u54 u55 u56 u57 u58 u59 u60 u61 u62 u63 u64 u65 u66 u67 u68 u69 u70 u71 u72 : Value) :
    tailW Tryd.prog 2 anBody (AnP b (answersS s f p) S w) ⟨#[.pointer (some ⟨b, 0, none⟩), u1, u2, u3, .pointer (some ⟨fb, 0, none⟩), .pointer (some ⟨pb, 0, none⟩), u6, .pointer (some ⟨kb, 0, none⟩), u8, u9, u10, u11, u12, u13, u14, u15, u16, u17, u18, u19, u20, u21, u22, u23, u24, u25, u26, u27, u28, u29, u30, u31, u32, u33, u34, u35, u36, u37, u38, u39, u40, u41, u42, u43, u44, u45, u46, u47, u48, u49, u50, u51, u52, u53, u54, u55, u56, u57, u58, u59, u60, u61, u62, u63, u64, u65, u66, u67, u68, u69, u70, u71, u72], []⟩ W1 := by
  obtain ⟨x, hx⟩ := liveS_at hlv
  unfold answersS
  rw [hlv]
  simp only [strOf_at hx]
  by_cases hfr : s.sets.frame < f.body.length
  · rw [if_pos hfr]
    exact an_long w W1 b v s S S0 h hu f fb kb A c hf hfr _ _ _ _ _ _ _ _ _ _ _ _ _ _ _ _ _ _ _ _ _ _ _ _ _ _ _ _ _ _ _ _ _ _ _ _ _ _ _ _ _ _ _ _ _ _ _ _ _ _ _ _ _ _ _ _ _ _ _ _ _ _ _ _ _ _ _ _ _ _
  rw [if_neg hfr]
  refine an_short W1 b v s S0 h f fb kb A c hf hfr _ _ (fun nq => ?_) _ _ _ _ _ _ _ _ _ _ _ _ _ _ _ _ _ _ _ _ _ _ _ _ _ _ _ _ _ _ _ _ _ _ _ _ _ _ _ _ _ _ _ _ _ _ _ _ _ _ _ _ _ _ _ _ _ _ _ _ _ _ _ _ _ _ _ _ _
  intro u1 u2 u3 u6 u8 u9 u10 u11 u12 u13 u14 u15 u16 u17 u18 u19 u20 u21 u22 u23 u24 u25 u26 u27 u28 u29 u30 u31 u32 u33 u34 u35 u36 u37 u38 u39 u40 u41 u42 u43 u44 u45 u46 u47 u48 u49 u50 u51 u52 u53 u54 u55 u56 u57 u58 u59 u60 u61 u62 u63 u64 u65 u66 u67 u68 u69 u70 u71 u72
  have h2 := h.drewN nq
  have hu2 := hu.drewN nq
  have hp2 := hp.drewN nq
  have hrd2 : Rd (W1.drewN nq) 1 A1 p.data.length c1 (bys p.data) := hrd.keep fun _ _ => rfl
  generalize W1.drewN nq = W2 at *
  cases hr : blockS 2147483647 s.tab s.most p.data with
  | none => exact an_dead w W2 b v s S S0 h2 hu2 hd pb p A1 c1 A2 c2 hp2 hpS hrd2 hbig hr _ _ _ _ _ _ _ _ _ _ _ _ _ _ _ _ _ _ _ _ _ _ _ _ _ _ _ _ _ _ _ _ _ _ _ _ _ _ _ _ _ _ _ _ _ _ _ _ _ _ _ _ _ _ _ _ _ _ _ _ _ _ _ _ _ _ _ _ _ _ _
  | some r =>
    simp only
    by_cases hov : (2147483647 : Int) < r.total
    · rw [if_pos hov]
      exact an_over w W2 b v s S S0 h2 hu2 hd pb p A1 c1 A2 c2 hp2 hpS hrd2 hbig r hr hov _ _ _ _ _ _ _ _ _ _ _ _ _ _ _ _ _ _ _ _ _ _ _ _ _ _ _ _ _ _ _ _ _ _ _ _ _ _ _ _ _ _ _ _ _ _ _ _ _ _ _ _ _ _ _ _ _ _ _ _ _ _ _ _ _ _ _ _ _ _ _
    · rw [if_neg hov]
      refine an_got w W2 b v s S S0 h2 hu2 hd pb p A1 c1 A2 c2 hp2 hpS hrd2 hbig r hr hov (.pointer (some ⟨kb, 0, none⟩)) _ (fun W3 S3 A9 c9 Sf h3 hu3 hrow hp3 => ?_) _ _ _ _ _ _ _ _ _ _ _ _ _ _ _ _ _ _ _ _ _ _ _ _ _ _ _ _ _ _ _ _ _ _ _ _ _ _ _ _ _ _ _ _ _ _ _ _ _ _ _ _ _ _ _ _ _ _ _ _ _ _ _ _ _ _ _ _ _ _
      intro u1 u2 u3 u4 u6 u10 u11 u12 u13 u14 u15 u16 u17 u18 u19 u20 u21 u22 u23 u24 u25 u26 u27 u28 u29 u30 u31 u32 u33 u34 u35 u36 u37 u38 u39 u40 u41 u42 u43 u44 u45 u46 u47 u48 u49 u50 u51 u52 u53 u54 u55 u56 u57 u58 u59 u60 u61 u62 u63 u64 u65 u66 u67 u68 u69 u70 u71 u72
      cases hfs : r.fs with
      | nil =>
        exact an_empty w W3 b v s { s with tab := r.tab, most := r.most } S S3 h3 hu3 A9 c9 _ _ _ _ _ _ _ _ _ _ _ _ _ _ _ _ _ _ _ _ _ _ _ _ _ _ _ _ _ _ _ _ _ _ _ _ _ _ _ _ _ _ _ _ _ _ _ _ _ _ _ _ _ _ _ _ _ _ _ _ _ _ _ _ _ _ _ _ _ _
      | cons g t =>
        rw [hfs] at hrow
        simp only
        by_cases hn : g.name = statusB
        · by_cases hm : s.sets.table < r.most
          · rw [if_pos (.inr hm)]
            exact an_tab w W3 b v { s with tab := r.tab, most := r.most } S S3 h3 hu3 hd g t A9 c9 Sf hrow hn hm _ _ _ _ _ _ _ _ _ _ _ _ _ _ _ _ _ _ _ _ _ _ _ _ _ _ _ _ _ _ _ _ _ _ _ _ _ _ _ _ _ _ _ _ _ _ _ _ _ _ _ _ _ _ _ _ _ _ _ _ _ _ _ _ _ _ _ _ _ _
          · rw [if_neg (fun h => h.elim (fun h => h hn) hm)]
            exact an_yes w W3 b v { s with tab := r.tab, most := r.most } S S3 h3 hu3 hd g t A9 c9 Sf hrow hn hm f.stream i kb pb x hx hkb p A1 c1 A2 c2 hp3 _ _ _ _ _ _ _ _ _ _ _ _ _ _ _ _ _ _ _ _ _ _ _ _ _ _ _ _ _ _ _ _ _ _ _ _ _ _ _ _ _ _ _ _ _ _ _ _ _ _ _ _ _ _ _ _ _ _ _ _ _ _ _ _ _ _ _ _
        · rw [if_pos (.inl hn)]
          exact an_name w W3 b v { s with tab := r.tab, most := r.most } S S3 h3 hu3 g t A9 c9 Sf hrow hn _ _ _ _ _ _ _ _ _ _ _ _ _ _ _ _ _ _ _ _ _ _ _ _ _ _ _ _ _ _ _ _ _ _ _ _ _ _ _ _ _ _ _ _ _ _ _ _ _ _ _ _ _ _ _ _ _ _ _ _ _ _ _ _ _ _ _ _ _ _

set_option maxRecDepth 100000 in
set_option maxHeartbeats 1000000 in
theorem answers_any (w : World) (b : Nat) (v : Locs) (s : WatchS) (S : Own) (h : WAt w b v s S) (hd : s.dead = false) (f : FrameS) (A : Option Addr) (c : Nat) (p : PartS) (A1 : Option Addr) (c1 : Nat) (A2 : Option Addr) (c2 : Nat)
    (hrd : Rd w 1 A1 p.data.length c1 (bys p.data)) (hbig : p.data.length ≤ 1000000) :
    Calls Tryd.prog 35 #[.pointer (some ⟨b, 0, none⟩), f.v A c, p.v A1 c1 A2 c2] w (RightQ b (answersS s f p) S w) := by
  obtain ⟨W1, hW1⟩ : ∃ W1, W1 = (w.alloc (.cells #[.int .i64 f.kind, .int .i64 f.flags, .int .i64 f.stream, .slice A f.body.length c] 29)).alloc (.cells (p.cells A1 c1 A2 c2).toArray 82) := ⟨_, rfl⟩
  have hb1 : Below w.heap.size w W1 := by rw [hW1]; exact ((Below.refl _ _).alloc (Nat.le_refl _) _).alloc (by simp) _
  have hf1 : Blk W1 w.heap.size 29 [.int .i64 f.kind, .int .i64 f.flags, .int .i64 f.stream, .slice A f.body.length c] := by rw [hW1]; exact (Blk.new w _ [.int .i64 f.kind, .int .i64 f.flags, .int .i64 f.stream, .slice A f.body.length c]).alloc _
  have hp1 : Blk W1 (w.heap.size + 1) 82 (p.cells A1 c1 A2 c2) := by rw [hW1]; exact Blk.push (by simp)
  have hk1 := h.below hb1
  have hu1 : Upd S S w W1 := Upd.of_below hb1 fun _ hk => .inl hk
  have hS := h.lt
  have HLV := Lib.hid (live_any W1 b v s S hk1 f.stream)
  have HN := Lib.hid (an_none w W1 b v s S S hk1 hu1)
  have HS := Lib.hid (fun (i kb : Nat) hlv hkb => an_some w W1 b v s S S hk1 hu1 hd f w.heap.size A c hf1 (w.heap.size + 1) p A1 c1 A2 c2 hp1 (fun hk => by have := hS _ hk; omega) (hrd.grow (by omega) hb1) hbig i kb hlv hkb)
  have f2 := hf1.cell 2
  simp only [List.getElem?_cons_succ, List.getElem?_cons_zero] at f2
  have HW1 := Lib.hid hW1
  clear h hrd hbig hf1 hp1 hk1 hu1 hS hb1 hW1 hd
  cases hlv : liveS s f.stream with
  | none =>
    have hres : answersS s f p = (false, s) := by unfold answersS; rw [hlv]
    rw [hres]
    rw [hlv] at HLV
    simp only at HLV
    clear hres hlv HS
    go_enter Tryd.func35, Tryd.ntmps35
    unfold FrameS.v PartS.v
    refine wp_cut_as anBody (by kernel_rfl) 1 ?_
    show Code.wp _ _ _ _ _
    go_wp2
    show tailW _ _ _ _ _ _
    refine tail_step 1 anBody ?_
    show Code.wp _ _ _ _ _
    have hWW : (w.alloc (.cells #[.int .i64 f.kind, .int .i64 f.flags, .int .i64 f.stream, .slice A f.body.length c] 29)).alloc (.cells (p.cells A1 c1 A2 c2).toArray 82) = W1 := HW1.out.symm
    simp only [PartS.cells] at hWW
    rw [hWW]
    clear hWW
    go_wp2_with (go_at_call 52; refine HLV.out.mono ?_; rintro e w5 ⟨rfl, rfl⟩)
    show tailW _ _ _ _ _ _
    exact HN.out _ _ _ _ _ _ _ _ _ _ _ _ _ _ _ _ _ _ _ _ _ _ _ _ _ _ _ _ _ _ _ _ _ _ _ _ _ _ _ _ _ _ _ _ _ _ _ _ _ _ _ _ _ _ _ _ _ _ _ _ _ _ _ _ _ _ _ _ _ _ _
  | some i =>
    have HT := Lib.hid (fun kb hkb => HS.out i kb hlv hkb)
    rw [hlv] at HLV
    simp only at HLV
    generalize answersS s f p = res at *
    clear hlv HS HN
    go_enter Tryd.func35, Tryd.ntmps35
    unfold FrameS.v PartS.v
    refine wp_cut_as anBody (by kernel_rfl) 1 ?_
    show Code.wp _ _ _ _ _
    go_wp2
    show tailW _ _ _ _ _ _
    refine tail_step 1 anBody ?_
    show Code.wp _ _ _ _ _
    have hWW : (w.alloc (.cells #[.int .i64 f.kind, .int .i64 f.flags, .int .i64 f.stream, .slice A f.body.length c] 29)).alloc (.cells (p.cells A1 c1 A2 c2).toArray 82) = W1 := HW1.out.symm
    simp only [PartS.cells] at hWW
    rw [hWW]
    clear hWW
    go_wp2_with (go_at_call 52; refine HLV.out.mono ?_; rintro e w5 ⟨rfl, kb, hkb, rfl⟩)
    show tailW _ _ _ _ _ _
    exact HT.out kb hkb _ _ _ _ _ _ _ _ _ _ _ _ _ _ _ _ _ _ _ _ _ _ _ _ _ _ _ _ _ _ _ _ _ _ _ _ _ _ _ _ _ _ _ _ _ _ _ _ _ _ _ _ _ _ _ _ _ _ _ _ _ _ _ _ _ _ _ _ _
end Go.Proofs.YthmfifcogokpoaaDoor
namespace Go.Proofs.YthmfifcogokpoaaDoor
open Go.RowKit

/-- May a frame go out? -/
noncomputable def rightS (s : WatchS) (f : FrameS) : Bool × WatchS :=
  if (s.frames = 0 ∧ (f.kind ≠ 4 ∨ (readS f).1.ack = true)) ∨ (readS f).2.bad = true ∨ s.gone = true then (false, s)
  else if f.kind = 4 then (if (readS f).1.ack = true then appliesS s else (true, s))
  else if f.kind = 1 then (if (readS f).1.whole = true then answersS s f (readS f).1 else (false, s))
  else if f.kind = 0 then sendsS s f (readS f).1
  else if f.kind = 3 then
    match idxS s f.stream with
    | none => (false, s)
    | some i => if (strOf s i).reset = true then (false, s) else (true, { s with m := s.m.set i (f.stream, { strOf s i with reset := true }) })
  else if f.kind = 8 then
    if f.stream = 0 then (true, s)
    else match idxS s f.stream with
      | none => (false, s)
      | some i => (!(strOf s i).reset, s)
  else if f.kind = 7 then (true, { s with gone := decide ((readS f).1.code ≠ 0) })
  else (decide (f.kind = 6), s)
/-- A frame was looked at. -/
def judged (r : Bool × WatchS) : WatchS := if r.1 then { r.2 with bad := false, frames := r.2.frames + 1 } else { r.2 with bad := true }
/-- Out's loop. -/
noncomputable def outLoop : Nat → WatchS → WatchS
  | 0, s => s
  | n + 1, s =>
    if s.bad || s.blind then s
    else if (nextS 16384 s.outB).2.1 = 4 then s
    else if (nextS 16384 s.outB).2.1 = 0 then outLoop n (judged (rightS { s with outB := (nextS 16384 s.outB).2.2 } (nextS 16384 s.outB).1))
    else { s with bad := true }
noncomputable def outS (s : WatchS) (l : List UInt8) : WatchS := outLoop ((s.outB ++ l).length + 1) { s with outB := s.outB ++ l }

theorem grantedS_outB (s : WatchS) (n : Nat) (step : Int) : (grantedS s n step).outB = s.outB := by
  unfold grantedS
  repeat' split
  all_goals rfl
theorem shiftAll_outB (s : WatchS) (by_ : Int) : (shiftAll by_ s).outB = s.outB := by
  unfold shiftAll
  repeat' split
  all_goals rfl
theorem appliesS_outB (s : WatchS) : (appliesS s).2.outB = s.outB := by
  unfold appliesS
  split
  · rfl
  · simp only [shiftAll_outB]
theorem answersS_outB (s : WatchS) (f : FrameS) (p : PartS) : (answersS s f p).2.outB = s.outB := by
  unfold answersS
  repeat' split
  all_goals rfl
theorem sendsS_outB (s : WatchS) (f : FrameS) (p : PartS) : (sendsS s f p).2.outB = s.outB := by
  unfold sendsS sentTo
  repeat' split
  all_goals rfl
theorem rightS_outB (s : WatchS) (f : FrameS) : (rightS s f).2.outB = s.outB := by
  unfold rightS
  repeat' split
  all_goals first | rfl | exact appliesS_outB s | exact answersS_outB s _ _ | exact sendsS_outB s _ _
theorem judged_outB (r : Bool × WatchS) : (judged r).outB = r.2.outB := by
  unfold judged
  split <;> rfl

/-! ### What stays true -/
theorem bodRest_data (p : PartS) (pad : Nat) (b : List UInt8) : (bodRest p pad b).1.data.length ≤ b.length := by
  unfold bodRest
  split
  · simp [connS, noPart]
  · simp
theorem bodPrio_data (kind flags : Nat) (p : PartS) (pad : Nat) (b : List UInt8) : (bodPrio kind flags p pad b).1.data.length ≤ b.length := by
  unfold bodPrio
  split
  · exact bodRest_data _ _ _
  split
  · simp [connS, noPart]
  · refine Nat.le_trans (bodRest_data _ _ _) ?_
    simp
theorem readS_data (f : FrameS) : (readS f).1.data.length ≤ f.body.length := by
  unfold readS bodiedS settingsS wholeS updateS
  repeat' split
  all_goals first | (simp [connS, streamS, noPart]; done) | exact bodPrio_data _ _ _ _ _ | (refine Nat.le_trans (bodPrio_data _ _ _ _ _) ?_; simp; done)
theorem answersS_ok {B : Nat} {s : WatchS} (h : WOk B s) (f : FrameS) (p : PartS) : WOk B (answersS s f p).2 := by
  have key : ∀ (tab : List FieldS) (most : Int) (dead : Bool), WOk B { s with tab := tab, most := most, dead := dead } := fun _ _ _ => ⟨h.head, h.inB, h.outB, h.data, h.keys, h.wins, h.win, h.sets⟩
  unfold answersS
  split
  · exact h
  rename_i i hi
  obtain ⟨x, hx⟩ := liveS_at hi
  split
  · exact h
  split
  · exact key _ _ _
  rename_i r hr
  split
  · exact key _ _ _
  split
  · exact key _ _ _
  split
  · exact key _ _ _
  · rw [strOf_at hx]
    exact setM_ok (key r.tab r.most s.dead) (i := i) (n := f.stream) (x := x) hx _ (h.data _ (List.mem_of_getElem? hx)) (h.wins _ (List.mem_of_getElem? hx))
theorem sendsS_ok {B : Nat} {s : WatchS} (h : WOk B s) (f : FrameS) (p : PartS) (hd : ∀ x ∈ s.m, x.2.data.length + p.data.length + s.outB.length ≤ B) (hf : f.body.length ≤ 1000000000) : WOk B (sendsS s f p).2 := by
  have key : ∀ (i : Nat) (x : StrS) (a c : Int), s.m[i]? = some (f.stream, x) → W a → W c → WOk B (sentTo s i f.stream a c p) := fun i x a c hx ha hc => by
    have h2 : WOk B { s with window := c } := ⟨h.head, h.inB, h.outB, h.data, h.keys, h.wins, hc, h.sets⟩
    unfold sentTo
    rw [strOf_at hx]
    refine setM_ok h2 (i := i) (n := f.stream) (x := x) hx _ ?_ ha
    have := hd _ (List.mem_of_getElem? hx)
    simpa using this
  unfold sendsS
  split
  · exact h
  rename_i i hi
  obtain ⟨x, hx⟩ := liveS_at hi
  split
  · exact h
  split
  · exact key i x _ _ hx (cutW_W _) (cutW_W _)
  split
  · exact h
  · have h1 := cutW_W (strOf s i).window
    have h2 := cutW_W s.window
    refine key i x _ _ hx ?_ ?_
    all_goals
      unfold spendS
      split
      · simp [W]
      · unfold W at *; simp only; omega
theorem rightS_ok {B : Nat} {s : WatchS} (h : WOk B s) (f : FrameS) (hd : ∀ x ∈ s.m, x.2.data.length + f.body.length + s.outB.length ≤ B) (hf : f.body.length ≤ 1000000000) : WOk B (rightS s f).2 := by
  have hp := readS_data f
  unfold rightS
  split
  · exact h
  split
  · split
    · exact appliesS_ok h
    · exact h
  split
  · split
    · exact answersS_ok h _ _
    · exact h
  split
  · exact sendsS_ok h _ _ (fun x hx => by have := hd x hx; omega) hf
  split
  · split
    · exact h
    rename_i i hi
    obtain ⟨x, hx⟩ := idxS_at hi
    split
    · exact h
    · rw [strOf_at hx]
      exact setM_ok h (i := i) (n := f.stream) (x := x) hx _ (h.data _ (List.mem_of_getElem? hx)) (h.wins _ (List.mem_of_getElem? hx))
  split
  · split
    · exact h
    split <;> exact h
  split
  · exact ⟨h.head, h.inB, h.outB, h.data, h.keys, h.wins, h.win, h.sets⟩
  · exact h
theorem appliesS_frames (s : WatchS) : (appliesS s).2.frames = s.frames := by
  unfold appliesS shiftAll
  repeat' split
  all_goals rfl
theorem answersS_frames (s : WatchS) (f : FrameS) (p : PartS) : (answersS s f p).2.frames = s.frames := by
  unfold answersS
  repeat' split
  all_goals rfl
theorem sendsS_frames (s : WatchS) (f : FrameS) (p : PartS) : (sendsS s f p).2.frames = s.frames := by
  unfold sendsS sentTo
  repeat' split
  all_goals rfl
theorem rightS_frames (s : WatchS) (f : FrameS) : (rightS s f).2.frames = s.frames := by
  unfold rightS
  repeat' split
  all_goals first | rfl | exact appliesS_frames s | exact answersS_frames s _ _ | exact sendsS_frames s _ _
theorem judged_ok {B : Nat} {r : Bool × WatchS} (h : WOk B r.2) (hf : r.2.outB.length + r.2.frames + 1 ≤ B) : WOk B (judged r) := by
  unfold judged
  split
  · exact ⟨h.head, h.inB, by simp only; omega, h.data, h.keys, h.wins, h.win, h.sets⟩
  · exact ⟨h.head, h.inB, h.outB, h.data, h.keys, h.wins, h.win, h.sets⟩
/-- A frame was taken. -/
theorem taken_ok {B : Nat} {s : WatchS} (h : WOk B s) (hB : B ≤ 1000000000) (h0 : (nextS 16384 s.outB).2.1 = 0) : WOk B (judged (rightS { s with outB := (nextS 16384 s.outB).2.2 } (nextS 16384 s.outB).1)) := by
  rcases nextS_cases s.outB 16384 (by omega) with ⟨h1, -⟩ | ⟨h1, -⟩ | ⟨h1, h2, h3, h4, h5⟩
  · rw [h1] at h0; cases h0
  · rw [h1] at h0; cases h0
  · have ho := h.outB
    have hk : WOk B { s with outB := (nextS 16384 s.outB).2.2 } := ⟨h.head, h.inB, by simp only; omega, fun x hx => by have := h.data x hx; simp only; omega, h.keys, h.wins, h.win, h.sets⟩
    refine judged_ok (rightS_ok hk _ (fun x hx => ?_) (by omega)) ?_
    · have := h.data x hx; simp only; omega
    · rw [rightS_outB, rightS_frames]; simp only; omega
theorem outLoop_ok {B : Nat} (hB : B ≤ 1000000000) : ∀ (n : Nat) {s : WatchS}, WOk B s → WOk B (outLoop n s)
  | 0, _, h => h
  | n + 1, s, h => by
    unfold outLoop
    split
    · exact h
    split
    · exact h
    split
    · rename_i h0
      exact outLoop_ok hB n (taken_ok h hB h0)
    · exact ⟨h.head, h.inB, h.outB, h.data, h.keys, h.wins, h.win, h.sets⟩
theorem outFed_ok {B : Nat} {s : WatchS} (h : WOk B s) (l : List UInt8) : WOk (B + l.length) { s with outB := s.outB ++ l } :=
  ⟨h.head, by have := h.inB; simp only; omega, by have := h.outB; simp only [List.length_append]; omega, fun x hx => by have := h.data x hx; simp only [List.length_append]; omega, h.keys, h.wins, h.win, h.sets⟩
theorem outS_ok {B : Nat} {s : WatchS} (h : WOk B s) (l : List UInt8) (hB : B + l.length ≤ 1000000000) : WOk (B + l.length) (outS s l) := outLoop_ok hB _ (outFed_ok h l)

/-! ### Blind ones -/
theorem Sim.sym {s s' : WatchS} (h : Sim s s') : s' = s ∨ (s.blind = true ∧ s'.blind = true) := by
  rcases h with rfl | ⟨h, m', -, rfl⟩
  · exact .inl rfl
  · exact .inr ⟨h, h⟩
theorem SameBut.trans {a b c : List (Nat × StrS)} (h : SameBut a b) (k : SameBut b c) : SameBut a c := ⟨h.1.trans k.1, k.2⟩
theorem Sim.trans {a b c : WatchS} (h : Sim a b) (k : Sim b c) : Sim a c := by
  rcases h with rfl | ⟨h, m', hm, rfl⟩
  · exact k
  · rcases k with rfl | ⟨k, m2, km, rfl⟩
    · exact .inr ⟨h, m', hm, rfl⟩
    · exact .inr ⟨h, m2, hm.trans km, rfl⟩
theorem outLoop_blind (n : Nat) {s : WatchS} (h : s.blind = true) : outLoop n s = s := by
  cases n with
  | zero => rfl
  | succ n => unfold outLoop; rw [if_pos (by simp [h])]
theorem inLoop_blind (n : Nat) {s : WatchS} (h : s.blind = true) : inLoop n s = s := by
  cases n with
  | zero => rfl
  | succ n => unfold inLoop; rw [if_pos (by simp [h])]
theorem Sim.loop {s s' : WatchS} (h : Sim s s') (n : Nat) : Sim (outLoop n s) (outLoop n s') := by
  rcases h with rfl | ⟨h, m', hm, rfl⟩
  · exact Sim.refl _
  · rw [outLoop_blind n h, outLoop_blind n (s := { s with m := m' }) h]
    exact .inr ⟨h, m', hm, rfl⟩
theorem Sim.judged {x : Bool} {s s' : WatchS} (h : Sim s s') : Sim (judged (x, s)) (judged (x, s')) := by
  rcases h with rfl | ⟨h, m', hm, rfl⟩
  · exact Sim.refl _
  · unfold Go.Proofs.YthmfifcogokpoaaDoor.judged
    cases x
    · exact .inr ⟨h, m', hm, rfl⟩
    · exact .inr ⟨h, m', hm, rfl⟩
theorem Sim.outS {s s' : WatchS} (h : Sim s s') (l : List UInt8) : Sim (outS s l) (outS s' l) := by
  rcases h with rfl | ⟨h, m', hm, rfl⟩
  · exact Sim.refl _
  · unfold Go.Proofs.YthmfifcogokpoaaDoor.outS
    rw [outLoop_blind _ (s := { s with outB := s.outB ++ l }) h, outLoop_blind _ (s := { s with m := m', outB := s.outB ++ l }) h]
    exact .inr ⟨h, m', hm, rfl⟩
theorem Sim.inS {s s' : WatchS} (h : Sim s s') (l : List UInt8) : Sim (inS s l) (inS s' l) := by
  rcases h with rfl | ⟨h, m', hm, rfl⟩
  · exact Sim.refl _
  · unfold Go.Proofs.YthmfifcogokpoaaDoor.inS
    rw [inLoop_blind _ (s := takeS s l) h, inLoop_blind _ (s := takeS { s with m := m' } l) h]
    exact .inr ⟨h, m', hm, rfl⟩
theorem Sim.bad {s s' : WatchS} (h : Sim s s') : s'.bad = s.bad := by rcases h with rfl | ⟨h, m', hm, rfl⟩ <;> rfl
theorem Sim.frames {s s' : WatchS} (h : Sim s s') : s'.frames = s.frames := by rcases h with rfl | ⟨h, m', hm, rfl⟩ <;> rfl
theorem sentS_same {m m' : List (Nat × StrS)} (h : SameBut m m') (s : WatchS) (n : Nat) : sentS { s with m := m' } n = sentS { s with m := m } n := by
  have hk := h.keys
  have hi : idxS { s with m := m' } n = idxS { s with m := m } n := by
    have e : ∀ l : List (Nat × StrS), l.findIdx? (fun x => x.1 == n) = (l.map (·.1)).findIdx? (fun x => x == n) := fun l => by
      rw [List.findIdx?_map]; rfl
    simp only [idxS]
    rw [e, e, hk]
  unfold sentS
  rw [hi]
  split
  · rfl
  · rename_i i hh
    obtain ⟨x, hx⟩ := idxS_at hh
    obtain ⟨win, hw⟩ := h.get hx
    rw [strOf_at (s := { s with m := m }) hx, strOf_at (s := { s with m := m' }) hw]
theorem Sim.sent {s s' : WatchS} (h : Sim s s') (n : Nat) : sentS s' n = sentS s n := by
  rcases h with rfl | ⟨h, m', hm, rfl⟩
  · rfl
  · exact sentS_same hm s n
end Go.Proofs.YthmfifcogokpoaaDoor
namespace Go.Proofs.YthmfifcogokpoaaDoor
open Go.RowKit

/-- The bytes that wait, others. -/
abbrev WatchS.withIn (s : WatchS) (l : List UInt8) : WatchS := { s with inB := l }
abbrev WatchS.withOut (s : WatchS) (l : List UInt8) : WatchS := { s with outB := l }

theorem hearsS_in (s : WatchS) (f : FrameS) (l : List UInt8) : hearsS (s.withIn l) f = (hearsS s f).withIn l := by
  unfold hearsS grantedS
  simp only [idxS, strOf]
  repeat' split
  all_goals rfl
theorem appliesS_out (s : WatchS) (l : List UInt8) : appliesS (s.withOut l) = ((appliesS s).1, (appliesS s).2.withOut l) := by
  unfold appliesS
  simp only
  split
  · rfl
  · simp only [Prod.mk.injEq, true_and]
    unfold shiftAll
    simp only
    repeat' split
    all_goals rfl
theorem answersS_out (s : WatchS) (f : FrameS) (p : PartS) (l : List UInt8) : answersS (s.withOut l) f p = ((answersS s f p).1, (answersS s f p).2.withOut l) := by
  have e1 : liveS { s with outB := l } f.stream = liveS s f.stream := rfl
  have e2 : ∀ i, strOf { s with outB := l } i = strOf s i := fun _ => rfl
  unfold answersS WatchS.withOut
  simp only [e1, e2]
  cases liveS s f.stream with
  | none => rfl
  | some i =>
    simp only
    split
    · rfl
    cases blockS 2147483647 s.tab s.most p.data with
    | none => rfl
    | some r =>
      simp only
      split
      · rfl
      cases r.fs with
      | nil => rfl
      | cons g t => simp only; split <;> rfl
theorem sendsS_out (s : WatchS) (f : FrameS) (p : PartS) (l : List UInt8) : sendsS (s.withOut l) f p = ((sendsS s f p).1, (sendsS s f p).2.withOut l) := by
  have e1 : liveS { s with outB := l } f.stream = liveS s f.stream := rfl
  have e2 : ∀ i, strOf { s with outB := l } i = strOf s i := fun _ => rfl
  unfold sendsS sentTo WatchS.withOut
  simp only [e1, e2]
  cases liveS s f.stream with
  | none => rfl
  | some i =>
    simp only
    split
    · rfl
    split
    · rfl
    split <;> rfl
theorem rightS_out (s : WatchS) (f : FrameS) (l : List UInt8) : rightS (s.withOut l) f = ((rightS s f).1, (rightS s f).2.withOut l) := by
  have e1 : idxS { s with outB := l } f.stream = idxS s f.stream := rfl
  have e2 : ∀ i, strOf { s with outB := l } i = strOf s i := fun _ => rfl
  have e3 := appliesS_out s l
  have e4 := answersS_out s f (readS f).1 l
  have e5 := sendsS_out s f (readS f).1 l
  unfold WatchS.withOut at *
  unfold rightS
  simp only [e1, e2, e3, e4, e5]
  split
  · rfl
  split
  · split <;> rfl
  split
  · split <;> rfl
  split
  · rfl
  split
  · cases idxS s f.stream with
    | none => rfl
    | some i => simp only; split <;> rfl
  split
  · split
    · rfl
    cases idxS s f.stream <;> rfl
  split <;> rfl
theorem judged_out (r : Bool × WatchS) (l : List UInt8) : judged (r.1, r.2.withOut l) = (judged r).withOut l := by
  unfold judged
  split <;> rfl

/-- More bytes behind it. -/
theorem nextS_more (room : Int) (l x : List UInt8) (h : (nextS room l).2.1 ≠ 4) : nextS room (l ++ x) = ((nextS room l).1, (nextS room l).2.1, (nextS room l).2.2 ++ x) := by
  unfold nextS at h ⊢
  by_cases h1 : l.length < 9
  · rw [if_pos h1] at h; simp at h
  rw [if_neg h1] at h ⊢
  have hg : ∀ j, j < 9 → (l ++ x).getD j 0 = l.getD j 0 := fun j hj => by
    simp only [List.getD_eq_getElem?_getD]
    rw [List.getElem?_append_left (by omega)]
  have hn3 : num3 (l ++ x) = num3 l := by
    unfold num3
    rw [hg 0 (by omega), hg 1 (by omega), hg 2 (by omega)]
  have hd : ∀ j, j ≤ l.length → (l ++ x).drop j = l.drop j ++ x := fun j hj => List.drop_append_of_le_length hj
  have hn4 : num4 ((l ++ x).drop 5) = num4 (l.drop 5) := by
    rw [hd 5 (by omega)]
    unfold num4
    have hg2 : ∀ j, j < 4 → (l.drop 5 ++ x).getD j 0 = (l.drop 5).getD j 0 := fun j hj => by
      simp only [List.getD_eq_getElem?_getD]
      rw [List.getElem?_append_left (by simp; omega)]
    rw [hg2 0 (by omega), hg2 1 (by omega), hg2 2 (by omega), hg2 3 (by omega)]
  rw [if_neg (by rw [List.length_append]; omega), hn3]
  by_cases h2 : room < num3 l
  · rw [if_pos h2, if_pos h2]
  rw [if_neg h2] at h ⊢
  rw [if_neg h2]
  by_cases h3 : l.length - 9 < num3 l
  · rw [if_pos h3] at h; simp at h
  rw [if_neg h3, if_neg (by rw [List.length_append]; omega), hg 3 (by omega), hg 4 (by omega), hn4, hd 9 (by omega), hd (9 + num3 l) (by omega)]
  rw [List.take_append_of_le_length (by simp; omega)]

/-! ### Fuel -/
theorem nextS_shrinks {room : Int} {l : List UInt8} (hr : room ≤ 1000000000000) (h : (nextS room l).2.1 = 0) : (nextS room l).2.2.length < l.length := by
  rcases nextS_cases l room hr with ⟨h1, -⟩ | ⟨h1, -⟩ | ⟨h1, h2, -⟩
  · rw [h1] at h; cases h
  · rw [h1] at h; cases h
  · omega
theorem inLoop_fuel : ∀ (n m : Nat) (s : WatchS), s.inB.length < n → s.inB.length < m → inLoop n s = inLoop m s
  | 0, _, _, h, _ => by omega
  | _ + 1, 0, _, _, h => by omega
  | n + 1, m + 1, s, h1, h2 => by
    unfold inLoop
    split
    · rfl
    split
    · rfl
    split
    · rename_i h0
      have h3 := nextS_shrinks (by omega) h0
      refine inLoop_fuel n m _ ?_ ?_ <;> (rw [hearsS_inB]; simp only; omega)
    · rfl
theorem outLoop_fuel : ∀ (n m : Nat) (s : WatchS), s.outB.length < n → s.outB.length < m → outLoop n s = outLoop m s
  | 0, _, _, h, _ => by omega
  | _ + 1, 0, _, _, h => by omega
  | n + 1, m + 1, s, h1, h2 => by
    unfold outLoop
    split
    · rfl
    split
    · rfl
    split
    · rename_i h0
      have h3 := nextS_shrinks (by omega) h0
      refine outLoop_fuel n m _ ?_ ?_ <;> (rw [judged_outB, rightS_outB]; simp only; omega)
    · rfl
def runIn (s : WatchS) : WatchS := inLoop (s.inB.length + 1) s
noncomputable def runOut (s : WatchS) : WatchS := outLoop (s.outB.length + 1) s
theorem inS_run (s : WatchS) (l : List UInt8) : inS s l = runIn (takeS s l) := rfl
theorem outS_run (s : WatchS) (l : List UInt8) : outS s l = runOut (s.withOut (s.outB ++ l)) := rfl
theorem runIn_next {s : WatchS} (h1 : s.deaf = false) (h2 : s.blind = false) (h0 : (nextS 16384 s.inB).2.1 = 0) : runIn s = runIn (hearsS (s.withIn (nextS 16384 s.inB).2.2) (nextS 16384 s.inB).1) := by
  have h3 := nextS_shrinks (by omega) h0
  have e : ({ s with inB := (nextS 16384 s.inB).2.2, deaf := false } : WatchS) = s.withIn (nextS 16384 s.inB).2.2 := by
    cases s; simp only at h1; subst h1; rfl
  unfold runIn
  rw [inLoop, if_neg (by simp [h1, h2]), if_neg (by rw [h0]; decide), if_pos h0, e]
  refine inLoop_fuel _ _ _ ?_ ?_ <;> (rw [hearsS_inB]; simp only; omega)
theorem runOut_next {s : WatchS} (h1 : s.bad = false) (h2 : s.blind = false) (h0 : (nextS 16384 s.outB).2.1 = 0) : runOut s = runOut (judged (rightS (s.withOut (nextS 16384 s.outB).2.2) (nextS 16384 s.outB).1)) := by
  have h3 := nextS_shrinks (by omega) h0
  unfold runOut
  rw [outLoop, if_neg (by simp [h1, h2]), if_neg (by rw [h0]; decide), if_pos h0]
  refine outLoop_fuel _ _ _ ?_ ?_ <;> (rw [judged_outB, rightS_outB]; simp only; omega)
theorem runIn_stop {s : WatchS} (h : s.deaf = true ∨ s.blind = true) : runIn s = s := by
  unfold runIn inLoop
  rw [if_pos (by simpa using h)]
theorem runOut_stop {s : WatchS} (h : s.bad = true ∨ s.blind = true) : runOut s = s := by
  unfold runOut outLoop
  rw [if_pos (by simpa using h)]
theorem runIn_short {s : WatchS} (h0 : (nextS 16384 s.inB).2.1 = 4) : runIn s = s := by
  unfold runIn inLoop
  split
  · rfl
  · first | rfl | rw [if_pos h0]
theorem runOut_short {s : WatchS} (h0 : (nextS 16384 s.outB).2.1 = 4) : runOut s = s := by
  unfold runOut outLoop
  split
  · rfl
  · first | rfl | rw [if_pos h0]
theorem runIn_long {s : WatchS} (h1 : s.deaf = false) (h2 : s.blind = false) (h3 : (nextS 16384 s.inB).2.1 ≠ 4) (h0 : (nextS 16384 s.inB).2.1 ≠ 0) : runIn s = { s with deaf := true } := by
  unfold runIn inLoop
  rw [if_neg (by simp [h1, h2]), if_neg h3, if_neg h0]
theorem runOut_long {s : WatchS} (h1 : s.bad = false) (h2 : s.blind = false) (h3 : (nextS 16384 s.outB).2.1 ≠ 4) (h0 : (nextS 16384 s.outB).2.1 ≠ 0) : runOut s = { s with bad := true } := by
  unfold runOut outLoop
  rw [if_neg (by simp [h1, h2]), if_neg h3, if_neg h0]
theorem runIn_more : ∀ (n : Nat) (s : WatchS) (x : List UInt8), s.inB.length ≤ n → runIn ((runIn s).withIn ((runIn s).inB ++ x)) = runIn (s.withIn (s.inB ++ x))
  | n, s, x, hn => by
    by_cases hs : s.deaf = true ∨ s.blind = true
    · rw [runIn_stop hs]
    have h1 : s.deaf = false := by cases h : s.deaf <;> simp_all
    have h2 : s.blind = false := by cases h : s.blind <;> simp_all
    by_cases h4 : (nextS 16384 s.inB).2.1 = 4
    · rw [runIn_short h4]
    have hm := nextS_more 16384 s.inB x h4
    by_cases h0 : (nextS 16384 s.inB).2.1 = 0
    · have h3 := nextS_shrinks (by omega) h0
      rw [runIn_next h1 h2 h0, runIn_next (s := s.withIn (s.inB ++ x)) h1 h2 (by rw [hm]; exact h0)]
      simp only [hm]
      match n with
      | 0 => omega
      | n + 1 =>
        rw [runIn_more n _ x (by rw [hearsS_inB]; simp only; omega), hearsS_inB]
        congr 1
        exact (hearsS_in (s.withIn _) _ _).symm
    · rw [runIn_long h1 h2 h4 h0, runIn_long (s := s.withIn (s.inB ++ x)) h1 h2 (by rw [hm]; exact h4) (by rw [hm]; exact h0)]
      exact runIn_stop (.inl rfl)
theorem runOut_more : ∀ (n : Nat) (s : WatchS) (x : List UInt8), s.outB.length ≤ n → runOut ((runOut s).withOut ((runOut s).outB ++ x)) = runOut (s.withOut (s.outB ++ x))
  | n, s, x, hn => by
    by_cases hs : s.bad = true ∨ s.blind = true
    · rw [runOut_stop hs]
    have h1 : s.bad = false := by cases h : s.bad <;> simp_all
    have h2 : s.blind = false := by cases h : s.blind <;> simp_all
    by_cases h4 : (nextS 16384 s.outB).2.1 = 4
    · rw [runOut_short h4]
    have hm := nextS_more 16384 s.outB x h4
    by_cases h0 : (nextS 16384 s.outB).2.1 = 0
    · have h3 := nextS_shrinks (by omega) h0
      rw [runOut_next h1 h2 h0, runOut_next (s := s.withOut (s.outB ++ x)) h1 h2 (by rw [hm]; exact h0)]
      simp only [hm]
      match n with
      | 0 => omega
      | n + 1 =>
        rw [runOut_more n _ x (by rw [judged_outB, rightS_outB]; simp only; omega), judged_outB, rightS_outB]
        congr 1
        have e := rightS_out (s.withOut (nextS 16384 s.outB).2.2) (nextS 16384 s.outB).1 ((nextS 16384 s.outB).2.2 ++ x)
        rw [show (s.withOut (s.outB ++ x)).withOut ((nextS 16384 s.outB).2.2 ++ x) = (s.withOut (nextS 16384 s.outB).2.2).withOut ((nextS 16384 s.outB).2.2 ++ x) from rfl, e]
        exact (judged_out _ _).symm
    · rw [runOut_long h1 h2 h4 h0, runOut_long (s := s.withOut (s.outB ++ x)) h1 h2 (by rw [hm]; exact h4) (by rw [hm]; exact h0)]
      exact runOut_stop (.inl rfl)
theorem hearsS_head (s : WatchS) (f : FrameS) : (hearsS s f).head = s.head := by
  unfold hearsS grantedS
  repeat' split
  all_goals rfl
theorem hearsS_withHead (s : WatchS) (f : FrameS) (n : Nat) : hearsS { s with head := n } f = { hearsS s f with head := n } := by
  unfold hearsS grantedS
  simp only [idxS, strOf]
  repeat' split
  all_goals rfl
theorem inLoop_withHead : ∀ (n : Nat) (s : WatchS) (k : Nat), inLoop n { s with head := k } = { inLoop n s with head := k }
  | 0, _, _ => rfl
  | n + 1, s, k => by
    unfold inLoop
    simp only
    split
    · rfl
    split
    · rfl
    split
    · have e := hearsS_withHead { s with inB := (nextS 16384 s.inB).2.2, deaf := false } (nextS 16384 s.inB).1 k
      simp only at e
      rw [e, inLoop_withHead n]
    · rfl
theorem inLoop_head : ∀ (n : Nat) (s : WatchS), (inLoop n s).head = s.head
  | 0, _ => rfl
  | n + 1, s => by
    unfold inLoop
    split
    · rfl
    split
    · rfl
    split
    · rw [inLoop_head n, hearsS_head]
    · rfl
abbrev WatchS.withHead (s : WatchS) (n : Nat) : WatchS := { s with head := n }
theorem runIn_head (s : WatchS) (k : Nat) : runIn (s.withHead k) = (runIn s).withHead k := inLoop_withHead _ s k
/-- In: in whatever pieces. -/
theorem inS_append (s : WatchS) (a b : List UInt8) : inS (inS s a) b = inS s (a ++ b) := by
  rw [inS_run, inS_run, inS_run]
  have hh : (runIn (takeS s a)).head = s.head + min (24 - s.head) a.length := inLoop_head _ _
  have e1 : takeS (runIn (takeS s a)) b = ((runIn (takeS s a)).withIn ((runIn (takeS s a)).inB ++ b.drop (min (24 - (s.head + min (24 - s.head) a.length)) b.length))).withHead (s.head + min (24 - s.head) (a ++ b).length) := by
    have e : s.head + min (24 - s.head) a.length + min (24 - (s.head + min (24 - s.head) a.length)) b.length = s.head + min (24 - s.head) (a ++ b).length := by
      rw [List.length_append]; omega
    rw [← e, ← hh]
    rfl
  have e2 : takeS s (a ++ b) = ((takeS s a).withIn ((takeS s a).inB ++ b.drop (min (24 - (s.head + min (24 - s.head) a.length)) b.length))).withHead (s.head + min (24 - s.head) (a ++ b).length) := by
    have e : (a ++ b).drop (min (24 - s.head) (a ++ b).length) = a.drop (min (24 - s.head) a.length) ++ b.drop (min (24 - (s.head + min (24 - s.head) a.length)) b.length) := by
      by_cases h : 24 - s.head ≤ a.length
      · have m1 : min (24 - s.head) a.length = 24 - s.head := by omega
        have m2 : min (24 - s.head) (a ++ b).length = 24 - s.head := by rw [List.length_append]; omega
        have m3 : min (24 - (s.head + (24 - s.head))) b.length = 0 := by omega
        rw [m1, m2, m3, List.drop_append_of_le_length h, List.drop_zero]
      · have m1 : min (24 - s.head) a.length = a.length := by omega
        have m2 : min (24 - s.head) (a ++ b).length = a.length + min (24 - (s.head + a.length)) b.length := by rw [List.length_append]; omega
        rw [m1, m2, List.drop_length, List.nil_append, List.drop_append, List.drop_eq_nil_of_le (by omega), List.nil_append]
        congr 1
        omega
    show { s with head := _, inB := _ } = _
    rw [e, ← List.append_assoc]
    rfl
  rw [e1, e2]
  exact (runIn_head _ _).trans ((congrArg (fun t => WatchS.withHead t _) (runIn_more _ _ _ (Nat.le_refl _))).trans (runIn_head _ _).symm)
/-- Out: in whatever pieces. -/
theorem outS_append (s : WatchS) (a b : List UInt8) : outS (outS s a) b = outS s (a ++ b) := by
  rw [outS_run, outS_run, outS_run, runOut_more _ _ _ (Nat.le_refl _), List.append_assoc]
end Go.Proofs.YthmfifcogokpoaaDoor
