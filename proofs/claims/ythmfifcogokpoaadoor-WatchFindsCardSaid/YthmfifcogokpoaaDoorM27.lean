/- What is proved here: contracts of the program's functions and plain lemmas that the claim's last text uses, in parts: package watch: right, its first tests and the kinds that turn little; package watch: right, Rst, Update, Goaway; package watch: right, whole. -/
import Derived.Test.YthmfifcogokpoaaDoorM26
set_option linter.unusedVariables false
set_option linter.unusedSimpArgs false
namespace Go.Proofs.YthmfifcogokpoaaDoor
open Go.RowKit
open Go.ChangeMaps (setBlock)

noncomputable def riBody : Code := Tryd.f28.body.getD .skip
abbrev RiP (b : Nat) (r : Bool × WatchS) (S : Own) (w : World) : Exit → Act → World → Prop := bodyPost Tryd.prog Tryd.f28 (RightQ b r S w)
theorem RightQ.same {w W : World} {b : Nat} {v : Locs} {s : WatchS} {S S0 : Own} (x : Bool) (h : WAt W b v s S0) (hu : Upd S S0 w W) : RightQ b (x, s) S w (.returned (.bool x)) W := ⟨rfl, v, S0, s, Sim.refl s, h, hu⟩

set_option maxRecDepth 100000 in
theorem ri_no (w W : World) (b : Nat) (v : Locs) (s : WatchS) (S : Own) (f : FrameS) (r : PartS × Fault) (A : Option Addr) (c : Nat) (A1 : Option Addr) (c1 : Nat) (A2 : Option Addr) (c2 : Nat) (fb pb xb : Nat) (S1 S2 : Own) (hM : ReadM w W b v s S f r A c A1 c1 A2 c2 fb pb xb S1 S2) (fst : Bool)
    (hno : (fst = true ∧ (f.kind ≠ 4 ∨ r.1.ack = true)) ∨ r.2.bad = true ∨ s.gone = true) (u1 u2 u4 u8 u9 u10 u11 u12 u13 u14 u15 u16 u17 u18 u19 u20 u21 u22 u23 u24 u25 u26 u27 u28 u29 u30 u31 u32 u33 u34 u35 u36 u37 u38 u39 u40 u41 u42 u43 u44 u45 u46 u47 u48 u49 u50 u51 u52 u53 u54 u55 u56 u57 u58 u59 u60 u61 u62 u63 u64 u65 u66 u67 u68 u69 u70 u71 u72 u73 u74 u75 u76 u77 u78 u79 u80 u81 u82 u83 u84 u85 u86 u87 u88 u89 u90 u91 u92 u93 u94 u95 u96 u97 u98 u99 u100 u101 u102 u103 u104 u105 u106 u107 u108 u109 u110 u111 u112 u113 u114 u115 u116 u117 : Value) :
    tailW Tryd.prog 3 riBody (RiP b (false, s) S w) ⟨#[.pointer (some ⟨b, 0, none⟩), u1, u2, .pointer (some ⟨fb, 0, none⟩), u4, .pointer (some ⟨pb, 0, none⟩), .pointer (some ⟨xb, 0, none⟩), .bool fst, u8, u9, u10, u11, u12, u13, u14, u15, u16, u17, u18, u19, u20, u21, u22, u23, u24, u25, u26, u27, u28, u29, u30, u31, u32, u33, u34, u35, u36, u37, u38, u39, u40, u41, u42, u43, u44, u45, u46, u47, u48, u49, u50, u51, u52, u53, u54, u55, u56, u57, u58, u59, u60, u61, u62, u63, u64, u65, u66, u67, u68, u69, u70, u71, u72, u73, u74, u75, u76, u77, u78, u79, u80, u81, u82, u83, u84, u85, u86, u87, u88, u89, u90, u91, u92, u93, u94, u95, u96, u97, u98, u99, u100, u101, u102, u103, u104, u105, u106, u107, u108, u109, u110, u111, u112, u113, u114, u115, u116, u117], []⟩ W := by
  have f0 := hM.f.cell 0
  have p7 := hM.p.cell 7
  have x0 := hM.x.cell 0
  have w18 := hM.wat.blk.cell 18
  simp only [PartS.cells, WatchS.cells, List.getElem?_cons_succ, List.getElem?_cons_zero] at f0 p7 x0 w18
  have HM := Lib.hid hM
  clear hM
  obtain ⟨⟨pd, pp, pc, pl, ps, pt, pf, pa, pw⟩, ⟨bad, q1, q2⟩⟩ := r
  obtain ⟨gone, hgone⟩ : ∃ g, s.gone = g := ⟨_, rfl⟩
  rw [hgone] at w18 hno
  have HGO := Lib.hid hgone
  clear hgone
  simp only at *
  have walk : ∀ (k4 : Bool), ((f.kind : Int) != 4) = k4 → (fst = true ∧ (k4 = true ∨ pa = true)) ∨ bad = true ∨ gone = true → tailW Tryd.prog 3 riBody (RiP b (false, s) S w) ⟨#[.pointer (some ⟨b, 0, none⟩), u1, u2, .pointer (some ⟨fb, 0, none⟩), u4, .pointer (some ⟨pb, 0, none⟩), .pointer (some ⟨xb, 0, none⟩), .bool fst, u8, u9, u10, u11, u12, u13, u14, u15, u16, u17, u18, u19, u20, u21, u22, u23, u24, u25, u26, u27, u28, u29, u30, u31, u32, u33, u34, u35, u36, u37, u38, u39, u40, u41, u42, u43, u44, u45, u46, u47, u48, u49, u50, u51, u52, u53, u54, u55, u56, u57, u58, u59, u60, u61, u62, u63, u64, u65, u66, u67, u68, u69, u70, u71, u72, u73, u74, u75, u76, u77, u78, u79, u80, u81, u82, u83, u84, u85, u86, u87, u88, u89, u90, u91, u92, u93, u94, u95, u96, u97, u98, u99, u100, u101, u102, u103, u104, u105, u106, u107, u108, u109, u110, u111, u112, u113, u114, u115, u116, u117], []⟩ W := by
    intro k4 tk hc
    cases fst with
    | false =>
      cases bad with
      | true =>
        clear hc hno
        show Code.wp _ _ _ _ _
        go_wp2
        go_ret
        exact RightQ.same false HM.out.wat HM.out.upd
      | false =>
        obtain rfl : gone = true := by simpa using hc
        clear hc hno
        show Code.wp _ _ _ _ _
        go_wp2
        go_ret
        exact RightQ.same false HM.out.wat HM.out.upd
    | true =>
      cases k4 with
      | true =>
        clear hc hno
        show Code.wp _ _ _ _ _
        go_wp2
        go_ret
        exact RightQ.same false HM.out.wat HM.out.upd
      | false =>
        cases pa with
        | true =>
          clear hc hno
          show Code.wp _ _ _ _ _
          go_wp2
          go_ret
          exact RightQ.same false HM.out.wat HM.out.upd
        | false =>
          cases bad with
          | true =>
            clear hc hno
            show Code.wp _ _ _ _ _
            go_wp2
            go_ret
            exact RightQ.same false HM.out.wat HM.out.upd
          | false =>
            obtain rfl : gone = true := by simpa using hc
            clear hc hno
            show Code.wp _ _ _ _ _
            go_wp2
            go_ret
            exact RightQ.same false HM.out.wat HM.out.upd
  refine walk _ rfl ?_
  rcases hno with ⟨h1, h2⟩ | h
  · refine .inl ⟨h1, h2.imp (fun h => bne_iff_ne.2 (by omega)) id⟩
  · exact .inr h

set_option maxRecDepth 100000 in
theorem ri_yes (w W : World) (b : Nat) (v : Locs) (s : WatchS) (S : Own) (f : FrameS) (r : PartS × Fault) (A : Option Addr) (c : Nat) (A1 : Option Addr) (c1 : Nat) (A2 : Option Addr) (c2 : Nat) (fb pb xb : Nat) (S1 S2 : Own) (hM : ReadM w W b v s S f r A c A1 c1 A2 c2 fb pb xb S1 S2) (fst : Bool)
    (hno : ¬ ((fst = true ∧ (f.kind ≠ 4 ∨ r.1.ack = true)) ∨ r.2.bad = true ∨ s.gone = true)) (res : Bool × WatchS)
    (HK : ∀ (u1 u2 u4 u7 u8 u9 u10 u11 u12 u13 u14 u15 u16 u17 u18 u19 u20 u21 u22 u23 u24 u25 u26 u27 u28 u29 u30 u31 u32 u33 u34 u35 u36 u37 u38 u39 u40 u41 u42 u43 u44 u45 u46 u47 u48 u49 u50 u51 u52 u53 u54 u55 u56 u57 u58 u59 u60 u61 u62 u63 u64 u65 u66 u67 u68 u69 u70 u71 u72 u73 u74 u75 u76 u77 u78 u79 u80 u81 u82 u83 u84 u85 u86 u87 u88 u89 u90 u91 u92 u93 u94 u95 u96 u97 u98 u99 u100 u101 u102 u103 u104 u105 u106 u107 u108 u109 u110 u111 u112 u113 u114 u115 u116 u117 : Value), tailW Tryd.prog 4 riBody (RiP b res S w) ⟨#[.pointer (some ⟨b, 0, none⟩), u1, u2, .pointer (some ⟨fb, 0, none⟩), u4, .pointer (some ⟨pb, 0, none⟩), .pointer (some ⟨xb, 0, none⟩), u7, u8, u9, u10, u11, u12, u13, u14, u15, u16, u17, u18, u19, u20, u21, u22, u23, u24, u25, u26, u27, u28, u29, u30, u31, u32, u33, u34, u35, u36, u37, u38, u39, u40, u41, u42, u43, u44, u45, u46, u47, u48, u49, u50, u51, u52, u53, u54, u55, u56, u57, u58, u59, u60, u61, u62, u63, u64, u65, u66, u67, u68, u69, u70, u71, u72, u73, u74, u75, u76, u77, u78, u79, u80, u81, u82, u83, u84, u85, u86, u87, u88, u89, u90, u91, u92, u93, u94, u95, u96, u97, u98, u99, u100, u101, u102, u103, u104, u105, u106, u107, u108, u109, u110, u111, u112, u113, u114, u115, u116, u117], []⟩ W) (u1 u2 u4 u8 u9 u10 u11 u12 u13 u14 u15 u16 u17 u18 u19 u20 u21 u22 u23 u24 u25 u26 u27 u28 u29 u30 u31 u32 u33 u34 u35 u36 u37 u38 u39 u40 u41 u42 u43 u44 u45 u46 u47 u48 u49 u50 u51 u52 u53 u54 u55 u56 u57 u58 u59 u60 u61 u62 u63 u64 u65 u66 u67 u68 u69 u70 u71 u72 u73 u74 u75 u76 u77 u78 u79 u80 u81 u82 u83 u84 u85 u86 u87 u88 u89 u90 u91 u92 u93 u94 u95 u96 u97 u98 u99 u100 u101 u102 u103 u104 u105 u106 u107 u108 u109 u110 u111 u112 u113 u114 u115 u116 u117 : Value) :
    tailW Tryd.prog 3 riBody (RiP b res S w) ⟨#[.pointer (some ⟨b, 0, none⟩), u1, u2, .pointer (some ⟨fb, 0, none⟩), u4, .pointer (some ⟨pb, 0, none⟩), .pointer (some ⟨xb, 0, none⟩), .bool fst, u8, u9, u10, u11, u12, u13, u14, u15, u16, u17, u18, u19, u20, u21, u22, u23, u24, u25, u26, u27, u28, u29, u30, u31, u32, u33, u34, u35, u36, u37, u38, u39, u40, u41, u42, u43, u44, u45, u46, u47, u48, u49, u50, u51, u52, u53, u54, u55, u56, u57, u58, u59, u60, u61, u62, u63, u64, u65, u66, u67, u68, u69, u70, u71, u72, u73, u74, u75, u76, u77, u78, u79, u80, u81, u82, u83, u84, u85, u86, u87, u88, u89, u90, u91, u92, u93, u94, u95, u96, u97, u98, u99, u100, u101, u102, u103, u104, u105, u106, u107, u108, u109, u110, u111, u112, u113, u114, u115, u116, u117], []⟩ W := by
  have f0 := hM.f.cell 0
  have p7 := hM.p.cell 7
  have x0 := hM.x.cell 0
  have w18 := hM.wat.blk.cell 18
  simp only [PartS.cells, WatchS.cells, List.getElem?_cons_succ, List.getElem?_cons_zero] at f0 p7 x0 w18
  have HK2 := Lib.hid HK
  clear hM HK
  simp only [not_or, not_and] at hno
  obtain ⟨h1, h2, h3⟩ := hno
  rw [Bool.not_eq_true] at h2 h3
  rw [h2] at x0
  rw [h3] at w18
  refine tail_step 3 riBody ?_
  cases fst with
  | false =>
    clear h1 h2 h3
    show Code.wp _ _ _ _ _
    go_wp2
    show tailW _ _ _ _ _ _
    exact HK2.out _ _ _ _ _ _ _ _ _ _ _ _ _ _ _ _ _ _ _ _ _ _ _ _ _ _ _ _ _ _ _ _ _ _ _ _ _ _ _ _ _ _ _ _ _ _ _ _ _ _ _ _ _ _ _ _ _ _ _ _ _ _ _ _ _ _ _ _ _ _ _ _ _ _ _ _ _ _ _ _ _ _ _ _ _ _ _ _ _ _ _ _ _ _ _ _ _ _ _ _ _ _ _ _ _ _ _ _ _ _ _ _ _ _
  | true =>
    obtain ⟨h4, h5⟩ := h1 rfl
    rw [Bool.not_eq_true] at h5
    rw [h5] at p7
    have t4 : ((f.kind : Int) != 4) = false := by
      have : f.kind = 4 := Decidable.not_not.1 h4
      rw [this]; rfl
    clear h1 h2 h3 h4 h5
    show Code.wp _ _ _ _ _
    go_wp2
    show tailW _ _ _ _ _ _
    exact HK2.out _ _ _ _ _ _ _ _ _ _ _ _ _ _ _ _ _ _ _ _ _ _ _ _ _ _ _ _ _ _ _ _ _ _ _ _ _ _ _ _ _ _ _ _ _ _ _ _ _ _ _ _ _ _ _ _ _ _ _ _ _ _ _ _ _ _ _ _ _ _ _ _ _ _ _ _ _ _ _ _ _ _ _ _ _ _ _ _ _ _ _ _ _ _ _ _ _ _ _ _ _ _ _ _ _ _ _ _ _ _ _ _ _ _

set_option maxRecDepth 100000 in
theorem ri_other (w W : World) (b : Nat) (v : Locs) (s : WatchS) (S : Own) (f : FrameS) (r : PartS × Fault) (A : Option Addr) (c : Nat) (A1 : Option Addr) (c1 : Nat) (A2 : Option Addr) (c2 : Nat) (fb pb xb : Nat) (S1 S2 : Own) (hM : ReadM w W b v s S f r A c A1 c1 A2 c2 fb pb xb S1 S2)
    (h4 : f.kind ≠ 4) (h1 : f.kind ≠ 1) (h0 : f.kind ≠ 0) (h3 : f.kind ≠ 3) (h8 : f.kind ≠ 8) (h7 : f.kind ≠ 7) (u1 u2 u4 u7 u8 u9 u10 u11 u12 u13 u14 u15 u16 u17 u18 u19 u20 u21 u22 u23 u24 u25 u26 u27 u28 u29 u30 u31 u32 u33 u34 u35 u36 u37 u38 u39 u40 u41 u42 u43 u44 u45 u46 u47 u48 u49 u50 u51 u52 u53 u54 u55 u56 u57 u58 u59 u60 u61 u62 u63 u64 u65 u66 u67 u68 u69 u70 u71 u72 u73 u74 u75 u76 u77 u78 u79 u80 u81 u82 u83 u84 u85 u86 u87 u88 u89 u90 u91 u92 u93 u94 u95 u96 u97 u98 u99 u100 u101 u102 u103 u104 u105 u106 u107 u108 u109 u110 u111 u112 u113 u114 u115 u116 u117 : Value) :
    tailW Tryd.prog 4 riBody (RiP b (decide (f.kind = 6), s) S w) ⟨#[.pointer (some ⟨b, 0, none⟩), u1, u2, .pointer (some ⟨fb, 0, none⟩), u4, .pointer (some ⟨pb, 0, none⟩), .pointer (some ⟨xb, 0, none⟩), u7, u8, u9, u10, u11, u12, u13, u14, u15, u16, u17, u18, u19, u20, u21, u22, u23, u24, u25, u26, u27, u28, u29, u30, u31, u32, u33, u34, u35, u36, u37, u38, u39, u40, u41, u42, u43, u44, u45, u46, u47, u48, u49, u50, u51, u52, u53, u54, u55, u56, u57, u58, u59, u60, u61, u62, u63, u64, u65, u66, u67, u68, u69, u70, u71, u72, u73, u74, u75, u76, u77, u78, u79, u80, u81, u82, u83, u84, u85, u86, u87, u88, u89, u90, u91, u92, u93, u94, u95, u96, u97, u98, u99, u100, u101, u102, u103, u104, u105, u106, u107, u108, u109, u110, u111, u112, u113, u114, u115, u116, u117], []⟩ W := by
  have f0 := hM.f.cell 0
  simp only [List.getElem?_cons_succ, List.getElem?_cons_zero] at f0
  have HM := Lib.hid hM
  have t4 : ((f.kind : Int) == 4) = false := beq_eq_false_iff_ne.2 (by omega)
  have t1 : ((f.kind : Int) == 1) = false := beq_eq_false_iff_ne.2 (by omega)
  have t0 : ((f.kind : Int) == 0) = false := beq_eq_false_iff_ne.2 (by omega)
  have t0' : (f.kind == 0) = false := beq_eq_false_iff_ne.2 h0
  have t3 : ((f.kind : Int) == 3) = false := beq_eq_false_iff_ne.2 (by omega)
  have t8 : ((f.kind : Int) == 8) = false := beq_eq_false_iff_ne.2 (by omega)
  have t7 : ((f.kind : Int) == 7) = false := beq_eq_false_iff_ne.2 (by omega)
  by_cases h6 : f.kind = 6
  · have t6 : ((f.kind : Int) == 6) = true := beq_iff_eq.2 (by omega)
    rw [decide_eq_true h6]
    clear hM h4 h1 h0 h3 h8 h7 h6
    show Code.wp _ _ _ _ _
    go_wp2
    go_ret
    exact RightQ.same true HM.out.wat HM.out.upd
  · have t6 : ((f.kind : Int) == 6) = false := beq_eq_false_iff_ne.2 (by omega)
    rw [decide_eq_false h6]
    clear hM h4 h1 h0 h3 h8 h7 h6
    show Code.wp _ _ _ _ _
    go_wp2
    go_ret
    exact RightQ.same false HM.out.wat HM.out.upd

set_option maxRecDepth 100000 in
theorem ri_sets (w W : World) (b : Nat) (v : Locs) (s : WatchS) (S : Own) (f : FrameS) (r : PartS × Fault) (A : Option Addr) (c : Nat) (A1 : Option Addr) (c1 : Nat) (A2 : Option Addr) (c2 : Nat) (fb pb xb : Nat) (S1 S2 : Own) (hM : ReadM w W b v s S f r A c A1 c1 A2 c2 fb pb xb S1 S2)
    (h4 : f.kind = 4) {B : Nat} (hok : WOk B s) (hB : B ≤ 1000000000) (u1 u2 u4 u7 u8 u9 u10 u11 u12 u13 u14 u15 u16 u17 u18 u19 u20 u21 u22 u23 u24 u25 u26 u27 u28 u29 u30 u31 u32 u33 u34 u35 u36 u37 u38 u39 u40 u41 u42 u43 u44 u45 u46 u47 u48 u49 u50 u51 u52 u53 u54 u55 u56 u57 u58 u59 u60 u61 u62 u63 u64 u65 u66 u67 u68 u69 u70 u71 u72 u73 u74 u75 u76 u77 u78 u79 u80 u81 u82 u83 u84 u85 u86 u87 u88 u89 u90 u91 u92 u93 u94 u95 u96 u97 u98 u99 u100 u101 u102 u103 u104 u105 u106 u107 u108 u109 u110 u111 u112 u113 u114 u115 u116 u117 : Value) :
    tailW Tryd.prog 4 riBody (RiP b (if r.1.ack = true then appliesS s else (true, s)) S w) ⟨#[.pointer (some ⟨b, 0, none⟩), u1, u2, .pointer (some ⟨fb, 0, none⟩), u4, .pointer (some ⟨pb, 0, none⟩), .pointer (some ⟨xb, 0, none⟩), u7, u8, u9, u10, u11, u12, u13, u14, u15, u16, u17, u18, u19, u20, u21, u22, u23, u24, u25, u26, u27, u28, u29, u30, u31, u32, u33, u34, u35, u36, u37, u38, u39, u40, u41, u42, u43, u44, u45, u46, u47, u48, u49, u50, u51, u52, u53, u54, u55, u56, u57, u58, u59, u60, u61, u62, u63, u64, u65, u66, u67, u68, u69, u70, u71, u72, u73, u74, u75, u76, u77, u78, u79, u80, u81, u82, u83, u84, u85, u86, u87, u88, u89, u90, u91, u92, u93, u94, u95, u96, u97, u98, u99, u100, u101, u102, u103, u104, u105, u106, u107, u108, u109, u110, u111, u112, u113, u114, u115, u116, u117], []⟩ W := by
  have f0 := hM.f.cell 0
  have p7 := hM.p.cell 7
  simp only [PartS.cells, List.getElem?_cons_succ, List.getElem?_cons_zero] at f0 p7
  rw [h4] at f0
  have HM := Lib.hid hM
  have HA := Lib.hid (applies_any W b v s S hM.wat hok.wins hok.sets (by have := hok.inB; omega))
  clear hM h4 hok
  obtain ⟨⟨pd, pp, pc, pl, ps, pt, pf, pa, pw⟩, q⟩ := r
  simp only at *
  cases pa with
  | false =>
    rw [if_neg (by decide)]
    show Code.wp _ _ _ _ _
    go_wp2
    go_ret
    exact RightQ.same true HM.out.wat HM.out.upd
  | true =>
    rw [if_pos rfl]
    generalize appliesS s = g at *
    obtain ⟨g1, g2⟩ := g
    unfold RightQ at HA
    simp only at *
    show Code.wp _ _ _ _ _
    go_wp2_with (go_at_call 34; refine HA.out.mono ?_; rintro e w1 ⟨rfl, v', S', s', hsim, hw1, hu1⟩; have HS1 := Lib.hid hsim; have HW1 := Lib.hid hw1; have HU1 := Lib.hid hu1; clear hsim hw1 hu1)
    go_ret
    exact ⟨rfl, v', S', s', HS1.out, HW1.out, HM.out.upd.trans HU1.out⟩
end Go.Proofs.YthmfifcogokpoaaDoor
namespace Go.Proofs.YthmfifcogokpoaaDoor
open Go.RowKit
open Go.ChangeMaps (setBlock)

set_option maxRecDepth 100000 in
theorem ri_goaway (w W : World) (b : Nat) (v : Locs) (s : WatchS) (S : Own) (f : FrameS) (r : PartS × Fault) (A : Option Addr) (c : Nat) (A1 : Option Addr) (c1 : Nat) (A2 : Option Addr) (c2 : Nat) (fb pb xb : Nat) (S1 S2 : Own) (hM : ReadM w W b v s S f r A c A1 c1 A2 c2 fb pb xb S1 S2)
    (h7 : f.kind = 7) (u1 u2 u4 u7 u8 u9 u10 u11 u12 u13 u14 u15 u16 u17 u18 u19 u20 u21 u22 u23 u24 u25 u26 u27 u28 u29 u30 u31 u32 u33 u34 u35 u36 u37 u38 u39 u40 u41 u42 u43 u44 u45 u46 u47 u48 u49 u50 u51 u52 u53 u54 u55 u56 u57 u58 u59 u60 u61 u62 u63 u64 u65 u66 u67 u68 u69 u70 u71 u72 u73 u74 u75 u76 u77 u78 u79 u80 u81 u82 u83 u84 u85 u86 u87 u88 u89 u90 u91 u92 u93 u94 u95 u96 u97 u98 u99 u100 u101 u102 u103 u104 u105 u106 u107 u108 u109 u110 u111 u112 u113 u114 u115 u116 u117 : Value) :
    tailW Tryd.prog 4 riBody (RiP b (true, { s with gone := decide (r.1.code ≠ 0) }) S w) ⟨#[.pointer (some ⟨b, 0, none⟩), u1, u2, .pointer (some ⟨fb, 0, none⟩), u4, .pointer (some ⟨pb, 0, none⟩), .pointer (some ⟨xb, 0, none⟩), u7, u8, u9, u10, u11, u12, u13, u14, u15, u16, u17, u18, u19, u20, u21, u22, u23, u24, u25, u26, u27, u28, u29, u30, u31, u32, u33, u34, u35, u36, u37, u38, u39, u40, u41, u42, u43, u44, u45, u46, u47, u48, u49, u50, u51, u52, u53, u54, u55, u56, u57, u58, u59, u60, u61, u62, u63, u64, u65, u66, u67, u68, u69, u70, u71, u72, u73, u74, u75, u76, u77, u78, u79, u80, u81, u82, u83, u84, u85, u86, u87, u88, u89, u90, u91, u92, u93, u94, u95, u96, u97, u98, u99, u100, u101, u102, u103, u104, u105, u106, u107, u108, u109, u110, u111, u112, u113, u114, u115, u116, u117], []⟩ W := by
  have f0 := hM.f.cell 0
  have p2 := hM.p.cell 2
  have wf18 := hM.wat.blk.frozen 18
  have w18 := hM.wat.blk.cell 18
  simp only [PartS.cells, WatchS.cells, List.getElem?_cons_succ, List.getElem?_cons_zero] at f0 p2 w18
  rw [h7] at f0
  have HM := Lib.hid hM
  have HS := Lib.hid (fun (q : Bool) => hM.wat.set 18 (.bool q) { s with gone := q } rfl rfl rfl)
  clear hM h7
  obtain ⟨⟨pd, pp, pc, pl, ps, pt, pf, pa, pw⟩, q⟩ := r
  simp only at *
  by_cases h0 : pc = 0
  · have t : ((pc : Int) != 0) = false := by rw [h0]; rfl
    rw [decide_eq_false (by simpa using h0)]
    clear h0
    show Code.wp _ _ _ _ _
    go_wp2
    go_ret
    obtain ⟨S', k1, k2⟩ := HS.out false
    exact RightQ.same true k1 (HM.out.upd.trans k2)
  · have t : ((pc : Int) != 0) = true := bne_iff_ne.2 (by omega)
    rw [decide_eq_true h0]
    clear h0
    show Code.wp _ _ _ _ _
    go_wp2
    go_ret
    obtain ⟨S', k1, k2⟩ := HS.out true
    exact RightQ.same true k1 (HM.out.upd.trans k2)

set_option maxRecDepth 100000 in
theorem ri_rst (w W : World) (b : Nat) (v : Locs) (s : WatchS) (S : Own) (f : FrameS) (r : PartS × Fault) (A : Option Addr) (c : Nat) (A1 : Option Addr) (c1 : Nat) (A2 : Option Addr) (c2 : Nat) (fb pb xb : Nat) (S1 S2 : Own) (hM : ReadM w W b v s S f r A c A1 c1 A2 c2 fb pb xb S1 S2)
    (h3 : f.kind = 3) (u1 u2 u4 u7 u8 u9 u10 u11 u12 u13 u14 u15 u16 u17 u18 u19 u20 u21 u22 u23 u24 u25 u26 u27 u28 u29 u30 u31 u32 u33 u34 u35 u36 u37 u38 u39 u40 u41 u42 u43 u44 u45 u46 u47 u48 u49 u50 u51 u52 u53 u54 u55 u56 u57 u58 u59 u60 u61 u62 u63 u64 u65 u66 u67 u68 u69 u70 u71 u72 u73 u74 u75 u76 u77 u78 u79 u80 u81 u82 u83 u84 u85 u86 u87 u88 u89 u90 u91 u92 u93 u94 u95 u96 u97 u98 u99 u100 u101 u102 u103 u104 u105 u106 u107 u108 u109 u110 u111 u112 u113 u114 u115 u116 u117 : Value) :
    tailW Tryd.prog 4 riBody (RiP b (match idxS s f.stream with
    | none => (false, s)
    | some i => if (strOf s i).reset = true then (false, s) else (true, { s with m := s.m.set i (f.stream, { strOf s i with reset := true }) })) S w) ⟨#[.pointer (some ⟨b, 0, none⟩), u1, u2, .pointer (some ⟨fb, 0, none⟩), u4, .pointer (some ⟨pb, 0, none⟩), .pointer (some ⟨xb, 0, none⟩), u7, u8, u9, u10, u11, u12, u13, u14, u15, u16, u17, u18, u19, u20, u21, u22, u23, u24, u25, u26, u27, u28, u29, u30, u31, u32, u33, u34, u35, u36, u37, u38, u39, u40, u41, u42, u43, u44, u45, u46, u47, u48, u49, u50, u51, u52, u53, u54, u55, u56, u57, u58, u59, u60, u61, u62, u63, u64, u65, u66, u67, u68, u69, u70, u71, u72, u73, u74, u75, u76, u77, u78, u79, u80, u81, u82, u83, u84, u85, u86, u87, u88, u89, u90, u91, u92, u93, u94, u95, u96, u97, u98, u99, u100, u101, u102, u103, u104, u105, u106, u107, u108, u109, u110, u111, u112, u113, u114, u115, u116, u117], []⟩ W := by
  have f0 := hM.f.cell 0
  have f2 := hM.f.cell 2
  have w7 := hM.wat.blk.cell 7
  simp only [WatchS.cells, List.getElem?_cons_succ, List.getElem?_cons_zero] at f0 f2 w7
  rw [h3] at f0
  have HM := Lib.hid hM
  have hl := fun q => run_look (W.drewN q) v.mb (mapL v s) (hM.wat.drewN q).map f.stream
  rcases hM.wat.look f.stream with ⟨g1, g2⟩ | ⟨i, x, kb, g1, g2, g3, g4⟩
  · rw [g1]
    simp only [g2, ptrM] at hl
    clear hM h3 g1 g2
    show Code.wp _ _ _ _ _
    go_wp2
    go_quiet (fail)
    go_wp2
    go_ret
    exact RightQ.same false (HM.out.wat.drewN _) (HM.out.upd.drewN _)
  · rw [g1]
    simp only [g4, ptrM, strOf_at g2] at hl ⊢
    obtain ⟨kb', S5, y1, ⟨A5, c5, S6, k1, k2, k3, k4⟩, y3, y4⟩ := hM.wat.stream g2
    obtain rfl : kb = kb' := by rw [g3] at y1; simpa using y1
    simp only at k1 k2
    have q3 := k1.cell 3
    have qf3 := k1.frozen 3
    simp only [List.getElem?_cons_succ, List.getElem?_cons_zero] at q3
    have HK1 := Lib.hid k1
    have HK2 := Lib.hid k2
    have HK3 := Lib.hid k3
    have HK4 := Lib.hid k4
    have HY4 := Lib.hid y4
    clear hM h3 g1 g2 g3 g4 k1 k2 k3 k4 y1 y3 y4
    obtain ⟨xw, xb, xe, xr, xd⟩ := x
    simp only at *
    cases xr with
    | true =>
      rw [if_pos rfl]
      show Code.wp _ _ _ _ _
      go_wp2
      go_quiet (fail)
      go_wp2
      go_ret
      exact RightQ.same false (HM.out.wat.drewN _) (HM.out.upd.drewN _)
    | false =>
      rw [if_neg (by decide)]
      show Code.wp _ _ _ _ _
      go_wp2
      go_quiet (fail)
      go_wp2
      go_ret
      obtain ⟨S8, z1, z2⟩ := HY4.out ((W.drewN nq).setCell ⟨kb, 3, none⟩ (.bool true)) S5 { window := xw, begun := xb, ended := xe, reset := true, data := xd }
        ⟨A5, c5, S6, (HK1.out.drewN nq).set 3 _, HK2.out.loc fun k hk => heap_set_other (a := ⟨kb, 3, none⟩) _ (fun e => HK3.out (by rw [← show k = kb from e]; exact hk)), HK3.out, HK4.out⟩
        (((Upd.refl S5 W).drewN nq).setCell (p := ⟨kb, 3, none⟩) (.inl ((HK4.out kb).2 (.inl rfl))) _)
      exact ⟨rfl, v, S8, _, Sim.refl _, z1, HM.out.upd.trans z2⟩

set_option maxRecDepth 100000 in
theorem ri_update (w W : World) (b : Nat) (v : Locs) (s : WatchS) (S : Own) (f : FrameS) (r : PartS × Fault) (A : Option Addr) (c : Nat) (A1 : Option Addr) (c1 : Nat) (A2 : Option Addr) (c2 : Nat) (fb pb xb : Nat) (S1 S2 : Own) (hM : ReadM w W b v s S f r A c A1 c1 A2 c2 fb pb xb S1 S2)
    (h8 : f.kind = 8) (u1 u2 u4 u7 u8 u9 u10 u11 u12 u13 u14 u15 u16 u17 u18 u19 u20 u21 u22 u23 u24 u25 u26 u27 u28 u29 u30 u31 u32 u33 u34 u35 u36 u37 u38 u39 u40 u41 u42 u43 u44 u45 u46 u47 u48 u49 u50 u51 u52 u53 u54 u55 u56 u57 u58 u59 u60 u61 u62 u63 u64 u65 u66 u67 u68 u69 u70 u71 u72 u73 u74 u75 u76 u77 u78 u79 u80 u81 u82 u83 u84 u85 u86 u87 u88 u89 u90 u91 u92 u93 u94 u95 u96 u97 u98 u99 u100 u101 u102 u103 u104 u105 u106 u107 u108 u109 u110 u111 u112 u113 u114 u115 u116 u117 : Value) :
    tailW Tryd.prog 4 riBody (RiP b (if f.stream = 0 then (true, s)
    else match idxS s f.stream with
      | none => (false, s)
      | some i => (!(strOf s i).reset, s)) S w) ⟨#[.pointer (some ⟨b, 0, none⟩), u1, u2, .pointer (some ⟨fb, 0, none⟩), u4, .pointer (some ⟨pb, 0, none⟩), .pointer (some ⟨xb, 0, none⟩), u7, u8, u9, u10, u11, u12, u13, u14, u15, u16, u17, u18, u19, u20, u21, u22, u23, u24, u25, u26, u27, u28, u29, u30, u31, u32, u33, u34, u35, u36, u37, u38, u39, u40, u41, u42, u43, u44, u45, u46, u47, u48, u49, u50, u51, u52, u53, u54, u55, u56, u57, u58, u59, u60, u61, u62, u63, u64, u65, u66, u67, u68, u69, u70, u71, u72, u73, u74, u75, u76, u77, u78, u79, u80, u81, u82, u83, u84, u85, u86, u87, u88, u89, u90, u91, u92, u93, u94, u95, u96, u97, u98, u99, u100, u101, u102, u103, u104, u105, u106, u107, u108, u109, u110, u111, u112, u113, u114, u115, u116, u117], []⟩ W := by
  have f0 := hM.f.cell 0
  have f2 := hM.f.cell 2
  have w7 := hM.wat.blk.cell 7
  simp only [WatchS.cells, List.getElem?_cons_succ, List.getElem?_cons_zero] at f0 f2 w7
  rw [h8] at f0
  have HM := Lib.hid hM
  have hl := fun q => run_look (W.drewN q) v.mb (mapL v s) (hM.wat.drewN q).map f.stream
  by_cases h0 : f.stream = 0
  · rw [if_pos h0]
    have t0 : ((f.stream : Int) == 0) = true := by rw [h0]; rfl
    generalize lookM (mapL v s) f.stream = o at *
    clear hM h8 h0
    show Code.wp _ _ _ _ _
    go_wp2
    go_quiet (fail)
    go_wp2
    go_ret
    exact RightQ.same true (HM.out.wat.drewN _) (HM.out.upd.drewN _)
  · rw [if_neg h0]
    have t0 : ((f.stream : Int) == 0) = false := beq_eq_false_iff_ne.2 (by omega)
    rcases hM.wat.look f.stream with ⟨g1, g2⟩ | ⟨i, x, kb, g1, g2, g3, g4⟩
    · rw [g1]
      simp only [g2, ptrM] at hl
      clear hM h8 g1 g2 h0
      show Code.wp _ _ _ _ _
      go_wp2
      go_quiet (fail)
      go_wp2
      go_ret
      exact RightQ.same false (HM.out.wat.drewN _) (HM.out.upd.drewN _)
    · rw [g1]
      simp only [g4, ptrM, strOf_at g2] at hl ⊢
      obtain ⟨kb', S5, y1, ⟨A5, c5, S6, k1, k2, k3, k4⟩, y3, y4⟩ := hM.wat.stream g2
      obtain rfl : kb = kb' := by rw [g3] at y1; simpa using y1
      simp only at k1 k2
      have q3 := k1.cell 3
      simp only [List.getElem?_cons_succ, List.getElem?_cons_zero] at q3
      clear hM h8 g1 g2 g3 g4 k1 k2 k3 k4 y1 y3 y4 h0
      obtain ⟨xw, xb, xe, xr, xd⟩ := x
      simp only at *
      cases xr with
      | true =>
        show Code.wp _ _ _ _ _
        go_wp2
        go_quiet (fail)
        go_wp2
        go_ret
        exact RightQ.same false (HM.out.wat.drewN _) (HM.out.upd.drewN _)
      | false =>
        show Code.wp _ _ _ _ _
        go_wp2
        go_quiet (fail)
        go_wp2
        go_ret
        exact RightQ.same true (HM.out.wat.drewN _) (HM.out.upd.drewN _)
end Go.Proofs.YthmfifcogokpoaaDoor
namespace Go.Proofs.YthmfifcogokpoaaDoor
open Go.RowKit
open Go.ChangeMaps (setBlock)

set_option maxRecDepth 100000 in
theorem ri_heads (w W : World) (b : Nat) (v : Locs) (s : WatchS) (S : Own) (f : FrameS) (r : PartS × Fault) (A : Option Addr) (c : Nat) (A1 : Option Addr) (c1 : Nat) (A2 : Option Addr) (c2 : Nat) (fb pb xb : Nat) (S1 S2 : Own) (hM : ReadM w W b v s S f r A c A1 c1 A2 c2 fb pb xb S1 S2)
    (h1 : f.kind = 1) (hd : s.dead = false) (hbig : r.1.data.length ≤ 1000000) (u1 u2 u4 u7 u8 u9 u10 u11 u12 u13 u14 u15 u16 u17 u18 u19 u20 u21 u22 u23 u24 u25 u26 u27 u28 u29 u30 u31 u32 u33 u34 u35 u36 u37 u38 u39 u40 u41 u42 u43 u44 u45 u46 u47 u48 u49 u50 u51 u52 u53 u54 u55 u56 u57 u58 u59 u60 u61 u62 u63 u64 u65 u66 u67 u68 u69 u70 u71 u72 u73 u74 u75 u76 u77 u78 u79 u80 u81 u82 u83 u84 u85 u86 u87 u88 u89 u90 u91 u92 u93 u94 u95 u96 u97 u98 u99 u100 u101 u102 u103 u104 u105 u106 u107 u108 u109 u110 u111 u112 u113 u114 u115 u116 u117 : Value) :
    tailW Tryd.prog 4 riBody (RiP b (if r.1.whole = true then answersS s f r.1 else (false, s)) S w) ⟨#[.pointer (some ⟨b, 0, none⟩), u1, u2, .pointer (some ⟨fb, 0, none⟩), u4, .pointer (some ⟨pb, 0, none⟩), .pointer (some ⟨xb, 0, none⟩), u7, u8, u9, u10, u11, u12, u13, u14, u15, u16, u17, u18, u19, u20, u21, u22, u23, u24, u25, u26, u27, u28, u29, u30, u31, u32, u33, u34, u35, u36, u37, u38, u39, u40, u41, u42, u43, u44, u45, u46, u47, u48, u49, u50, u51, u52, u53, u54, u55, u56, u57, u58, u59, u60, u61, u62, u63, u64, u65, u66, u67, u68, u69, u70, u71, u72, u73, u74, u75, u76, u77, u78, u79, u80, u81, u82, u83, u84, u85, u86, u87, u88, u89, u90, u91, u92, u93, u94, u95, u96, u97, u98, u99, u100, u101, u102, u103, u104, u105, u106, u107, u108, u109, u110, u111, u112, u113, u114, u115, u116, u117], []⟩ W := by
  have HA := Lib.hid (answers_any W b v s S hM.wat hd f A c r.1 A1 c1 A2 c2 hM.data.rd hbig)
  have fc := hM.f.cells
  have pc := hM.p.cells
  simp only [PartS.cells, Cells, Nat.zero_add, Nat.reduceAdd] at fc pc
  obtain ⟨f0, -, f1, -, f2, -, f3, -, -⟩ := fc
  obtain ⟨p0, -, p1, -, p2, -, p3, -, p4, -, p5, -, p6, -, p7, -, p8, -, -⟩ := pc
  have HM := Lib.hid hM
  clear hM hd hbig
  obtain ⟨⟨pd, pp, pc, pl, ps, pt, pf, pa, pw⟩, q⟩ := r
  unfold PartS.v FrameS.v at HA
  rw [h1] at f0 HA
  clear h1
  simp only at *
  cases pw with
  | false =>
    rw [if_neg (by decide)]
    show Code.wp _ _ _ _ _
    go_wp2
    go_ret
    exact RightQ.same false HM.out.wat HM.out.upd
  | true =>
    rw [if_pos rfl]
    generalize answersS s f _ = g at *
    obtain ⟨g1, g2⟩ := g
    unfold RightQ at HA
    simp only at *
    show Code.wp _ _ _ _ _
    go_wp2_with (go_at_call 35; refine HA.out.mono ?_; rintro e w1 ⟨rfl, v', S', s', hsim, hw1, hu1⟩; have HS1 := Lib.hid hsim; have HW1 := Lib.hid hw1; have HU1 := Lib.hid hu1; clear hsim hw1 hu1)
    go_ret
    exact ⟨rfl, v', S', s', HS1.out, HW1.out, HM.out.upd.trans HU1.out⟩

set_option maxRecDepth 100000 in
theorem ri_data (w W : World) (b : Nat) (v : Locs) (s : WatchS) (S : Own) (f : FrameS) (r : PartS × Fault) (A : Option Addr) (c : Nat) (A1 : Option Addr) (c1 : Nat) (A2 : Option Addr) (c2 : Nat) (fb pb xb : Nat) (S1 S2 : Own) (hM : ReadM w W b v s S f r A c A1 c1 A2 c2 fb pb xb S1 S2)
    (h0 : f.kind = 0) (hwin : Go.Proofs.YthmfifcogokpoaaDoor.W s.window) (hm : ∀ x ∈ s.m, Go.Proofs.YthmfifcogokpoaaDoor.W x.2.window) (hbig : ∀ x ∈ s.m, x.2.data.length + r.1.data.length ≤ 1000000000) (hf : f.body.length ≤ 1000000000) (u1 u2 u4 u7 u8 u9 u10 u11 u12 u13 u14 u15 u16 u17 u18 u19 u20 u21 u22 u23 u24 u25 u26 u27 u28 u29 u30 u31 u32 u33 u34 u35 u36 u37 u38 u39 u40 u41 u42 u43 u44 u45 u46 u47 u48 u49 u50 u51 u52 u53 u54 u55 u56 u57 u58 u59 u60 u61 u62 u63 u64 u65 u66 u67 u68 u69 u70 u71 u72 u73 u74 u75 u76 u77 u78 u79 u80 u81 u82 u83 u84 u85 u86 u87 u88 u89 u90 u91 u92 u93 u94 u95 u96 u97 u98 u99 u100 u101 u102 u103 u104 u105 u106 u107 u108 u109 u110 u111 u112 u113 u114 u115 u116 u117 : Value) :
    tailW Tryd.prog 4 riBody (RiP b (sendsS s f r.1) S w) ⟨#[.pointer (some ⟨b, 0, none⟩), u1, u2, .pointer (some ⟨fb, 0, none⟩), u4, .pointer (some ⟨pb, 0, none⟩), .pointer (some ⟨xb, 0, none⟩), u7, u8, u9, u10, u11, u12, u13, u14, u15, u16, u17, u18, u19, u20, u21, u22, u23, u24, u25, u26, u27, u28, u29, u30, u31, u32, u33, u34, u35, u36, u37, u38, u39, u40, u41, u42, u43, u44, u45, u46, u47, u48, u49, u50, u51, u52, u53, u54, u55, u56, u57, u58, u59, u60, u61, u62, u63, u64, u65, u66, u67, u68, u69, u70, u71, u72, u73, u74, u75, u76, u77, u78, u79, u80, u81, u82, u83, u84, u85, u86, u87, u88, u89, u90, u91, u92, u93, u94, u95, u96, u97, u98, u99, u100, u101, u102, u103, u104, u105, u106, u107, u108, u109, u110, u111, u112, u113, u114, u115, u116, u117], []⟩ W := by
  have HA := Lib.hid (sends_any W b v s S hM.wat hwin hm f A c r.1 A1 c1 A2 c2 hM.data.rd (fun k hk => ⟨hM.data.lt k (hM.data.block k hk), fun h => by have h1 := hM.far k (.inr (.inr (.inr (.inl (hM.data.block k hk))))); have h2 := hM.old.lt k h; omega⟩) hbig hf)
  have fc := hM.f.cells
  have pc := hM.p.cells
  simp only [PartS.cells, Cells, Nat.zero_add, Nat.reduceAdd] at fc pc
  obtain ⟨f0, -, f1, -, f2, -, f3, -, -⟩ := fc
  obtain ⟨p0, -, p1, -, p2, -, p3, -, p4, -, p5, -, p6, -, p7, -, p8, -, -⟩ := pc
  have HM := Lib.hid hM
  clear hM hwin hm hbig hf
  obtain ⟨⟨pd, pp, pc, pl, ps, pt, pf, pa, pw⟩, q⟩ := r
  unfold PartS.v FrameS.v at HA
  rw [h0] at f0 HA
  clear h0
  simp only at *
  generalize sendsS s f _ = g at *
  obtain ⟨g1, g2⟩ := g
  unfold RightQ at HA
  simp only at *
  show Code.wp _ _ _ _ _
  go_wp2_with (go_at_call 36; refine HA.out.mono ?_; rintro e w1 ⟨rfl, v', S', s', hsim, hw1, hu1⟩; have HS1 := Lib.hid hsim; have HW1 := Lib.hid hw1; have HU1 := Lib.hid hu1; clear hsim hw1 hu1)
  go_ret
  exact ⟨rfl, v', S', s', HS1.out, HW1.out, HM.out.upd.trans HU1.out⟩

theorem ri_kinds (w W : World) (b : Nat) (v : Locs) (s : WatchS) (S : Own) (f : FrameS) (A : Option Addr) (c : Nat) (A1 : Option Addr) (c1 : Nat) (A2 : Option Addr) (c2 : Nat) (fb pb xb : Nat) (S1 S2 : Own) (hM : ReadM w W b v s S f (readS f) A c A1 c1 A2 c2 fb pb xb S1 S2)
    {B : Nat} (hok : WOk B s) (hB : B ≤ 1000000000) (hd : s.dead = false) (hf : f.body.length ≤ 1000000) (hbig : ∀ x ∈ s.m, x.2.data.length + f.body.length ≤ 1000000000) (fst : Bool) (hfst : fst = decide (s.frames = 0)) (u1 u2 u4 u8 u9 u10 u11 u12 u13 u14 u15 u16 u17 u18 u19 u20 u21 u22 u23 u24 u25 u26 u27 u28 u29 u30 u31 u32 u33 u34 u35 u36 u37 u38 u39 u40 u41 u42 u43 u44 u45 u46 u47 u48 u49 u50 u51 u52 u53 u54 u55 u56 u57 u58 u59 u60 u61 u62 u63 u64 u65 u66 u67 u68 u69 u70 u71 u72 u73 u74 u75 u76 u77 u78 u79 u80 u81 u82 u83 u84 u85 u86 u87 u88 u89 u90 u91 u92 u93 u94 u95 u96 u97 u98 u99 u100 u101 u102 u103 u104 u105 u106 u107 u108 u109 u110 u111 u112 u113 u114 u115 u116 u117 : Value) :
    tailW Tryd.prog 3 riBody (RiP b (rightS s f) S w) ⟨#[.pointer (some ⟨b, 0, none⟩), u1, u2, .pointer (some ⟨fb, 0, none⟩), u4, .pointer (some ⟨pb, 0, none⟩), .pointer (some ⟨xb, 0, none⟩), .bool fst, u8, u9, u10, u11, u12, u13, u14, u15, u16, u17, u18, u19, u20, u21, u22, u23, u24, u25, u26, u27, u28, u29, u30, u31, u32, u33, u34, u35, u36, u37, u38, u39, u40, u41, u42, u43, u44, u45, u46, u47, u48, u49, u50, u51, u52, u53, u54, u55, u56, u57, u58, u59, u60, u61, u62, u63, u64, u65, u66, u67, u68, u69, u70, u71, u72, u73, u74, u75, u76, u77, u78, u79, u80, u81, u82, u83, u84, u85, u86, u87, u88, u89, u90, u91, u92, u93, u94, u95, u96, u97, u98, u99, u100, u101, u102, u103, u104, u105, u106, u107, u108, u109, u110, u111, u112, u113, u114, u115, u116, u117], []⟩ W := by
  have hp := readS_data f
  have hiff : ((fst = true ∧ (f.kind ≠ 4 ∨ (readS f).1.ack = true)) ∨ (readS f).2.bad = true ∨ s.gone = true) ↔ ((s.frames = 0 ∧ (f.kind ≠ 4 ∨ (readS f).1.ack = true)) ∨ (readS f).2.bad = true ∨ s.gone = true) := by
    rw [hfst, decide_eq_true_eq]
  unfold rightS
  by_cases hno : (s.frames = 0 ∧ (f.kind ≠ 4 ∨ (readS f).1.ack = true)) ∨ (readS f).2.bad = true ∨ s.gone = true
  · rw [if_pos hno]
    exact ri_no w W b v s S f _ A c A1 c1 A2 c2 fb pb xb S1 S2 hM fst (hiff.2 hno) _ _ _ _ _ _ _ _ _ _ _ _ _ _ _ _ _ _ _ _ _ _ _ _ _ _ _ _ _ _ _ _ _ _ _ _ _ _ _ _ _ _ _ _ _ _ _ _ _ _ _ _ _ _ _ _ _ _ _ _ _ _ _ _ _ _ _ _ _ _ _ _ _ _ _ _ _ _ _ _ _ _ _ _ _ _ _ _ _ _ _ _ _ _ _ _ _ _ _ _ _ _ _ _ _ _ _ _ _ _ _ _ _
  rw [if_neg hno]
  refine ri_yes w W b v s S f _ A c A1 c1 A2 c2 fb pb xb S1 S2 hM fst (fun h => hno (hiff.1 h)) _ ?_ _ _ _ _ _ _ _ _ _ _ _ _ _ _ _ _ _ _ _ _ _ _ _ _ _ _ _ _ _ _ _ _ _ _ _ _ _ _ _ _ _ _ _ _ _ _ _ _ _ _ _ _ _ _ _ _ _ _ _ _ _ _ _ _ _ _ _ _ _ _ _ _ _ _ _ _ _ _ _ _ _ _ _ _ _ _ _ _ _ _ _ _ _ _ _ _ _ _ _ _ _ _ _ _ _ _ _ _ _ _ _ _ _
  intro u1 u2 u4 u7 u8 u9 u10 u11 u12 u13 u14 u15 u16 u17 u18 u19 u20 u21 u22 u23 u24 u25 u26 u27 u28 u29 u30 u31 u32 u33 u34 u35 u36 u37 u38 u39 u40 u41 u42 u43 u44 u45 u46 u47 u48 u49 u50 u51 u52 u53 u54 u55 u56 u57 u58 u59 u60 u61 u62 u63 u64 u65 u66 u67 u68 u69 u70 u71 u72 u73 u74 u75 u76 u77 u78 u79 u80 u81 u82 u83 u84 u85 u86 u87 u88 u89 u90 u91 u92 u93 u94 u95 u96 u97 u98 u99 u100 u101 u102 u103 u104 u105 u106 u107 u108 u109 u110 u111 u112 u113 u114 u115 u116 u117
  by_cases h4 : f.kind = 4
  · rw [if_pos h4]
    exact ri_sets w W b v s S f _ A c A1 c1 A2 c2 fb pb xb S1 S2 hM h4 hok hB _ _ _ _ _ _ _ _ _ _ _ _ _ _ _ _ _ _ _ _ _ _ _ _ _ _ _ _ _ _ _ _ _ _ _ _ _ _ _ _ _ _ _ _ _ _ _ _ _ _ _ _ _ _ _ _ _ _ _ _ _ _ _ _ _ _ _ _ _ _ _ _ _ _ _ _ _ _ _ _ _ _ _ _ _ _ _ _ _ _ _ _ _ _ _ _ _ _ _ _ _ _ _ _ _ _ _ _ _ _ _ _ _ _
  rw [if_neg h4]
  by_cases h1 : f.kind = 1
  · rw [if_pos h1]
    exact ri_heads w W b v s S f _ A c A1 c1 A2 c2 fb pb xb S1 S2 hM h1 hd (by omega) _ _ _ _ _ _ _ _ _ _ _ _ _ _ _ _ _ _ _ _ _ _ _ _ _ _ _ _ _ _ _ _ _ _ _ _ _ _ _ _ _ _ _ _ _ _ _ _ _ _ _ _ _ _ _ _ _ _ _ _ _ _ _ _ _ _ _ _ _ _ _ _ _ _ _ _ _ _ _ _ _ _ _ _ _ _ _ _ _ _ _ _ _ _ _ _ _ _ _ _ _ _ _ _ _ _ _ _ _ _ _ _ _ _
  rw [if_neg h1]
  by_cases h0 : f.kind = 0
  · rw [if_pos h0]
    exact ri_data w W b v s S f _ A c A1 c1 A2 c2 fb pb xb S1 S2 hM h0 hok.win hok.wins (fun x hx => by have := hbig x hx; omega) (by omega) _ _ _ _ _ _ _ _ _ _ _ _ _ _ _ _ _ _ _ _ _ _ _ _ _ _ _ _ _ _ _ _ _ _ _ _ _ _ _ _ _ _ _ _ _ _ _ _ _ _ _ _ _ _ _ _ _ _ _ _ _ _ _ _ _ _ _ _ _ _ _ _ _ _ _ _ _ _ _ _ _ _ _ _ _ _ _ _ _ _ _ _ _ _ _ _ _ _ _ _ _ _ _ _ _ _ _ _ _ _ _ _ _ _
  rw [if_neg h0]
  by_cases h3 : f.kind = 3
  · rw [if_pos h3]
    exact ri_rst w W b v s S f _ A c A1 c1 A2 c2 fb pb xb S1 S2 hM h3 _ _ _ _ _ _ _ _ _ _ _ _ _ _ _ _ _ _ _ _ _ _ _ _ _ _ _ _ _ _ _ _ _ _ _ _ _ _ _ _ _ _ _ _ _ _ _ _ _ _ _ _ _ _ _ _ _ _ _ _ _ _ _ _ _ _ _ _ _ _ _ _ _ _ _ _ _ _ _ _ _ _ _ _ _ _ _ _ _ _ _ _ _ _ _ _ _ _ _ _ _ _ _ _ _ _ _ _ _ _ _ _ _ _
  rw [if_neg h3]
  by_cases h8 : f.kind = 8
  · rw [if_pos h8]
    exact ri_update w W b v s S f _ A c A1 c1 A2 c2 fb pb xb S1 S2 hM h8 _ _ _ _ _ _ _ _ _ _ _ _ _ _ _ _ _ _ _ _ _ _ _ _ _ _ _ _ _ _ _ _ _ _ _ _ _ _ _ _ _ _ _ _ _ _ _ _ _ _ _ _ _ _ _ _ _ _ _ _ _ _ _ _ _ _ _ _ _ _ _ _ _ _ _ _ _ _ _ _ _ _ _ _ _ _ _ _ _ _ _ _ _ _ _ _ _ _ _ _ _ _ _ _ _ _ _ _ _ _ _ _ _ _
  rw [if_neg h8]
  by_cases h7 : f.kind = 7
  · rw [if_pos h7]
    exact ri_goaway w W b v s S f _ A c A1 c1 A2 c2 fb pb xb S1 S2 hM h7 _ _ _ _ _ _ _ _ _ _ _ _ _ _ _ _ _ _ _ _ _ _ _ _ _ _ _ _ _ _ _ _ _ _ _ _ _ _ _ _ _ _ _ _ _ _ _ _ _ _ _ _ _ _ _ _ _ _ _ _ _ _ _ _ _ _ _ _ _ _ _ _ _ _ _ _ _ _ _ _ _ _ _ _ _ _ _ _ _ _ _ _ _ _ _ _ _ _ _ _ _ _ _ _ _ _ _ _ _ _ _ _ _ _
  rw [if_neg h7]
  exact ri_other w W b v s S f _ A c A1 c1 A2 c2 fb pb xb S1 S2 hM h4 h1 h0 h3 h8 h7 _ _ _ _ _ _ _ _ _ _ _ _ _ _ _ _ _ _ _ _ _ _ _ _ _ _ _ _ _ _ _ _ _ _ _ _ _ _ _ _ _ _ _ _ _ _ _ _ _ _ _ _ _ _ _ _ _ _ _ _ _ _ _ _ _ _ _ _ _ _ _ _ _ _ _ _ _ _ _ _ _ _ _ _ _ _ _ _ _ _ _ _ _ _ _ _ _ _ _ _ _ _ _ _ _ _ _ _ _ _ _ _ _ _

set_option maxRecDepth 100000 in
set_option maxHeartbeats 1000000 in
theorem right_any (w : World) (b : Nat) (v : Locs) (s : WatchS) (S : Own) (h : WAt w b v s S) {B : Nat} (hok : WOk B s) (hB : B ≤ 1000000000) (hd : s.dead = false) (f : FrameS) (hf : f.Ok) (hfl : f.body.length ≤ 1000000) (hbig : ∀ x ∈ s.m, x.2.data.length + f.body.length ≤ 1000000000) (A : Option Addr) (c : Nat) (hrd : Rd w 1 A f.body.length c (bys f.body)) :
    Calls Tryd.prog 28 #[.pointer (some ⟨b, 0, none⟩), f.v A c] w (RightQ b (rightS s f) S w) := by
  have HREAD := Lib.hid (partRead_any f A c (w.alloc (.cells #[.int .i64 f.kind, .int .i64 f.flags, .int .i64 f.stream, .slice A f.body.length c] 29)) hf (hrd.alloc (by omega) _))
  have HW := Lib.hid h
  have HT := Lib.hid (show ∀ (fst : Bool), fst = decide (s.frames = 0) → ∀ (W : World) A1 c1 A2 c2 fb pb xb S1 S2, ReadM w W b v s S f (readS f) A c A1 c1 A2 c2 fb pb xb S1 S2 → ∀ (u1 u2 u4 u8 u9 u10 u11 u12 u13 u14 u15 u16 u17 u18 u19 u20 u21 u22 u23 u24 u25 u26 u27 u28 u29 u30 u31 u32 u33 u34 u35 u36 u37 u38 u39 u40 u41 u42 u43 u44 u45 u46 u47 u48 u49 u50 u51 u52 u53 u54 u55 u56 u57 u58 u59 u60 u61 u62 u63 u64 u65 u66 u67 u68 u69 u70 u71 u72 u73 u74 u75 u76 u77 u78 u79 u80 u81 u82 u83 u84 u85 u86 u87 u88 u89 u90 u91 u92 u93 u94 u95 u96 u97 u98 u99 u100 u101 u102 u103 u104 u105 u106 u107 u108 u109 u110 u111 u112 u113 u114 u115 u116 u117 : Value), tailW Tryd.prog 3 riBody (RiP b (rightS s f) S w) ⟨#[.pointer (some ⟨b, 0, none⟩), u1, u2, .pointer (some ⟨fb, 0, none⟩), u4, .pointer (some ⟨pb, 0, none⟩), .pointer (some ⟨xb, 0, none⟩), .bool fst, u8, u9, u10, u11, u12, u13, u14, u15, u16, u17, u18, u19, u20, u21, u22, u23, u24, u25, u26, u27, u28, u29, u30, u31, u32, u33, u34, u35, u36, u37, u38, u39, u40, u41, u42, u43, u44, u45, u46, u47, u48, u49, u50, u51, u52, u53, u54, u55, u56, u57, u58, u59, u60, u61, u62, u63, u64, u65, u66, u67, u68, u69, u70, u71, u72, u73, u74, u75, u76, u77, u78, u79, u80, u81, u82, u83, u84, u85, u86, u87, u88, u89, u90, u91, u92, u93, u94, u95, u96, u97, u98, u99, u100, u101, u102, u103, u104, u105, u106, u107, u108, u109, u110, u111, u112, u113, u114, u115, u116, u117], []⟩ W from
    fun fst hfst W A1 c1 A2 c2 fb pb xb S1 S2 hM => ri_kinds w W b v s S f A c A1 c1 A2 c2 fb pb xb S1 S2 hM hok hB hd hfl hbig fst hfst)
  clear h hok hB hd hf hfl hbig hrd
  generalize rightS s f = s2 at *
  have HMK := Lib.hid (fun (w1 : World) (A1 : Option Addr) (c1 : Nat) (A2 : Option Addr) (c2 : Nat) (S1 S2 : Own) h1 h2 h12 hu => ReadM.make (w := w) (w1 := w1) (A1 := A1) (c1 := c1) (A2 := A2) (c2 := c2) (S1 := S1) (S2 := S2) (f := f) (r := readS f) (A := A) (c := c) HW.out h1 h2 h12 hu)
  unfold FrameS.v
  generalize readS f = r at *
  obtain ⟨⟨pd, pp, pc, pl, ps, pt, pf, pa, pw⟩, ⟨xb1, xb2, xb3⟩⟩ := r
  obtain ⟨fk, ff, fs, fbd⟩ := f
  simp only [PartS.cells] at *
  by_cases hfr : s.frames = 0
  all_goals
    go_enter Tryd.func28, Tryd.ntmps28
    refine wp_cut_as riBody (by kernel_rfl) 3 ?_
    show Code.wp _ _ _ _ _
    go_wp2
    show Code.wp _ _ _ _ _
    go_wp2_with (go_at_call 32; refine HREAD.out.mono ?_; rintro e w1 ⟨A1, c1, A2, c2, S1, S2, rfl, hr1, hr2, hr12, hu⟩; have HM := Lib.hid (HMK.out w1 A1 c1 A2 c2 S1 S2 hr1 hr2 hr12 hu); obtain ⟨hcz, hfz⟩ := bcell (hu.below (fun _ h => h.elim) (Nat.le_refl _)); have hzz := hu.size; clear hr1 hr2 hr12 hu; unfold PartS.v Fault.v)
    show Code.wp _ _ _ _ _
    have hf17 := HM.out.wat.blk.cell 17
    simp only [WatchS.cells, List.getElem?_cons_succ, List.getElem?_cons_zero] at hf17
    clear hcz hfz
  · have t1 : ((s.frames : Int) == 0) = true := by rw [hfr]; rfl
    have HFR := Lib.hid hfr
    clear hfr
    go_wp2
    show tailW _ _ _ _ _ _
    exact HT.out true (decide_eq_true HFR.out).symm _ A1 c1 A2 c2 _ _ _ S1 S2 HM.out _ _ _ _ _ _ _ _ _ _ _ _ _ _ _ _ _ _ _ _ _ _ _ _ _ _ _ _ _ _ _ _ _ _ _ _ _ _ _ _ _ _ _ _ _ _ _ _ _ _ _ _ _ _ _ _ _ _ _ _ _ _ _ _ _ _ _ _ _ _ _ _ _ _ _ _ _ _ _ _ _ _ _ _ _ _ _ _ _ _ _ _ _ _ _ _ _ _ _ _ _ _ _ _ _ _ _ _ _ _ _ _ _
  · have t1 : ((s.frames : Int) == 0) = false := beq_eq_false_iff_ne.2 (by omega)
    have HFR := Lib.hid hfr
    clear hfr
    go_wp2
    show tailW _ _ _ _ _ _
    exact HT.out false (decide_eq_false HFR.out).symm _ A1 c1 A2 c2 _ _ _ S1 S2 HM.out _ _ _ _ _ _ _ _ _ _ _ _ _ _ _ _ _ _ _ _ _ _ _ _ _ _ _ _ _ _ _ _ _ _ _ _ _ _ _ _ _ _ _ _ _ _ _ _ _ _ _ _ _ _ _ _ _ _ _ _ _ _ _ _ _ _ _ _ _ _ _ _ _ _ _ _ _ _ _ _ _ _ _ _ _ _ _ _ _ _ _ _ _ _ _ _ _ _ _ _ _ _ _ _ _ _ _ _ _ _ _ _ _
end Go.Proofs.YthmfifcogokpoaaDoor
