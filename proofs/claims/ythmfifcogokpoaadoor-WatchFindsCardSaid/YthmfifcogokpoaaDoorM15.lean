/- What is proved here: contracts of the program's functions and plain lemmas that the claim's last text uses, in parts: package unpack: read, from its head; package unpack: read, whole; package unpack: Decode, New, Table; package sets. -/
import Derived.Test.YthmfifcogokpoaaDoorM14
set_option linter.unusedVariables false
set_option linter.unusedSimpArgs false
namespace Go.Proofs.YthmfifcogokpoaaDoor
open Go.RowKit

set_option maxRecDepth 100000 in
set_option maxHeartbeats 400000 in
theorem rn_end (w W : World) (kb tb : Nat) (room : Int) (O : Own) (s : RdS) (S St : Own) (fb : Nat) (f : FieldS) (hM : RdM w W kb tb room O s S St fb f) (n : Nat) (h0 : s.l.length = 0) (m : Nat) (hm : m = n + 1) (u1 u4 u5 u6 u9 u10 u11 u12 u13 u14 u15 u16 u17 u18 u19 u20 u21 u22 u23 u24 u25 u26 u27 u28 u29 u30 u31 u32 u33 u34 u35 u36 u37 u38 u39 u40 u41 u42 u43 u44 u45 u46 u47 u48 u49 u50 u51 u52 u53 u54 u55 u56 u57 u58 u59 u60 u61 u62 u63 u64 u65 u66 u67 u68 u69 u70 u71 u72 u73 u74 u75 u76 u77 u78 u79 u80 u81 u82 u83 u84 u85 u86 u87 u88 u89 u90 u91 : Value) :
    Lab Tryd.prog readBody (RdP (some s) kb tb room O w) m 0 ⟨#[.pointer (some ⟨kb, 0, none⟩), u1, .bool false, .pointer (some ⟨fb, 0, none⟩), u4, u5, u6, .int .i64 s.told, .bool s.any, u9, u10, u11, u12, u13, u14, u15, u16, u17, u18, u19, u20, u21, u22, u23, u24, u25, u26, u27, u28, u29, u30, u31, u32, u33, u34, u35, u36, u37, u38, u39, u40, u41, u42, u43, u44, u45, u46, u47, u48, u49, u50, u51, u52, u53, u54, u55, u56, u57, u58, u59, u60, u61, u62, u63, u64, u65, u66, u67, u68, u69, u70, u71, u72, u73, u74, u75, u76, u77, u78, u79, u80, u81, u82, u83, u84, u85, u86, u87, u88, u89, u90, u91], []⟩ W := by
  subst hm
  have HM := Lib.hid hM
  obtain ⟨A, c, A2, c2, S1, S2, h1, h2, -⟩ := hM.kt.k
  have e0 := h1.cell 0
  simp only [List.getElem?_cons_zero] at e0
  have t0 : ((s.l.length : Int) == 0) = true := beq_iff_eq.2 (by omega)
  clear hM h1 h2 h0
  refine Lab.step (by kernel_rfl) ?_
  show Code.wp _ _ _ _ _
  go_wp2
  go_ret
  exact ⟨rfl, S, St, HM.out.kt, HM.out.tab, HM.out.upd⟩

set_option maxRecDepth 100000 in
set_option maxHeartbeats 400000 in
theorem rn_known (w W : World) (kb tb : Nat) (room : Int) (O : Own) (s : RdS) (S St : Own) (fb : Nat) (f : FieldS) (hM : RdM w W kb tb room O s S St fb f) (res : Option RdS) (n x : Nat) (h0 : 0 < s.l.length) (hx : (s.l.getD 0 0).toNat = x) (h128 : 128 ≤ x) (HN : match numS s.l 7 with | none => res = none | some (k, r) => if (atS s.tab k).2 then NextOk w kb tb room O (fieldStep room { s with l := r } (atS s.tab k).1) fb res n else res = none) (u1 u4 u5 u6 u9 u10 u11 u12 u13 u14 u15 u16 u17 u18 u19 u20 u21 u22 u23 u24 u25 u26 u27 u28 u29 u30 u31 u32 u33 u34 u35 u36 u37 u38 u39 u40 u41 u42 u43 u44 u45 u46 u47 u48 u49 u50 u51 u52 u53 u54 u55 u56 u57 u58 u59 u60 u61 u62 u63 u64 u65 u66 u67 u68 u69 u70 u71 u72 u73 u74 u75 u76 u77 u78 u79 u80 u81 u82 u83 u84 u85 u86 u87 u88 u89 u90 u91 : Value) :
    Lab Tryd.prog readBody (RdP res kb tb room O w) (n + 3) 0 ⟨#[.pointer (some ⟨kb, 0, none⟩), u1, .bool false, .pointer (some ⟨fb, 0, none⟩), u4, u5, u6, .int .i64 s.told, .bool s.any, u9, u10, u11, u12, u13, u14, u15, u16, u17, u18, u19, u20, u21, u22, u23, u24, u25, u26, u27, u28, u29, u30, u31, u32, u33, u34, u35, u36, u37, u38, u39, u40, u41, u42, u43, u44, u45, u46, u47, u48, u49, u50, u51, u52, u53, u54, u55, u56, u57, u58, u59, u60, u61, u62, u63, u64, u65, u66, u67, u68, u69, u70, u71, u72, u73, u74, u75, u76, u77, u78, u79, u80, u81, u82, u83, u84, u85, u86, u87, u88, u89, u90, u91], []⟩ W := by
  have HX := Lib.hid HN
  clear HN
  have HM := Lib.hid hM
  obtain ⟨A, c, A2, c2, S1, S2, h1, h2, -⟩ := hM.kt.k
  have e0 := h1.cell 0
  simp only [List.getElem?_cons_zero] at e0
  have t0 : ((s.l.length : Int) == 0) = false := beq_eq_false_iff_ne.2 (by omega)
  obtain ⟨ab, ao, hA, hcell⟩ := h2.rd.form (by omega)
  have hc0 := hcell 0 _ (bys_get s.l 0 (by omega))
  rw [← getD_zero s.l (by omega)] at hc0
  have hx2 := (s.l.getD 0 0).toNat_lt
  unfold by8 at hc0
  simp only [Nat.add_zero] at hc0
  rw [hx] at hc0 hx2
  have j0 : (0 : Int) < (s.l.length : Int) := by omega
  subst hA
  clear hM h1 h2 hcell hx
  have t1 : decide ((128 : Int) ≤ (x : Int)) = true := decide_eq_true (by omega)
  clear h128
  refine Lab.step (by kernel_rfl) ?_
  refine lab_tail 0 6 readBody (by kernel_rfl) ?_
  refine tail_step 7 readBody ?_
  show Code.wp _ _ _ _ _
  go_wp2
  show tailW _ _ _ _ _ _
  refine tail_step 8 readBody ?_
  show Code.wp _ _ _ _ _
  go_wp2
  show tailW _ _ _ _ _ _
  refine tail_step 9 readBody ?_
  show Code.wp _ _ _ _ _
  go_wp2
  go_step3
  simp only [Exit.inBlock, Exit.then, Jumps_goto]
  exact rd_known w W kb tb room O s S St fb f HM.out res n HX.out _ _ _ _ _ _ _ _ _ _ _ _ _ _ _ _ _ _ _ _ _ _ _ _ _ _ _ _ _ _ _ _ _ _ _ _ _ _ _ _ _ _ _ _ _ _ _ _ _ _ _ _ _ _ _ _ _ _ _ _ _ _ _ _ _ _ _ _ _ _ _ _ _ _ _ _ _ _ _ _ _ _ _ _ _ _ _

set_option maxRecDepth 100000 in
set_option maxHeartbeats 400000 in
theorem rn_learned (w W : World) (kb tb : Nat) (room : Int) (O : Own) (s : RdS) (S St : Own) (fb : Nat) (f : FieldS) (hM : RdM w W kb tb room O s S St fb f) (res : Option RdS) (n x : Nat) (h0 : 0 < s.l.length) (hx : (s.l.getD 0 0).toNat = x) (h128 : ¬ 128 ≤ x) (h64 : 64 ≤ x) (HN : match litS s.l s.tab 6 with | none => res = none | some (g, r) => NextOk w kb tb room O (fieldStep room { s with l := r, tab := addL s.most s.tab g } g) fb res n) (u1 u4 u5 u6 u9 u10 u11 u12 u13 u14 u15 u16 u17 u18 u19 u20 u21 u22 u23 u24 u25 u26 u27 u28 u29 u30 u31 u32 u33 u34 u35 u36 u37 u38 u39 u40 u41 u42 u43 u44 u45 u46 u47 u48 u49 u50 u51 u52 u53 u54 u55 u56 u57 u58 u59 u60 u61 u62 u63 u64 u65 u66 u67 u68 u69 u70 u71 u72 u73 u74 u75 u76 u77 u78 u79 u80 u81 u82 u83 u84 u85 u86 u87 u88 u89 u90 u91 : Value) :
    Lab Tryd.prog readBody (RdP res kb tb room O w) (n + 3) 0 ⟨#[.pointer (some ⟨kb, 0, none⟩), u1, .bool false, .pointer (some ⟨fb, 0, none⟩), u4, u5, u6, .int .i64 s.told, .bool s.any, u9, u10, u11, u12, u13, u14, u15, u16, u17, u18, u19, u20, u21, u22, u23, u24, u25, u26, u27, u28, u29, u30, u31, u32, u33, u34, u35, u36, u37, u38, u39, u40, u41, u42, u43, u44, u45, u46, u47, u48, u49, u50, u51, u52, u53, u54, u55, u56, u57, u58, u59, u60, u61, u62, u63, u64, u65, u66, u67, u68, u69, u70, u71, u72, u73, u74, u75, u76, u77, u78, u79, u80, u81, u82, u83, u84, u85, u86, u87, u88, u89, u90, u91], []⟩ W := by
  have HX := Lib.hid HN
  clear HN
  have HM := Lib.hid hM
  obtain ⟨A, c, A2, c2, S1, S2, h1, h2, -⟩ := hM.kt.k
  have e0 := h1.cell 0
  simp only [List.getElem?_cons_zero] at e0
  have t0 : ((s.l.length : Int) == 0) = false := beq_eq_false_iff_ne.2 (by omega)
  obtain ⟨ab, ao, hA, hcell⟩ := h2.rd.form (by omega)
  have hc0 := hcell 0 _ (bys_get s.l 0 (by omega))
  rw [← getD_zero s.l (by omega)] at hc0
  have hx2 := (s.l.getD 0 0).toNat_lt
  unfold by8 at hc0
  simp only [Nat.add_zero] at hc0
  rw [hx] at hc0 hx2
  have j0 : (0 : Int) < (s.l.length : Int) := by omega
  subst hA
  clear hM h1 h2 hcell hx
  have t1 : decide ((128 : Int) ≤ (x : Int)) = false := decide_eq_false (by omega)
  have t2 : decide ((64 : Int) ≤ (x : Int)) = true := decide_eq_true (by omega)
  clear h128 h64
  refine Lab.step (by kernel_rfl) ?_
  refine lab_tail 0 6 readBody (by kernel_rfl) ?_
  refine tail_step 7 readBody ?_
  show Code.wp _ _ _ _ _
  go_wp2
  show tailW _ _ _ _ _ _
  refine tail_step 8 readBody ?_
  show Code.wp _ _ _ _ _
  go_wp2
  show tailW _ _ _ _ _ _
  refine tail_step 9 readBody ?_
  show Code.wp _ _ _ _ _
  go_wp2
  go_step3
  simp only [Exit.inBlock, Exit.then, Jumps_goto]
  exact rd_learned w W kb tb room O s S St fb f HM.out res n HX.out _ _ _ _ _ _ _ _ _ _ _ _ _ _ _ _ _ _ _ _ _ _ _ _ _ _ _ _ _ _ _ _ _ _ _ _ _ _ _ _ _ _ _ _ _ _ _ _ _ _ _ _ _ _ _ _ _ _ _ _ _ _ _ _ _ _ _ _ _ _ _ _ _ _ _ _ _ _ _ _ _ _ _ _ _ _ _

set_option maxRecDepth 100000 in
set_option maxHeartbeats 400000 in
theorem rn_limited (w W : World) (kb tb : Nat) (room : Int) (O : Own) (s : RdS) (S St : Own) (fb : Nat) (f : FieldS) (hM : RdM w W kb tb room O s S St fb f) (res : Option RdS) (n x : Nat) (h0 : 0 < s.l.length) (hx : (s.l.getD 0 0).toNat = x) (h128 : ¬ 128 ≤ x) (h64 : ¬ 64 ≤ x) (h32 : 32 ≤ x) (HN : match numS s.l 5 with | none => res = none | some (k, r) => if s.any = true ∨ 2 < s.told + 1 ∨ 4096 < k then res = none else NextOk w kb tb room O { s with l := r, told := s.told + 1, tab := shrinkL k s.tab, most := k } fb res n) (u1 u4 u5 u6 u9 u10 u11 u12 u13 u14 u15 u16 u17 u18 u19 u20 u21 u22 u23 u24 u25 u26 u27 u28 u29 u30 u31 u32 u33 u34 u35 u36 u37 u38 u39 u40 u41 u42 u43 u44 u45 u46 u47 u48 u49 u50 u51 u52 u53 u54 u55 u56 u57 u58 u59 u60 u61 u62 u63 u64 u65 u66 u67 u68 u69 u70 u71 u72 u73 u74 u75 u76 u77 u78 u79 u80 u81 u82 u83 u84 u85 u86 u87 u88 u89 u90 u91 : Value) :
    Lab Tryd.prog readBody (RdP res kb tb room O w) (n + 2) 0 ⟨#[.pointer (some ⟨kb, 0, none⟩), u1, .bool false, .pointer (some ⟨fb, 0, none⟩), u4, u5, u6, .int .i64 s.told, .bool s.any, u9, u10, u11, u12, u13, u14, u15, u16, u17, u18, u19, u20, u21, u22, u23, u24, u25, u26, u27, u28, u29, u30, u31, u32, u33, u34, u35, u36, u37, u38, u39, u40, u41, u42, u43, u44, u45, u46, u47, u48, u49, u50, u51, u52, u53, u54, u55, u56, u57, u58, u59, u60, u61, u62, u63, u64, u65, u66, u67, u68, u69, u70, u71, u72, u73, u74, u75, u76, u77, u78, u79, u80, u81, u82, u83, u84, u85, u86, u87, u88, u89, u90, u91], []⟩ W := by
  have HX := Lib.hid HN
  clear HN
  have HM := Lib.hid hM
  obtain ⟨A, c, A2, c2, S1, S2, h1, h2, -⟩ := hM.kt.k
  have e0 := h1.cell 0
  simp only [List.getElem?_cons_zero] at e0
  have t0 : ((s.l.length : Int) == 0) = false := beq_eq_false_iff_ne.2 (by omega)
  obtain ⟨ab, ao, hA, hcell⟩ := h2.rd.form (by omega)
  have hc0 := hcell 0 _ (bys_get s.l 0 (by omega))
  rw [← getD_zero s.l (by omega)] at hc0
  have hx2 := (s.l.getD 0 0).toNat_lt
  unfold by8 at hc0
  simp only [Nat.add_zero] at hc0
  rw [hx] at hc0 hx2
  have j0 : (0 : Int) < (s.l.length : Int) := by omega
  subst hA
  clear hM h1 h2 hcell hx
  have t1 : decide ((128 : Int) ≤ (x : Int)) = false := decide_eq_false (by omega)
  have t2 : decide ((64 : Int) ≤ (x : Int)) = false := decide_eq_false (by omega)
  have t3 : decide ((32 : Int) ≤ (x : Int)) = true := decide_eq_true (by omega)
  clear h128 h64 h32
  refine Lab.step (by kernel_rfl) ?_
  refine lab_tail 0 6 readBody (by kernel_rfl) ?_
  refine tail_step 7 readBody ?_
  show Code.wp _ _ _ _ _
  go_wp2
  show tailW _ _ _ _ _ _
  refine tail_step 8 readBody ?_
  show Code.wp _ _ _ _ _
  go_wp2
  show tailW _ _ _ _ _ _
  refine tail_step 9 readBody ?_
  show Code.wp _ _ _ _ _
  go_wp2
  go_step3
  simp only [Exit.inBlock, Exit.then, Jumps_goto]
  exact rd_limited w W kb tb room O s S St fb f HM.out res n HX.out _ _ _ _ _ _ _ _ _ _ _ _ _ _ _ _ _ _ _ _ _ _ _ _ _ _ _ _ _ _ _ _ _ _ _ _ _ _ _ _ _ _ _ _ _ _ _ _ _ _ _ _ _ _ _ _ _ _ _ _ _ _ _ _ _ _ _ _ _ _ _ _ _ _ _ _ _ _ _ _ _ _ _ _ _ _ _

set_option maxRecDepth 100000 in
set_option maxHeartbeats 400000 in
theorem rn_lit (w W : World) (kb tb : Nat) (room : Int) (O : Own) (s : RdS) (S St : Own) (fb : Nat) (f : FieldS) (hM : RdM w W kb tb room O s S St fb f) (res : Option RdS) (n x : Nat) (h0 : 0 < s.l.length) (hx : (s.l.getD 0 0).toNat = x) (h128 : ¬ 128 ≤ x) (h64 : ¬ 64 ≤ x) (h32 : ¬ 32 ≤ x) (HN : match litS s.l s.tab 4 with | none => res = none | some (g, r) => NextOk w kb tb room O (fieldStep room { s with l := r } ⟨g.name, g.value, decide (16 ≤ x)⟩) fb res n) (u1 u4 u5 u6 u9 u10 u11 u12 u13 u14 u15 u16 u17 u18 u19 u20 u21 u22 u23 u24 u25 u26 u27 u28 u29 u30 u31 u32 u33 u34 u35 u36 u37 u38 u39 u40 u41 u42 u43 u44 u45 u46 u47 u48 u49 u50 u51 u52 u53 u54 u55 u56 u57 u58 u59 u60 u61 u62 u63 u64 u65 u66 u67 u68 u69 u70 u71 u72 u73 u74 u75 u76 u77 u78 u79 u80 u81 u82 u83 u84 u85 u86 u87 u88 u89 u90 u91 : Value) :
    Lab Tryd.prog readBody (RdP res kb tb room O w) (n + 2) 0 ⟨#[.pointer (some ⟨kb, 0, none⟩), u1, .bool false, .pointer (some ⟨fb, 0, none⟩), u4, u5, u6, .int .i64 s.told, .bool s.any, u9, u10, u11, u12, u13, u14, u15, u16, u17, u18, u19, u20, u21, u22, u23, u24, u25, u26, u27, u28, u29, u30, u31, u32, u33, u34, u35, u36, u37, u38, u39, u40, u41, u42, u43, u44, u45, u46, u47, u48, u49, u50, u51, u52, u53, u54, u55, u56, u57, u58, u59, u60, u61, u62, u63, u64, u65, u66, u67, u68, u69, u70, u71, u72, u73, u74, u75, u76, u77, u78, u79, u80, u81, u82, u83, u84, u85, u86, u87, u88, u89, u90, u91], []⟩ W := by
  have HX := Lib.hid HN
  clear HN
  have HM := Lib.hid hM
  obtain ⟨A, c, A2, c2, S1, S2, h1, h2, -⟩ := hM.kt.k
  have e0 := h1.cell 0
  simp only [List.getElem?_cons_zero] at e0
  have t0 : ((s.l.length : Int) == 0) = false := beq_eq_false_iff_ne.2 (by omega)
  obtain ⟨ab, ao, hA, hcell⟩ := h2.rd.form (by omega)
  have hc0 := hcell 0 _ (bys_get s.l 0 (by omega))
  rw [← getD_zero s.l (by omega)] at hc0
  have hx2 := (s.l.getD 0 0).toNat_lt
  unfold by8 at hc0
  simp only [Nat.add_zero] at hc0
  rw [hx] at hc0 hx2
  have j0 : (0 : Int) < (s.l.length : Int) := by omega
  subst hA
  clear hM h1 h2 hcell hx
  have t1 : decide ((128 : Int) ≤ (x : Int)) = false := decide_eq_false (by omega)
  have t2 : decide ((64 : Int) ≤ (x : Int)) = false := decide_eq_false (by omega)
  have t3 : decide ((32 : Int) ≤ (x : Int)) = false := decide_eq_false (by omega)
  clear h128 h64 h32
  refine Lab.step (by kernel_rfl) ?_
  refine lab_tail 0 6 readBody (by kernel_rfl) ?_
  refine tail_step 7 readBody ?_
  show Code.wp _ _ _ _ _
  go_wp2
  show tailW _ _ _ _ _ _
  refine tail_step 8 readBody ?_
  show Code.wp _ _ _ _ _
  go_wp2
  show tailW _ _ _ _ _ _
  refine tail_step 9 readBody ?_
  show Code.wp _ _ _ _ _
  go_wp2
  show tailW _ _ _ _ _ _
  exact rd_lit w W kb tb room O s S St fb f HM.out res n x HX.out _ _ _ _ _ _ _ _ _ _ _ _ _ _ _ _ _ _ _ _ _ _ _ _ _ _ _ _ _ _ _ _ _ _ _ _ _ _ _ _ _ _ _ _ _ _ _ _ _ _ _ _ _ _ _ _ _ _ _ _ _ _ _ _ _ _ _ _ _ _ _ _ _ _ _ _ _ _ _ _ _ _ _ _ _ _

end Go.Proofs.YthmfifcogokpoaaDoor
namespace Go.Proofs.YthmfifcogokpoaaDoor
open Go.RowKit

theorem rd_all (w : World) (kb tb : Nat) (room : Int) (O : Own) (fb : Nat) : ∀ (fuel : Nat) (s : RdS) (m : Nat), s.l.length < fuel → NextOk w kb tb room O s fb (readB room fuel s) (3 * fuel + m) := by
  intro fuel
  induction fuel with
  | zero => intro s m h; omega
  | succ fuel ih =>
    intro s m hfl W S St f hM u1 u4 u5 u6 u9 u10 u11 u12 u13 u14 u15 u16 u17 u18 u19 u20 u21 u22 u23 u24 u25 u26 u27 u28 u29 u30 u31 u32 u33 u34 u35 u36 u37 u38 u39 u40 u41 u42 u43 u44 u45 u46 u47 u48 u49 u50 u51 u52 u53 u54 u55 u56 u57 u58 u59 u60 u61 u62 u63 u64 u65 u66 u67 u68 u69 u70 u71 u72 u73 u74 u75 u76 u77 u78 u79 u80 u81 u82 u83 u84 u85 u86 u87 u88 u89 u90 u91
    simp only [readB]
    by_cases h0 : s.l.length = 0
    · rw [if_pos h0]
      exact rn_end w W kb tb room O s S St fb f hM (3 * fuel + 2 + m) h0 (3 * (fuel + 1) + m) (by omega) u1 u4 u5 u6 u9 u10 u11 u12 u13 u14 u15 u16 u17 u18 u19 u20 u21 u22 u23 u24 u25 u26 u27 u28 u29 u30 u31 u32 u33 u34 u35 u36 u37 u38 u39 u40 u41 u42 u43 u44 u45 u46 u47 u48 u49 u50 u51 u52 u53 u54 u55 u56 u57 u58 u59 u60 u61 u62 u63 u64 u65 u66 u67 u68 u69 u70 u71 u72 u73 u74 u75 u76 u77 u78 u79 u80 u81 u82 u83 u84 u85 u86 u87 u88 u89 u90 u91
    · rw [if_neg h0]
      have hfl2 : ∀ r : List UInt8, r.length < s.l.length → r.length < fuel := fun r h => by omega
      have htok := hM.tab.ok
      by_cases h128 : 128 ≤ (s.l.getD 0 0).toNat
      · rw [show 3 * (fuel + 1) + m = (3 * fuel + m) + 3 by omega]
        refine rn_known w W kb tb room O s S St fb f hM _ (3 * fuel + m) _ (by omega) rfl h128 ?_ u1 u4 u5 u6 u9 u10 u11 u12 u13 u14 u15 u16 u17 u18 u19 u20 u21 u22 u23 u24 u25 u26 u27 u28 u29 u30 u31 u32 u33 u34 u35 u36 u37 u38 u39 u40 u41 u42 u43 u44 u45 u46 u47 u48 u49 u50 u51 u52 u53 u54 u55 u56 u57 u58 u59 u60 u61 u62 u63 u64 u65 u66 u67 u68 u69 u70 u71 u72 u73 u74 u75 u76 u77 u78 u79 u80 u81 u82 u83 u84 u85 u86 u87 u88 u89 u90 u91
        unfold oneS
        rw [if_pos h128]
        cases hn : numS s.l 7 with
        | none => rfl
        | some p =>
          obtain ⟨k, r⟩ := p
          simp only
          split
          · exact ih _ m (hfl2 r (numS_len s.l r 7 k hn).1)
          · rfl
      · by_cases h64 : 64 ≤ (s.l.getD 0 0).toNat
        · rw [show 3 * (fuel + 1) + m = (3 * fuel + m) + 3 by omega]
          refine rn_learned w W kb tb room O s S St fb f hM _ (3 * fuel + m) _ (by omega) rfl h128 h64 ?_ u1 u4 u5 u6 u9 u10 u11 u12 u13 u14 u15 u16 u17 u18 u19 u20 u21 u22 u23 u24 u25 u26 u27 u28 u29 u30 u31 u32 u33 u34 u35 u36 u37 u38 u39 u40 u41 u42 u43 u44 u45 u46 u47 u48 u49 u50 u51 u52 u53 u54 u55 u56 u57 u58 u59 u60 u61 u62 u63 u64 u65 u66 u67 u68 u69 u70 u71 u72 u73 u74 u75 u76 u77 u78 u79 u80 u81 u82 u83 u84 u85 u86 u87 u88 u89 u90 u91
          unfold oneS
          rw [if_neg h128, if_pos h64]
          cases hn : litS s.l s.tab 6 with
          | none => rfl
          | some p =>
            obtain ⟨g, r⟩ := p
            exact ih _ m (hfl2 r (litS_facts s.l r s.tab 6 g htok hn).1)
        · by_cases h32 : 32 ≤ (s.l.getD 0 0).toNat
          · rw [show 3 * (fuel + 1) + m = (3 * fuel + (m + 1)) + 2 by omega]
            refine rn_limited w W kb tb room O s S St fb f hM _ (3 * fuel + (m + 1)) _ (by omega) rfl h128 h64 h32 ?_ u1 u4 u5 u6 u9 u10 u11 u12 u13 u14 u15 u16 u17 u18 u19 u20 u21 u22 u23 u24 u25 u26 u27 u28 u29 u30 u31 u32 u33 u34 u35 u36 u37 u38 u39 u40 u41 u42 u43 u44 u45 u46 u47 u48 u49 u50 u51 u52 u53 u54 u55 u56 u57 u58 u59 u60 u61 u62 u63 u64 u65 u66 u67 u68 u69 u70 u71 u72 u73 u74 u75 u76 u77 u78 u79 u80 u81 u82 u83 u84 u85 u86 u87 u88 u89 u90 u91
            unfold oneS
            rw [if_neg h128, if_neg h64, if_pos h32]
            cases hn : numS s.l 5 with
            | none => rfl
            | some p =>
              obtain ⟨k, r⟩ := p
              simp only
              split
              · rfl
              · exact ih _ (m + 1) (hfl2 r (numS_len s.l r 5 k hn).1)
          · rw [show 3 * (fuel + 1) + m = (3 * fuel + (m + 1)) + 2 by omega]
            refine rn_lit w W kb tb room O s S St fb f hM _ (3 * fuel + (m + 1)) _ (by omega) rfl h128 h64 h32 ?_ u1 u4 u5 u6 u9 u10 u11 u12 u13 u14 u15 u16 u17 u18 u19 u20 u21 u22 u23 u24 u25 u26 u27 u28 u29 u30 u31 u32 u33 u34 u35 u36 u37 u38 u39 u40 u41 u42 u43 u44 u45 u46 u47 u48 u49 u50 u51 u52 u53 u54 u55 u56 u57 u58 u59 u60 u61 u62 u63 u64 u65 u66 u67 u68 u69 u70 u71 u72 u73 u74 u75 u76 u77 u78 u79 u80 u81 u82 u83 u84 u85 u86 u87 u88 u89 u90 u91
            unfold oneS
            rw [if_neg h128, if_neg h64, if_neg h32]
            cases hn : litS s.l s.tab 4 with
            | none => rfl
            | some p =>
              obtain ⟨g, r⟩ := p
              exact ih _ (m + 1) (hfl2 r (litS_facts s.l r s.tab 4 g htok hn).1)

set_option maxRecDepth 100000 in
set_option maxHeartbeats 400000 in
theorem read_any (w : World) (kb tb : Nat) (room : Int) (l : List UInt8) (S : Own) (tab : List FieldS) (most : Int) (St : Own) (h : KT w kb tb l room 0 [] S tab most St) (htab : TabOk tab most) (hl : l.length ≤ 1000000) :
    Calls Tryd.prog 64 #[.pointer (some ⟨kb, 0, none⟩)] w (ReadQ (readB room (l.length + 1) ⟨l, tab, most, 0, [], 0, false⟩) kb tb room (or_ S St) w) := by
  have HA := Lib.hid (fun fb => rd_all w kb tb room (or_ S St) fb (l.length + 1) ⟨l, tab, most, 0, [], 0, false⟩ 1 (Nat.lt_succ_self _))
  have H := Lib.hid h
  have HT := Lib.hid htab
  have HL := Lib.hid hl
  clear h htab hl
  generalize readB room (l.length + 1) ⟨l, tab, most, 0, [], 0, false⟩ = res at *
  go_enter Tryd.func64, Tryd.ntmps64
  go_wp2
  refine wp_scope_thru readBody (by kernel_rfl) (3 * (l.length + 1)) 0 (by kernel_rfl) ?_
  iterate 6 (show Code.wp _ _ _ _ _; go_wp2)
  show Lab _ _ _ _ _ _ _
  refine HA.out w.heap.size _ S St ⟨⟨#[]⟩, ⟨#[]⟩, false⟩ ⟨H.out.below ((Below.refl _ _).alloc (Nat.le_refl _) _), Blk.new w _ [.string ⟨#[]⟩, .string ⟨#[]⟩, .bool false], ⟨fun h => ?_, fun h => ?_⟩, Nat.le_refl _, H.out.g.pos, (Upd.refl _ _).alloc _, HT.out, by simp, ⟨0, by simp, by simp, by simpa using HL.out⟩⟩ _ _ _ _ _ _ _ _ _ _ _ _ _ _ _ _ _ _ _ _ _ _ _ _ _ _ _ _ _ _ _ _ _ _ _ _ _ _ _ _ _ _ _ _ _ _ _ _ _ _ _ _ _ _ _ _ _ _ _ _ _ _ _ _ _ _ _ _ _ _ _ _ _ _ _ _ _ _ _ _ _ _ _ _ _ _ _
  · have := H.out.k.lt _ h; omega
  · have := H.out.t.lt _ h; omega
end Go.Proofs.YthmfifcogokpoaaDoor
namespace Go.Proofs.YthmfifcogokpoaaDoor
open Go.RowKit
attribute [local go_sem] eqlNilBytes

theorem slClone_any (A : Option Addr) (n c : Nat) (xs : List Value) (w : World) (h : Rd w 1 A n c xs) (h1 : ∀ u ∈ xs, u.oneCell' = true) (hn : n ≤ big) :
    Calls Tryd.prog 63 #[.slice A n c] w fun e w' => ∃ A' c' S', e = .returned (.slice A' n c') ∧ Row 5 1 A' n c' xs S' w' ∧ Upd none_ S' w w' := by
  have hlen := h.len
  cases A with
  | none =>
    have h0 := h.nil rfl
    subst h0
    obtain rfl : n = 0 := by have := h.le; omega
    have hx : xs = [] := List.eq_nil_of_length_eq_zero (by simpa using h.len)
    subst hx
    go_enter Tryd.func63, Tryd.ntmps63
    go_wp2
    go_ret
    exact ⟨none, 0, none_, rfl, Row.nil _ _ _, Upd.refl _ _⟩
  | some ad =>
    have hrow := Row.empty 5 1 w
    have hsrc : Src Tryd.prog (w.alloc (.cells #[] 5)) 1 (.slice (some ad) n c) n xs := Src.of_rd (h.alloc (by omega) _) h1
    have h63 : 0 + n ≤ maxLen := by have := h.cap; have := h.le; omega
    have hb : (0 + n) * 1 ≤ big := by omega
    clear h h1 hlen hn
    go_enter Tryd.func63, Tryd.ntmps63
    go_wp2_with (at_builtin; refine wpList_append (by rfl) _ _ _ _ (by rfl) 5 1 1 tyBytes tyBytes.src (some ⟨w.heap.size, 0, none⟩) 0 0 [] (· = w.heap.size) _ n xs (by rfl) (by rfl) hrow hsrc h63 hb ?_; intro A' c' w' S' hr hu ha)
    go_ret
    refine ⟨A', c', S', ?_, ?_, ?_⟩
    · simp
    · simpa using hr
    · exact ⟨hu.os, hu.tape, hu.output, by have := hu.size; simp at this; omega, fun k hk _ => (hu.block k (by simp; omega) (by omega)).trans (Below.heap_alloc w _ k hk), fun k hk => by rcases hu.own k hk with h | h; exact .inr (by rw [h]; exact Nat.le_refl _); simp at h; exact .inr (by omega)⟩

/-- A decoder in order. -/
def DecAt (w : World) (db : Nat) (tab : List FieldS) (most : Int) (S : Own) : Prop :=
  ∃ tb St, Blk w db 78 [.pointer (some ⟨tb, 0, none⟩), .bool false] ∧ TableAt w tb tab most St ∧ ¬ St db ∧ (∀ k, S k ↔ k = db ∨ St k) ∧ TabOk tab most
theorem DecAt.loc {w w' : World} {db : Nat} {tab : List FieldS} {most : Int} {S : Own} (h : DecAt w db tab most S) (hk : ∀ k, S k → w'.heap[k]? = w.heap[k]?) : DecAt w' db tab most S := by
  obtain ⟨tb, St, h1, h2, h3, h4, h5⟩ := h
  exact ⟨tb, St, h1.keep (hk db ((h4 db).2 (.inl rfl))), h2.loc fun k hs => hk k ((h4 k).2 (.inr hs)), h3, h4, h5⟩
theorem DecAt.lt {w : World} {db : Nat} {tab : List FieldS} {most : Int} {S : Own} (h : DecAt w db tab most S) : ∀ k, S k → k < w.heap.size := by
  obtain ⟨tb, St, h1, h2, h3, h4, h5⟩ := h
  intro k hk
  rcases (h4 k).1 hk with rfl | h6
  · exact h1.lt
  · exact h2.lt k h6
theorem DecAt.base {w : World} {db : Nat} {tab : List FieldS} {most : Int} {S : Own} (h : DecAt w db tab most S) : S db := by
  obtain ⟨tb, St, h1, h2, h3, h4, h5⟩ := h
  exact (h4 db).2 (.inl rfl)

/-- What a block comes to: nothing (it is none), or the state behind it. -/
noncomputable def blockS (room : Int) (tab : List FieldS) (most : Int) (l : List UInt8) : Option RdS := readB room (l.length + 1) ⟨l, tab, most, 0, [], 0, false⟩
def DecodeQ (r : Option RdS) (room : Int) (db : Nat) (S : Own) (w : World) (e : Ending) (w' : World) : Prop :=
  match r with
  | none => e = .returned (.tuple #[.slice none 0 0, .int .i64 2]) ∧ Upd S S w w'
  | some s =>
    if room < s.total then e = .returned (.tuple #[.slice none 0 0, .int .i64 3]) ∧ ∃ S', DecAt w' db s.tab s.most S' ∧ Upd S S' w w'
    else ∃ A c Sf S', e = .returned (.tuple #[.slice A s.fs.length c, .int .i64 0]) ∧ Row 109 3 A s.fs.length c (fieldCells s.fs) Sf w' ∧ DecAt w' db s.tab s.most S' ∧ Apart Sf S' ∧ Upd S (or_ Sf S') w w'

noncomputable def dcBody : Code := Tryd.f53.body.getD .skip

set_option maxRecDepth 100000 in
set_option maxHeartbeats 1000000 in
theorem dc_tail (w W : World) (db kb tb : Nat) (room : Int) (l : List UInt8) (S Sk St : Own) (tab : List FieldS) (most : Int) (h : KT W kb tb l room 0 [] Sk tab most St) (htab : TabOk tab most) (hl : l.length ≤ 1000000) (hd : Blk W db 78 [.pointer (some ⟨tb, 0, none⟩), .bool false]) (hS : ∀ k, S k ↔ k = db ∨ St k) (hdt : ¬ St db) (hdk : ¬ Sk db) (hu : Upd S (or_ S Sk) w W) (u1 u3 u4 u5 u9 u10 u11 u12 u13 u14 u15 u16 u17 u18 u19 u20 u21 u22 u23 u24 u25 u26 u27 u28 u29 u30 u31 u32 u33 u34 u35 u36 u37 u38 u39 : Value) :
    tailW Tryd.prog 3 dcBody (bodyPost Tryd.prog Tryd.f53 (DecodeQ (blockS room tab most l) room db S w)) ⟨#[.pointer (some ⟨db, 0, none⟩), u1, .int .i64 room, u3, u4, u5, .slice none 0 0, .int .i64 0, .pointer (some ⟨kb, 0, none⟩), u9, u10, u11, u12, u13, u14, u15, u16, u17, u18, u19, u20, u21, u22, u23, u24, u25, u26, u27, u28, u29, u30, u31, u32, u33, u34, u35, u36, u37, u38, u39], []⟩ W := by
  have HR := Lib.hid (read_any W kb tb room l Sk tab most St h htab hl)
  have H := Lib.hid h
  have HD := Lib.hid hd
  have HU := Lib.hid hu
  have hlt := hd.lt
  have HTT := Lib.hid h.t.lt
  have HUR := Lib.hid (show ∀ w', Upd (or_ Sk St) (or_ Sk St) W w' → Upd S S w w' from fun w' hr => (hu.trans ((hr.wider (R := or_ S Sk) (fun k hk => by
      rcases hk with hk | hk
      · exact .inr hk
      · exact .inl ((hS k).2 (.inr hk)))).holds (S'' := S) (fun k hk => .inl (.inl hk)))))
  have HU2 := Lib.hid (show ∀ w' S2 St2 U, Upd (or_ Sk St) (or_ S2 St2) W w' → (∀ k, U k → k = db ∨ S2 k ∨ St2 k) → Upd S U w w' from fun w' S2 St2 U hr hU => by
    have h1 := hu.trans (hr.wider (R := or_ S Sk) (fun k hk => by
      rcases hk with hk | hk
      · exact .inr hk
      · exact .inl ((hS k).2 (.inr hk))))
    exact h1.holds fun k hk => by
      rcases hU k hk with h2 | h2
      · exact .inl ((hS k).2 (.inl h2))
      · exact h1.own k h2)
  have hno : ¬ or_ Sk St db := fun hk => hk.elim hdk hdt
  clear h hd hu hl
  unfold blockS
  generalize readB room (l.length + 1) ⟨l, tab, most, 0, [], 0, false⟩ = res at *
  cases res with
  | none =>
    show Code.wp _ _ _ _ _
    go_wp2_with (go_at_call 64; refine HR.out.mono ?_; rintro e w1 ⟨rfl, hr⟩; have hb1 := HD.out.upd hr hno; have p1 := hb1.cell 1; have z1 := hb1.frozen 1; simp only [List.getElem?_cons_succ, List.getElem?_cons_zero] at p1; have HR1 := Lib.hid (HUR.out _ hr); clear hb1 hr)
    go_ret2
    exact ⟨rfl, HR1.out.setCell (p := ⟨db, 1, none⟩) (.inl ((hS db).2 (.inl rfl))) _⟩
  | some s =>
    by_cases hroom : room < s.total
    · have t1 : decide (room < (s.total : Int)) = true := decide_eq_true hroom
      show Code.wp _ _ _ _ _
      go_wp2_with (go_at_call 64; refine HR.out.mono ?_; rintro e w1 ⟨rfl, S2, St2, hk2, ht2, hr⟩; have hb1 := HD.out.upd hr hno; have HB1 := Lib.hid hb1; have HK2 := Lib.hid hk2; have HT2 := Lib.hid ht2; have HR1 := Lib.hid hr; obtain ⟨A, c, A2, c2, S3, S4, h1, h2, h3, h4, h5, h6, h7⟩ := hk2.k; have p3 := h1.cell 3; have z3 := h1.frozen 3; have p4 := h1.cell 4; have z4 := h1.frozen 4; have H3 := Lib.hid h3; have H7 := Lib.hid h7; simp only [List.getElem?_cons_succ, List.getElem?_cons_zero] at p3 p4; clear hb1 hk2 ht2 hr h1 h2 h3 h4 h5 h6 h7)
      go_ret2
      have hno2 : ¬ or_ S2 St2 db := fun hk => by
        rcases HR1.out.own db hk with h | h
        · exact hno h
        · omega
      simp only [DecodeQ, if_pos hroom]
      exact ⟨rfl, _, ⟨tb, St2, HB1.out, HK2.out.t, fun h => hno2 (.inr h), fun _ => Iff.rfl, HT2.out⟩, HU2.out _ _ _ _ HR1.out fun k hk => hk.imp id .inr⟩
    · have t1 : decide (room < (s.total : Int)) = false := decide_eq_false hroom
      show Code.wp _ _ _ _ _
      go_wp2_with (go_at_call 64; refine HR.out.mono ?_; rintro e w1 ⟨rfl, S2, St2, hk2, ht2, hr⟩; have hb1 := HD.out.upd hr hno; have HB1 := Lib.hid hb1; have HK2 := Lib.hid hk2; have HT2 := Lib.hid ht2; have HR1 := Lib.hid hr; obtain ⟨A, c, A2, c2, S3, S4, h1, h2, h3, h4, h5, h6, h7⟩ := hk2.k; have p3 := h1.cell 3; have z3 := h1.frozen 3; have p4 := h1.cell 4; have z4 := h1.frozen 4; have H3 := Lib.hid h3; have H7 := Lib.hid h7; simp only [List.getElem?_cons_succ, List.getElem?_cons_zero] at p3 p4; clear hb1 hk2 ht2 hr h1 h2 h3 h4 h5 h6 h7)
      go_ret2
      have hno2 : ¬ or_ S2 St2 db := fun hk => by
        rcases HR1.out.own db hk with h | h
        · exact hno h
        · omega
      simp only [DecodeQ, if_neg (Int.not_lt.2 hroom)]
      exact ⟨A2, c2, S4, _, rfl, H3.out, ⟨tb, St2, HB1.out, HK2.out.t, fun h => hno2 (.inr h), fun _ => Iff.rfl, HT2.out⟩, fun k h8 h9 => by
        have h10 := (H7.out k).2 (.inr (.inr h8))
        rcases h9 with rfl | h9
        · exact hno2 (.inl h10)
        · exact HK2.out.apart k h10 h9, HU2.out _ _ _ _ HR1.out fun k hk => by
        rcases hk with hk | hk | hk
        · exact .inr (.inl ((H7.out k).2 (.inr (.inr hk))))
        · exact .inl hk
        · exact .inr (.inr hk)⟩

set_option maxRecDepth 100000 in
set_option maxHeartbeats 1000000 in
theorem decode_any (w : World) (db : Nat) (room : Int) (tab : List FieldS) (most : Int) (S : Own) (h : DecAt w db tab most S) (hg : GlobOk w) (h0 : ¬ S 0) (A : Option Addr) (c : Nat) (l : List UInt8) (hrd : Rd w 1 A l.length c (bys l)) (hl : l.length ≤ 1000000) :
    Calls Tryd.prog 53 #[.pointer (some ⟨db, 0, none⟩), .slice A l.length c, .int .i64 room] w (DecodeQ (blockS room tab most l) room db S w) := by
  obtain ⟨tb, St, hd, ht, hn, hS, htab⟩ := h
  have HDC := Lib.hid (fun W kb Sk hK hd hdk hu => dc_tail w W db kb tb room l S Sk St tab most hK htab hl hd hS hn hdk hu)
  have HCL := Lib.hid (fun q => slClone_any A l.length c (bys l) (w.drewN q) (hrd.keep (fun _ _ => rfl)) (by intro u hu; simp only [bys, List.mem_map] at hu; obtain ⟨x, -, rfl⟩ := hu; rfl) (by simp only [big]; omega))
  have hlt := hd.lt
  have htl := ht.lt
  have HG := Lib.hid hg
  have HT := Lib.hid ht
  have HD := Lib.hid hd
  have HS := Lib.hid hS
  have h0t : ¬ St 0 := fun h => h0 ((hS 0).2 (.inr h))
  have HN := Lib.hid hn
  have e0 := hd.cell 0
  have e1 := hd.cell 1
  have f0 := hd.frozen 0
  have f1 := hd.frozen 1
  simp only [List.getElem?_cons_succ, List.getElem?_cons_zero] at e0 e1
  clear hrd hd ht hg hl hS htab hn h0
  generalize blockS room tab most l = res at *
  go_enter Tryd.func53, Tryd.ntmps53
  refine wp_cut_as dcBody (by kernel_rfl) 3 ?_
  show Code.wp _ _ _ _ _
  go_wp2
  show Code.wp _ _ _ _ _
  go_wp2
  show Code.wp _ _ _ _ _
  refine wp_region_S (fun W => W.cell? ⟨db, 0, none⟩ = some (.pointer (some ⟨tb, 0, none⟩))) 10 (by kernel_rfl) (e0) (fun hHeld => ?_)
  refine AnyS_take (i := 0) (v := ?_) rfl (by kernel_rfl) (by kernel_rfl) (by kernel_rfl) (by kernel_rfl) (by kernel_rfl) (fun _ _ _ h => h) (Or.inl ⟨by rfl, ?_⟩) hHeld ?_
  rotate_left
  · intro w' hSw
    (try dsimp only at hSw)
    go_simp
    try with_reducible rfl
  try simp only [Act.put, List.setIfInBounds_toArray, List.set_cons_zero, List.set_cons_succ]
  refine AnyS_take (i := 2) (v := ?_) rfl (by kernel_rfl) (by kernel_rfl) (by kernel_rfl) (by kernel_rfl) (by kernel_rfl) (fun _ _ _ h => h) (Or.inl ⟨by rfl, ?_⟩) hHeld ?_
  rotate_left
  · intro w' hSw
    (try dsimp only at hSw)
    go_simp
    try with_reducible rfl
  try simp only [Act.put, List.setIfInBounds_toArray, List.set_cons_zero, List.set_cons_succ]
  refine AnyS_take (i := 3) (v := ?_) rfl (by kernel_rfl) (by kernel_rfl) (by kernel_rfl) (by kernel_rfl) (by kernel_rfl) (fun _ _ _ h => h) (Or.inl ⟨by rfl, ?_⟩) hHeld ?_
  rotate_left
  · intro w' hSw
    (try dsimp only at hSw)
    go_simp
    try with_reducible rfl
  try simp only [Act.put, List.setIfInBounds_toArray, List.set_cons_zero, List.set_cons_succ]
  refine AnyS_take (i := 4) (v := ?_) rfl (by kernel_rfl) (by kernel_rfl) (by kernel_rfl) (by kernel_rfl) (by kernel_rfl) (fun _ _ _ h => h) (Or.inl ⟨by rfl, ?_⟩) hHeld ?_
  rotate_left
  · intro w' hSw
    (try dsimp only at hSw)
    go_simp
    try with_reducible rfl
  try simp only [Act.put, List.setIfInBounds_toArray, List.set_cons_zero, List.set_cons_succ]
  refine AnyS_take (i := 5) (v := ?_) rfl (by kernel_rfl) (by kernel_rfl) (by kernel_rfl) (by kernel_rfl) (by kernel_rfl) (fun _ _ _ h => h) (Or.inl ⟨by rfl, ?_⟩) hHeld ?_
  rotate_left
  · intro w' hSw
    (try dsimp only at hSw)
    go_simp
    try with_reducible rfl
  try simp only [Act.put, List.setIfInBounds_toArray, List.set_cons_zero, List.set_cons_succ]
  refine AnyS_take (i := 6) (v := ?_) rfl (by kernel_rfl) (by kernel_rfl) (by kernel_rfl) (by kernel_rfl) (by kernel_rfl) (fun _ _ _ h => h) (Or.inl ⟨by rfl, ?_⟩) hHeld ?_
  rotate_left
  · intro w' hSw
    (try dsimp only at hSw)
    go_simp
    try with_reducible rfl
  try simp only [Act.put, List.setIfInBounds_toArray, List.set_cons_zero, List.set_cons_succ]
  refine AnyS_step (i := 1) rfl (by kernel_rfl) rfl (fun K hK => ?_)
  go_simp
  refine (HCL.out 1).mono ?_
  rintro e w1 ⟨A1, c1, S1, rfl, hr1, hu1⟩
  refine hK.out _ _ ((hu1.cell (a := ⟨db, 0, none⟩) hlt (fun h => h)).trans e0) (fun hHeld => ?_)
  clear hK K
  try simp only [Act.put, List.setIfInBounds_toArray, List.set_cons_zero, List.set_cons_succ]
  refine AnyS_take (i := 7) (v := ?_) rfl (by kernel_rfl) (by kernel_rfl) (by kernel_rfl) (by kernel_rfl) (by kernel_rfl) (fun _ _ _ h => h) (Or.inl ⟨by rfl, ?_⟩) hHeld ?_
  rotate_left
  · intro w' hSw
    (try dsimp only at hSw)
    go_simp
    try with_reducible rfl
  try simp only [Act.put, List.setIfInBounds_toArray, List.set_cons_zero, List.set_cons_succ]
  refine AnyS_step (i := 8) rfl (by kernel_rfl) rfl (fun K hK => ?_)
  go_simp
  refine hK.out _ _ (((((Upd.refl none_ w1).alloc _).cell (a := ⟨db, 0, none⟩) (Nat.lt_of_lt_of_le hlt hu1.size) (fun h => h)).trans hHeld)) (fun hHeld => ?_)
  clear hK K
  try simp only [Act.put, List.setIfInBounds_toArray, List.set_cons_zero, List.set_cons_succ]
  refine AnyS_take (i := 9) (v := ?_) rfl (by kernel_rfl) (by kernel_rfl) (by kernel_rfl) (by kernel_rfl) (by kernel_rfl) (fun _ _ _ h => h) (Or.inl ⟨by rfl, ?_⟩) hHeld ?_
  rotate_left
  · intro w' hSw
    (try dsimp only at hSw)
    go_simp
    try with_reducible rfl
  try simp only [Act.put, List.setIfInBounds_toArray, List.set_cons_zero, List.set_cons_succ]
  refine AnyS_done (by kernel_rfl) (NoPanic.normal ?_) _
  try simp only [Act.put, List.setIfInBounds_toArray, List.set_cons_zero, List.set_cons_succ]
  show tailW _ _ _ _ _ _
  have hu0 : Upd none_ S1 w w1 := ((Upd.refl none_ w).drewN 1).trans hu1
  refine HDC.out _ _ (fun k => k = w1.heap.size ∨ S1 k) ?_ ?_ ?_ ?_ _ _ _ _ _ _ _ _ _ _ _ _ _ _ _ _ _ _ _ _ _ _ _ _ _ _ _ _ _ _ _ _ _ _ _
  · refine ⟨⟨A1, c1, none, 0, S1, none_, Blk.new w1 _ [_, _, _, _, _], hr1.loc fun k hk => Below.heap_alloc w1 _ k (hr1.lt k hk), Row.nil _ _ _, fun h => by have := hr1.lt _ h; omega, fun h => h, fun _ _ h => h, fun k => ⟨fun h => h.imp id .inl, fun h => h.imp id fun h => h.elim id False.elim⟩⟩, ?_, ?_, ?_, ?_⟩
    · exact HT.out.loc fun k hk => (Below.heap_alloc w1 _ k (Nat.lt_of_lt_of_le (htl k hk) hu0.size)).trans (hu0.block k (htl k hk) (fun h => h))
    · rintro k (rfl | hk) hs
      · have := htl _ hs; have := hu0.size; omega
      · rcases hu0.own k hk with h | h
        · exact h
        · have := htl _ hs; omega
    · exact (GlobOk.upd (S := none_) HG.out hu0 (fun h => h)).below (Below.alloc (Below.refl _ _) (Nat.le_refl _) _) (Nat.lt_of_lt_of_le HG.out.pos hu0.size)
    · refine ⟨fun h => ?_, h0t⟩
      rcases h with h | h
      · have := HG.out.pos; have := hu0.size; omega
      · rcases hu0.own _ h with h | h
        · exact h
        · have := HG.out.pos; omega
  · exact (HD.out.keep (hu0.block db hlt (fun h => h))).alloc _
  · rintro (h | h)
    · have h : db = w1.heap.size := h
      have := hu0.size; omega
    · rcases hu0.own _ h with h | h
      · exact h
      · omega
  · refine ((((hu0.wider (R := S) (fun _ h => h.elim)).holds (S'' := or_ S S1) fun k hk => ?_).alloc _).holds fun k hk => ?_)
    · rcases hk with hk | hk
      · exact .inl hk
      · exact (hu0.own k hk).imp (fun h => h.elim) id
    · rcases hk with hk | rfl | hk
      · exact .inl hk
      · exact .inr (hu0.size)
      · rcases hu0.own k hk with h | h
        · exact h.elim
        · exact .inr h

theorem decTable_any (w : World) (db : Nat) (tab : List FieldS) (most : Int) (S : Own) (h : DecAt w db tab most S) :
    Calls Tryd.prog 54 #[.pointer (some ⟨db, 0, none⟩)] w (fun e w' => w' = w ∧ ∃ tb St, e = .returned (.pointer (some ⟨tb, 0, none⟩)) ∧ TableAt w tb tab most St ∧ (∀ k, St k → S k)) := by
  obtain ⟨tb, St, hd, ht, hn, hS, htab⟩ := h
  have e0 := hd.cell 0
  simp only [List.getElem?_cons_zero] at e0
  have hlt := hd.lt
  go_enter Tryd.func54, Tryd.ntmps54
  go_wp2
  go_ret
  exact ⟨rfl, tb, St, rfl, ht, fun k hk => (hS k).2 (.inr hk)⟩

set_option maxRecDepth 100000 in
theorem unpackNew_any (w : World) :
    Calls Tryd.prog 23 #[] w fun e w' => ∃ db S, e = .returned (.pointer (some ⟨db, 0, none⟩)) ∧ DecAt w' db [] 4096 S ∧ Upd none_ S w w' := by
  have HC := Lib.hid (dynNew_any 4096 w ⟨by omega, by omega⟩)
  go_enter Tryd.func23, Tryd.ntmps23
  go_wp2_with (go_at_call 30; refine HC.out.mono ?_; rintro e w1 ⟨rfl, S, ht, hu⟩; have HT := Lib.hid ht; have HU := Lib.hid hu; clear ht hu)
  go_ret
  refine ⟨w1.heap.size, fun k => k = w1.heap.size ∨ S k, by simp, ⟨w.heap.size, S, Blk.new w1 _ [_, _], HT.out.loc fun k hk => Below.heap_alloc w1 _ k (HT.out.lt k hk), fun h => by have := HT.out.lt _ h; omega, fun _ => Iff.rfl, ⟨by simp [totalF], ⟨by omega, by omega⟩, by simp⟩⟩, (HU.out.alloc _).holds fun k hk => ?_⟩
  rcases hk with rfl | hk
  · exact .inr HU.out.size
  · exact HU.out.own k hk
end Go.Proofs.YthmfifcogokpoaaDoor
namespace Go.Proofs.YthmfifcogokpoaaDoor
open Go.RowKit
attribute [local go_sem] eqlNilBytes

/-- What is wrong about a setting. -/
def wrongS (id v : Int) : Int := if id = 2 ∧ v ≠ 0 ∧ v ≠ 1 ∨ id = 5 ∧ (v < 16384 ∨ 16777215 < v) then 1 else if id = 4 ∧ 2147483647 < v then 3 else 0

set_option maxRecDepth 100000 in
theorem wrong_any (w : World) (id v : Int) :
    Calls Tryd.prog 62 #[.agg #[.int .i64 id, .int .i64 v]] w (fun e w' => e = .returned (.int .i64 (wrongS id v)) ∧ Below w.heap.size w w') := by
  by_cases h2 : id = 2
  · subst h2
    by_cases v0 : v = 0
    · subst v0
      go_enter Tryd.func62, Tryd.ntmps62
      go_wp2
      go_ret
      exact ⟨by simp [wrongS], by go_grown⟩
    · have t0 : (v != 0) = true := bne_iff_ne.2 v0
      by_cases v1 : v = 1
      · subst v1
        go_enter Tryd.func62, Tryd.ntmps62
        go_wp2
        go_ret
        exact ⟨by simp [wrongS], by go_grown⟩
      · have t1 : (v != 1) = true := bne_iff_ne.2 v1
        go_enter Tryd.func62, Tryd.ntmps62
        go_wp2
        go_ret
        exact ⟨by simp [wrongS, v0, v1], by go_grown⟩
  · have t2 : (id == 2) = false := beq_eq_false_iff_ne.2 h2
    by_cases h5 : id = 5
    · subst h5
      by_cases v0 : v < 16384
      · have t0 : decide (v < 16384) = true := decide_eq_true v0
        go_enter Tryd.func62, Tryd.ntmps62
        go_wp2
        go_ret
        exact ⟨by simp [wrongS, v0], by go_grown⟩
      · have t0 : decide (v < 16384) = false := decide_eq_false v0
        by_cases v1 : 16777215 < v
        · have t1 : decide (16777215 < v) = true := decide_eq_true v1
          go_enter Tryd.func62, Tryd.ntmps62
          go_wp2
          go_ret
          exact ⟨by simp [wrongS, v0, v1], by go_grown⟩
        · have t1 : decide (16777215 < v) = false := decide_eq_false v1
          go_enter Tryd.func62, Tryd.ntmps62
          go_wp2
          go_ret
          exact ⟨by simp [wrongS, v0, v1], by go_grown⟩
    · have t5 : (id == 5) = false := beq_eq_false_iff_ne.2 h5
      by_cases h4 : id = 4
      · subst h4
        by_cases v1 : 2147483647 < v
        · have t1 : decide (2147483647 < v) = true := decide_eq_true v1
          go_enter Tryd.func62, Tryd.ntmps62
          go_wp2
          go_ret
          exact ⟨by simp [wrongS, v1], by go_grown⟩
        · have t1 : decide (2147483647 < v) = false := decide_eq_false v1
          go_enter Tryd.func62, Tryd.ntmps62
          go_wp2
          go_ret
          exact ⟨by simp [wrongS, v1], by go_grown⟩
      · have t4 : (id == 4) = false := beq_eq_false_iff_ne.2 h4
        go_enter Tryd.func62, Tryd.ntmps62
        go_wp2
        go_ret
        exact ⟨by simp [wrongS, h2, h5, h4], by go_grown⟩
end Go.Proofs.YthmfifcogokpoaaDoor
