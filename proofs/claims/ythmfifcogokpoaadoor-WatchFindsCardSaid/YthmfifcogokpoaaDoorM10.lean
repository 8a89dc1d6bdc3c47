/- What is proved here: contracts of the program's functions and plain lemmas that the claim's last text uses, in parts: frame.Next, whole; stat.Size; package dyn: what a table holds; Most, Get; package dyn: shrinks, Clone of fields. -/
import Derived.Test.YthmfifcogokpoaaDoorM09
import Derived.Test.YthmfifcogokpoaaDoorM04
set_option linter.unusedVariables false
set_option linter.unusedSimpArgs false
namespace Go.Proofs.YthmfifcogokpoaaDoor
open Go.RowKit

set_option maxRecDepth 100000 in
set_option maxHeartbeats 2000000 in
theorem next_mid (w W : World) (b : Nat) (room : Int) (l : List UInt8) (S : Own) (hM : NextM w W b room l S (num3 l) (l.getD 3 0).toNat (l.getD 4 0).toNat 0) (jumps : Nat) (u1 u6 u7 u8 u9 u10 u11 u12 u13 u14 u15 u16 u17 u18 u19 u20 u21 u22 u23 u24 u25 u26 u27 u28 u29 u30 u31 u32 u33 u34 u35 u36 u37 u38 u39 u40 u41 u42 u43 u44 u45 u46 u47 u48 u49 u50 u51 u52 u53 u54 u55 u56 u57 u58 u59 u60 u61 u62 u63 u64 u65 u66 u67 u68 u69 u70 u71 u72 u73 u74 u75 u76 u77 u78 u79 u80 u81 u82 u83 u84 u85 u86 u87 u88 u89 u90 u91 u92 u93 u94 u95 u96 u97 u98 u99 u100 u101 u102 u103 u104 u105 u106 u107 u108 u109 u110 u111 u112 u113 u114 u115 u116 u117 u118 u119 u120 u121 u122 u123 u124 : Value) :
    tailW Tryd.prog 7 nextBody (Jumps (Lab Tryd.prog nextBody (bodyPost Tryd.prog Tryd.f25 (NextQ b room (⟨(l.getD 3 0).toNat, (l.getD 4 0).toNat, num4 (l.drop 5) &&& 2147483647, (l.drop 9).take (num3 l)⟩, 0, l.drop (9 + num3 l)) S w)) jumps) (bodyPost Tryd.prog Tryd.f25 (NextQ b room (⟨(l.getD 3 0).toNat, (l.getD 4 0).toNat, num4 (l.drop 5) &&& 2147483647, (l.drop 9).take (num3 l)⟩, 0, l.drop (9 + num3 l)) S w))) ⟨#[.pointer (some ⟨b, 0, none⟩), u1, .pointer (some ⟨w.heap.size, 0, none⟩), .int .i64 0, .pointer (some ⟨w.heap.size + 1, 0, none⟩), .int .i64 (num3 l), u6, u7, u8, u9, u10, u11, u12, u13, u14, u15, u16, u17, u18, u19, u20, u21, u22, u23, u24, u25, u26, u27, u28, u29, u30, u31, u32, u33, u34, u35, u36, u37, u38, u39, u40, u41, u42, u43, u44, u45, u46, u47, u48, u49, u50, u51, u52, u53, u54, u55, u56, u57, u58, u59, u60, u61, u62, u63, u64, u65, u66, u67, u68, u69, u70, u71, u72, u73, u74, u75, u76, u77, u78, u79, u80, u81, u82, u83, u84, u85, u86, u87, u88, u89, u90, u91, u92, u93, u94, u95, u96, u97, u98, u99, u100, u101, u102, u103, u104, u105, u106, u107, u108, u109, u110, u111, u112, u113, u114, u115, u116, u117, u118, u119, u120, u121, u122, u123, u124], []⟩ W := by
  have HT := Lib.hid (fun W hM jumps => next_tail w W b room l S (num3 l) (l.getD 3 0).toNat (l.getD 4 0).toNat (num4 (l.drop 5) &&& 2147483647) hM jumps)
  have HM := Lib.hid hM
  obtain ⟨h, hlen, hsmall, hbel, hsz, hres, hfr⟩ := hM
  obtain ⟨A, c, S1, hblk, hrow, hns, hS⟩ := h
  have hlt := hblk.lt
  have hblkW := hblk.below hbel hlt
  have e1 := hblkW.cell 1
  have f1 := hblkW.frozen 1
  simp only [List.getElem?_cons_succ, List.getElem?_cons_zero] at e1
  obtain ⟨ab, ao, hA, hab, hc⟩ := head_cells (hrow.rd.grow (by omega) hbel) (by omega)
  have haw : ab < w.heap.size := by
    have := hrow.lt ab (hrow.block ab (by rw [hA]; rfl))
    exact this
  subst hA
  have d5 := hc 5 (by omega)
  have d6 := hc 6 (by omega)
  have d7 := hc 7 (by omega)
  have d8 := hc 8 (by omega)
  have x5 := (l.getD 5 0).toNat_lt
  have x6 := (l.getD 6 0).toNat_lt
  have x7 := (l.getD 7 0).toNat_lt
  have x8 := (l.getD 8 0).toNat_lt
  have h4 : num4 (l.drop 5) = (l.getD 5 0).toNat * 16777216 + (l.getD 6 0).toNat * 65536 + (l.getD 7 0).toNat * 256 + (l.getD 8 0).toNat := by simp [num4]
  have ho4 := or_bytes _ _ _ _ x5 x6 x7 x8
  rw [← h4] at ho4
  have ha31 := and31 (l.drop 5)
  clear h4
  generalize num4 (l.drop 5) &&& 2147483647 = s31 at *
  generalize num4 (l.drop 5) = s32 at *
  generalize (l.getD 3 0).toNat = y3 at *
  generalize (l.getD 4 0).toNat = y4 at *
  generalize (l.getD 5 0).toNat = y5 at *
  generalize (l.getD 6 0).toNat = y6 at *
  generalize (l.getD 7 0).toNat = y7 at *
  generalize (l.getD 8 0).toNat = y8 at *
  have z2 := hfr.frozen 2
  have q2 := hfr.cell 2
  simp only [List.getElem?_cons_succ, List.getElem?_cons_zero] at q2
  have nb1 : ¬ b = w.heap.size + 1 := by omega
  have nb2 : ¬ w.heap.size + 1 = b := by omega
  have na1 : ¬ ab = w.heap.size + 1 := by omega
  have na2 : ¬ w.heap.size + 1 = ab := by omega
  have j5 : (5 : Int) < (l.length : Int) := by omega
  have j6 : (6 : Int) < (l.length : Int) := by omega
  have j7 : (7 : Int) < (l.length : Int) := by omega
  have j8 : (8 : Int) < (l.length : Int) := by omega
  have wr5 : IntKind.i64.wrap (y5 : Int) = (y5 : Int) := IntWalk.i64_in _ (by omega)
  have wr6 : IntKind.i64.wrap (y6 : Int) = (y6 : Int) := IntWalk.i64_in _ (by omega)
  have wr7 : IntKind.i64.wrap (y7 : Int) = (y7 : Int) := IntWalk.i64_in _ (by omega)
  have wr8 : IntKind.i64.wrap (y8 : Int) = (y8 : Int) := IntWalk.i64_in _ (by omega)
  have ws5 : IntKind.i64.wrap ((y5 : Int) * 16777216) = (y5 : Int) * 16777216 := IntWalk.i64_in _ (by omega)
  have ws6 : IntKind.i64.wrap ((y6 : Int) * 65536) = (y6 : Int) * 65536 := IntWalk.i64_in _ (by omega)
  have ws7 : IntKind.i64.wrap ((y7 : Int) * 256) = (y7 : Int) * 256 := IntWalk.i64_in _ (by omega)
  clear hblk hrow hns hS hbel hblkW hres hfr hc
  refine tail_step 7 nextBody ?_
  show Code.wp _ _ _ _ _
  go_region_held3 (fun w' => w'.cell? ⟨b, 1, none⟩ = some (.slice (some ⟨ab, ao, none⟩) l.length c) ∧ w'.cell? ⟨ab, ao + 5, none⟩ = some (.int .u8 y5) ∧ w'.cell? ⟨ab, ao + 6, none⟩ = some (.int .u8 y6) ∧ w'.cell? ⟨ab, ao + 7, none⟩ = some (.int .u8 y7) ∧ w'.cell? ⟨ab, ao + 8, none⟩ = some (.int .u8 y8)) (first | (go_keep; done) | (simp [*]; done)) (fail)
  have HH := HM.out
  have h1 := HH.size
  have h2 := HH.below
  show tailW _ _ _ _ _ _
  exact HT.out _ ⟨HH.par, HH.len, HH.small, by (focus repeat' (first | (with_reducible exact Below.refl _ _) | (with_reducible assumption) | (with_reducible refine Below.alloc ?_ ?_ _) | (with_reducible refine Below.drew ?_) | (with_reducible refine below_drewN ?_ _) | (with_reducible refine Below.setCell ?_ ?_ _) | (with_reducible refine Below.frame ?_ _) | go_size)), by simpa using h1, HH.res.drew.far (by simp) _, HH.fr.drew.set 2 _⟩ jumps _ _ _ _ _ _ _ _ _ _ _ _ _ _ _ _ _ _ _ _ _ _ _ _ _ _ _ _ _ _ _ _ _ _ _ _ _ _ _ _ _ _ _ _ _ _ _ _ _ _ _ _ _ _ _ _ _ _ _ _ _ _ _ _ _ _ _ _ _ _ _ _ _ _ _ _ _ _ _ _ _ _ _ _ _ _ _ _ _ _ _ _ _ _ _ _ _ _ _ _ _ _ _ _ _ _ _ _ _ _ _ _ _ _ _ _ _ _ _ _

set_option maxRecDepth 100000 in
set_option maxHeartbeats 2000000 in
theorem next_r8 (w W : World) (b : Nat) (room : Int) (l : List UInt8) (S : Own) (hM : NextM w W b room l S (num3 l) 0 0 0) (jumps : Nat) (u1 u6 u7 u8 u9 u10 u11 u12 u13 u14 u15 u16 u17 u18 u19 u20 u21 u22 u23 u24 u25 u26 u27 u28 u29 u30 u31 u32 u33 u34 u35 u36 u37 u38 u39 u40 u41 u42 u43 u44 u45 u46 u47 u48 u49 u50 u51 u52 u53 u54 u55 u56 u57 u58 u59 u60 u61 u62 u63 u64 u65 u66 u67 u68 u69 u70 u71 u72 u73 u74 u75 u76 u77 u78 u79 u80 u81 u82 u83 u84 u85 u86 u87 u88 u89 u90 u91 u92 u93 u94 u95 u96 u97 u98 u99 u100 u101 u102 u103 u104 u105 u106 u107 u108 u109 u110 u111 u112 u113 u114 u115 u116 u117 u118 u119 u120 u121 u122 u123 u124 : Value) :
    tailW Tryd.prog 6 nextBody (Jumps (Lab Tryd.prog nextBody (bodyPost Tryd.prog Tryd.f25 (NextQ b room (⟨(l.getD 3 0).toNat, (l.getD 4 0).toNat, num4 (l.drop 5) &&& 2147483647, (l.drop 9).take (num3 l)⟩, 0, l.drop (9 + num3 l)) S w)) jumps) (bodyPost Tryd.prog Tryd.f25 (NextQ b room (⟨(l.getD 3 0).toNat, (l.getD 4 0).toNat, num4 (l.drop 5) &&& 2147483647, (l.drop 9).take (num3 l)⟩, 0, l.drop (9 + num3 l)) S w))) ⟨#[.pointer (some ⟨b, 0, none⟩), u1, .pointer (some ⟨w.heap.size, 0, none⟩), .int .i64 0, .pointer (some ⟨w.heap.size + 1, 0, none⟩), .int .i64 (num3 l), u6, u7, u8, u9, u10, u11, u12, u13, u14, u15, u16, u17, u18, u19, u20, u21, u22, u23, u24, u25, u26, u27, u28, u29, u30, u31, u32, u33, u34, u35, u36, u37, u38, u39, u40, u41, u42, u43, u44, u45, u46, u47, u48, u49, u50, u51, u52, u53, u54, u55, u56, u57, u58, u59, u60, u61, u62, u63, u64, u65, u66, u67, u68, u69, u70, u71, u72, u73, u74, u75, u76, u77, u78, u79, u80, u81, u82, u83, u84, u85, u86, u87, u88, u89, u90, u91, u92, u93, u94, u95, u96, u97, u98, u99, u100, u101, u102, u103, u104, u105, u106, u107, u108, u109, u110, u111, u112, u113, u114, u115, u116, u117, u118, u119, u120, u121, u122, u123, u124], []⟩ W := by
  have HT := Lib.hid (fun W hM jumps => next_mid w W b room l S hM jumps)
  have HM := Lib.hid hM
  obtain ⟨h, hlen, hsmall, hbel, hsz, hres, hfr⟩ := hM
  obtain ⟨A, c, S1, hblk, hrow, hns, hS⟩ := h
  have hlt := hblk.lt
  have hblkW := hblk.below hbel hlt
  have e1 := hblkW.cell 1
  have f1 := hblkW.frozen 1
  simp only [List.getElem?_cons_succ, List.getElem?_cons_zero] at e1
  obtain ⟨ab, ao, hA, hab, hc⟩ := head_cells (hrow.rd.grow (by omega) hbel) (by omega)
  have haw : ab < w.heap.size := by
    have := hrow.lt ab (hrow.block ab (by rw [hA]; rfl))
    exact this
  subst hA
  have d3 := hc 3 (by omega)
  have d4 := hc 4 (by omega)
  have x3 := (l.getD 3 0).toNat_lt
  have x4 := (l.getD 4 0).toNat_lt
  generalize (l.getD 3 0).toNat = y3 at *
  generalize (l.getD 4 0).toNat = y4 at *
  have z0 := hfr.frozen 0
  have z1 := hfr.frozen 1
  have q0 := hfr.cell 0
  have q1 := hfr.cell 1
  simp only [List.getElem?_cons_succ, List.getElem?_cons_zero] at q0 q1
  have nb1 : ¬ b = w.heap.size + 1 := by omega
  have nb2 : ¬ w.heap.size + 1 = b := by omega
  have na1 : ¬ ab = w.heap.size + 1 := by omega
  have na2 : ¬ w.heap.size + 1 = ab := by omega
  have j3 : (3 : Int) < (l.length : Int) := by omega
  have j4 : (4 : Int) < (l.length : Int) := by omega
  have wr3 : IntKind.i64.wrap (y3 : Int) = (y3 : Int) := IntWalk.i64_in _ (by omega)
  have wr4 : IntKind.i64.wrap (y4 : Int) = (y4 : Int) := IntWalk.i64_in _ (by omega)
  clear hblk hrow hns hS hbel hblkW hres hfr hc
  refine tail_step 6 nextBody ?_
  show Code.wp _ _ _ _ _
  go_region_held3 (fun w' => w'.cell? ⟨b, 1, none⟩ = some (.slice (some ⟨ab, ao, none⟩) l.length c) ∧ w'.cell? ⟨ab, ao + 3, none⟩ = some (.int .u8 y3) ∧ w'.cell? ⟨ab, ao + 4, none⟩ = some (.int .u8 y4)) (first | (go_keep; done) | (simp [*]; done)) (fail)
  all_goals
    have HH := HM.out
    have h1 := HH.size
    have h2 := HH.below
    show tailW _ _ _ _ _ _
    exact HT.out _ ⟨HH.par, HH.len, HH.small, by (focus repeat' (first | (with_reducible exact Below.refl _ _) | (with_reducible assumption) | (with_reducible refine Below.alloc ?_ ?_ _) | (with_reducible refine Below.drew ?_) | (with_reducible refine below_drewN ?_ _) | (with_reducible refine Below.setCell ?_ ?_ _) | (with_reducible refine Below.frame ?_ _) | go_size)), by simpa using h1, (HH.res.drew.far (by simp) _).far (by simp) _, (HH.fr.drew.set 0 _).set 1 _⟩ jumps _ _ _ _ _ _ _ _ _ _ _ _ _ _ _ _ _ _ _ _ _ _ _ _ _ _ _ _ _ _ _ _ _ _ _ _ _ _ _ _ _ _ _ _ _ _ _ _ _ _ _ _ _ _ _ _ _ _ _ _ _ _ _ _ _ _ _ _ _ _ _ _ _ _ _ _ _ _ _ _ _ _ _ _ _ _ _ _ _ _ _ _ _ _ _ _ _ _ _ _ _ _ _ _ _ _ _ _ _ _ _ _ _ _ _ _ _ _ _ _

set_option maxRecDepth 100000 in
set_option maxHeartbeats 1000000 in
theorem next_ok (b : Nat) (room : Int) (l : List UInt8) (S : Own) (w : World) (h : ParserAt w b room l S) (h9 : ¬ l.length < 9) (hbig : ¬ room < num3 l) (hm : ¬ l.length - 9 < num3 l) (hl : l.length ≤ 1000000000000) :
    Calls Tryd.prog 25 #[.pointer (some ⟨b, 0, none⟩)] w (NextQ b room (⟨(l.getD 3 0).toNat, (l.getD 4 0).toNat, num4 (l.drop 5) &&& 2147483647, (l.drop 9).take (num3 l)⟩, 0, l.drop (9 + num3 l)) S w) := by
  have HT := Lib.hid (fun W hM => next_r8 w W b room l S hM 1)
  have H := Lib.hid h
  have HL := Lib.hid (show 9 + num3 l ≤ l.length by omega)
  have HL2 := Lib.hid hl
  obtain ⟨A, c, S1, hblk, hrow, hns, hS⟩ := h
  have e0 := hblk.cell 0
  have e1 := hblk.cell 1
  simp only [List.getElem?_cons_succ, List.getElem?_cons_zero] at e0 e1
  have hlt := hblk.lt
  have hcap : l.length ≤ 9223372036854775807 := by omega
  have t9 : decide ((l.length : Int) < 9) = false := decide_eq_false (by omega)
  obtain ⟨ab, ao, hA, hab, hc⟩ := head_cells hrow.rd (by omega)
  subst hA
  have d0 := hc 0 (by omega)
  have d1 := hc 1 (by omega)
  have d2 := hc 2 (by omega)
  have x0 := (l.getD 0 0).toNat_lt
  have x1 := (l.getD 1 0).toNat_lt
  have x2 := (l.getD 2 0).toNat_lt
  have ho := or_bytes3 (l.getD 0 0).toNat (l.getD 1 0).toNat (l.getD 2 0).toNat x0 x1 x2
  rw [show (l.getD 0 0).toNat * 65536 + (l.getD 1 0).toNat * 256 + (l.getD 2 0).toNat = num3 l from rfl] at ho
  generalize (l.getD 0 0).toNat = y0 at *
  generalize (l.getD 1 0).toNat = y1 at *
  generalize (l.getD 2 0).toNat = y2 at *
  have hn0 : num3 l ≤ 1000000000000 := by omega
  generalize hn : num3 l = n at *
  have tb : decide (room < (n : Int)) = false := decide_eq_false hbig
  have tm : decide ((l.length : Int) - 9 < (n : Int)) = false := decide_eq_false (by omega)
  have tm2 : ¬ (l.length : Int) - 9 < (n : Int) := by omega
  have HN := Lib.hid hn
  have hlt1 : b < w.heap.size + 1 := by omega
  have hlt2 : b < w.heap.size + 1 + 1 := by omega
  have hab1 : ab < w.heap.size + 1 := by omega
  have hab2 : ab < w.heap.size + 1 + 1 := by omega
  have j0 : (0 : Int) < (l.length : Int) := by omega
  have j00 : 0 < l.length := by omega
  have j1 : (1 : Int) < (l.length : Int) := by omega
  have j2 : (2 : Int) < (l.length : Int) := by omega
  simp only [Nat.add_zero] at d0
  clear hblk hrow hns hS h9 hc hbig hm hn hl
  go_enter Tryd.func25, Tryd.ntmps25
  go_wp2
  refine wp_scope_as nextBody (by kernel_rfl) 1 ?_
  refine wp_cut_as nextBody (by kernel_rfl) 6 ?_
  show Code.wp _ _ _ _ _
  go_wp2
  show Code.wp _ _ _ _ _
  go_wp2
  show Code.wp _ _ _ _ _
  go_wp2
  show Code.wp _ _ _ _ _
  go_quiet (fail)
  show Code.wp _ _ _ _ _
  go_wp2
  show Code.wp _ _ _ _ _
  go_wp2
  show tailW _ _ _ _ _ _
  exact HT.out _ ⟨H.out, HL.out, HL2.out, by (focus repeat' (first | (with_reducible exact Below.refl _ _) | (with_reducible assumption) | (with_reducible refine Below.alloc ?_ ?_ _) | (with_reducible refine Below.drew ?_) | (with_reducible refine below_drewN ?_ _) | (with_reducible refine Below.setCell ?_ ?_ _) | (with_reducible refine Below.frame ?_ _) | go_size)), by go_size, by (focus repeat' (first | (refine Blk.push ?_; (simp; done)) | (refine Blk.far ?_ ?_ _; rotate_left; (first | (simp; done) | (simp; omega))) | (refine Blk.drewN ?_ _) | (refine Blk.drew ?_) | (refine Blk.alloc ?_ _))), by (focus repeat' (first | (refine Blk.push ?_; (simp; done)) | (refine Blk.far ?_ ?_ _; rotate_left; (first | (simp; done) | (simp; omega))) | (refine Blk.drewN ?_ _) | (refine Blk.drew ?_) | (refine Blk.alloc ?_ _)))⟩ _ _ _ _ _ _ _ _ _ _ _ _ _ _ _ _ _ _ _ _ _ _ _ _ _ _ _ _ _ _ _ _ _ _ _ _ _ _ _ _ _ _ _ _ _ _ _ _ _ _ _ _ _ _ _ _ _ _ _ _ _ _ _ _ _ _ _ _ _ _ _ _ _ _ _ _ _ _ _ _ _ _ _ _ _ _ _ _ _ _ _ _ _ _ _ _ _ _ _ _ _ _ _ _ _ _ _ _ _ _ _ _ _ _ _ _ _ _ _ _

theorem next_any (b : Nat) (room : Int) (l : List UInt8) (S : Own) (w : World) (h : ParserAt w b room l S) (hl : l.length ≤ 1000000000000) :
    Calls Tryd.prog 25 #[.pointer (some ⟨b, 0, none⟩)] w (NextQ b room (nextS room l) S w) := by
  unfold nextS
  by_cases h9 : l.length < 9
  · rw [if_pos h9]; exact next_short b room l S w h h9
  · rw [if_neg h9]
    by_cases hb : room < num3 l
    · rw [if_pos hb]; exact next_long b room l S w h h9 hb
    · rw [if_neg hb]
      by_cases hm : l.length - 9 < num3 l
      · rw [if_pos hm]; exact next_part b room l S w h h9 hb hm
      · rw [if_neg hm]; exact next_ok b room l S w h h9 hb hm hl
end Go.Proofs.YthmfifcogokpoaaDoor
namespace Go.Proofs.YthmfifcogokpoaaDoor
open Go.RowKit

/-- A field. -/
structure FieldS where
  name : ByteArray
  value : ByteArray
  never : Bool
def FieldS.v (f : FieldS) : Value := .agg #[.string f.name, .string f.value, .bool f.never]
def noField : FieldS := ⟨ByteArray.empty, ByteArray.empty, false⟩
def fieldCells (l : List FieldS) : List Value := l.flatMap fun f => [.string f.name, .string f.value, .bool f.never]
def sizeF (f : FieldS) : Nat := f.name.size + f.value.size + 32
def totalF (l : List FieldS) : Nat := (l.map sizeF).sum
structure FieldS.Ok (f : FieldS) : Prop where
  name : f.name.size ≤ 1000000000
  value : f.value.size ≤ 1000000000

theorem fieldCells_length (l : List FieldS) : (fieldCells l).length = l.length * 3 := by
  induction l with
  | nil => rfl
  | cons x l ih => simp [fieldCells] at *; omega
theorem fieldCells_drop (l : List FieldS) : ∀ k, (fieldCells l).drop (k * 3) = fieldCells (l.drop k)
  := by
  induction l with
  | nil => intro k; simp [fieldCells]
  | cons x l ih =>
    intro k
    cases k with
    | zero => simp
    | succ k =>
      have h := ih k
      rw [List.drop_succ_cons, ← h, show (k + 1) * 3 = k * 3 + 3 by omega]
      simp [fieldCells]
theorem fieldCells_append (a b : List FieldS) : fieldCells (a ++ b) = fieldCells a ++ fieldCells b := by simp [fieldCells]
theorem fieldCells_at (l : List FieldS) (k : Nat) (h : k < l.length) : (fieldCells l)[k * 3]? = some (.string l[k].name) ∧ (fieldCells l)[k * 3 + 1]? = some (.string l[k].value) ∧ (fieldCells l)[k * 3 + 2]? = some (.bool l[k].never) := by
  have hd := fieldCells_drop l k
  have hc : l.drop k = l[k] :: l.drop (k + 1) := List.drop_eq_getElem_cons h
  rw [hc] at hd
  have hx : ∀ j, (fieldCells l)[k * 3 + j]? = ([Value.string l[k].name, .string l[k].value, .bool l[k].never] ++ fieldCells (l.drop (k + 1)))[j]? := by
    intro j
    rw [← List.getElem?_drop, hd]
    rfl
  exact ⟨hx 0, hx 1, hx 2⟩
theorem fieldCells_one (l : List FieldS) : ∀ u ∈ fieldCells l, u.oneCell' = true := by
  intro u hu
  simp only [fieldCells, List.mem_flatMap, List.mem_cons, List.not_mem_nil, or_false] at hu
  obtain ⟨f, _, rfl | rfl | rfl⟩ := hu <;> rfl

theorem statSize_any (f : FieldS) (hf : f.Ok) (w : World) : Calls Tryd.prog 66 #[f.v] w fun e w' => e = .returned (.int .i64 (sizeF f)) ∧ Below w.heap.size w w' := by
  obtain ⟨h1, h2⟩ := hf
  unfold FieldS.v sizeF
  go_enter Tryd.func66, Tryd.ntmps66
  go_wp2
  go_ret
  exact ⟨ret_int (by omega), by go_grown⟩

/-- A table. -/
def TableAt (w : World) (b : Nat) (l : List FieldS) (most : Int) (S : Own) : Prop :=
  ∃ A c S1, Blk w b 91 [.slice A l.length c, .int .i64 (totalF l), .int .i64 most] ∧ Row 109 3 A l.length c (fieldCells l) S1 w ∧ ¬ S1 b ∧ ∀ k, S k ↔ k = b ∨ S1 k
theorem TableAt.loc {w w' : World} {b : Nat} {l : List FieldS} {most : Int} {S : Own} (h : TableAt w b l most S) (hk : ∀ k, S k → w'.heap[k]? = w.heap[k]?) : TableAt w' b l most S := by
  obtain ⟨A, c, S1, h1, h2, h3, h4⟩ := h
  exact ⟨A, c, S1, h1.keep (hk b ((h4 b).2 (.inl rfl))), h2.loc fun k hs => hk k ((h4 k).2 (.inr hs)), h3, h4⟩
theorem TableAt.lt {w : World} {b : Nat} {l : List FieldS} {most : Int} {S : Own} (h : TableAt w b l most S) : ∀ k, S k → k < w.heap.size := by
  obtain ⟨A, c, S1, h1, h2, h3, h4⟩ := h
  intro k hk
  rcases (h4 k).1 hk with rfl | h5
  · exact h1.lt
  · exact h2.lt k h5
theorem TableAt.base {w : World} {b : Nat} {l : List FieldS} {most : Int} {S : Own} (h : TableAt w b l most S) : S b := by
  obtain ⟨A, c, S1, h1, h2, h3, h4⟩ := h
  exact (h4 b).2 (.inl rfl)

theorem most_any (b : Nat) (l : List FieldS) (most : Int) (S : Own) (w : World) (h : TableAt w b l most S) : Calls Tryd.prog 55 #[.pointer (some ⟨b, 0, none⟩)] w fun e w' => e = .returned (.int .i64 most) ∧ w = w' := by
  obtain ⟨A, c, S1, h1, h2, h3, h4⟩ := h
  have e2 := h1.cell 2
  simp only [List.getElem?_cons_succ, List.getElem?_cons_zero] at e2
  clear h1 h2 h3 h4
  go_enter Tryd.func55, Tryd.ntmps55
  go_wp2
  go_ret
  exact ⟨rfl, rfl⟩

/-- The field of a number from 1 on, the newest first. -/
def dynGet (l : List FieldS) (i : Int) : FieldS × Bool := if i < 1 ∨ (l.length : Int) < i then (noField, false) else (l.getD (l.length - i.toNat) noField, true)

set_option maxRecDepth 100000 in
set_option maxHeartbeats 1000000 in
theorem dynGet_any (b : Nat) (l : List FieldS) (most : Int) (S : Own) (w : World) (h : TableAt w b l most S) (i : Int) (hi : -9000000000 ≤ i ∧ i ≤ 9000000000) :
    Calls Tryd.prog 76 #[.pointer (some ⟨b, 0, none⟩), .int .i64 i] w fun e w' => e = .returned (.tuple #[(dynGet l i).1.v, .bool (dynGet l i).2]) ∧ Below w.heap.size w w' := by
  obtain ⟨A, c, S1, h1, h2, h3, h4⟩ := h
  have e0 := h1.cell 0
  simp only [List.getElem?_cons_zero] at e0
  have hlt := h1.lt
  have hlt1 : b < w.heap.size + 1 := by omega
  have hcap : l.length ≤ 9223372036854775807 := by have h5 := h2.rd.le; have h6 := h2.rd.cap; simp only [maxLen] at h6; omega
  unfold dynGet
  obtain ⟨i1, i2⟩ := hi
  by_cases hb : i < 1 ∨ (l.length : Int) < i
  · rw [if_pos hb]
    by_cases hb1 : i < 1
    · clear h1 h2 h3 h4 hb
      go_enter Tryd.func76, Tryd.ntmps76
      go_wp2
      refine bodyPost_ret (v := .tuple #[noField.v, .bool false]) (by (simp [results, Tryd.results76, go_sem, noField, FieldS.v]; try rfl)) rfl ⟨rfl, by (focus repeat' (first | (with_reducible exact Below.refl _ _) | (with_reducible assumption) | (with_reducible refine Below.alloc ?_ ?_ _) | (with_reducible refine Below.drew ?_) | (with_reducible refine below_drewN ?_ _) | (with_reducible refine Below.setCell ?_ ?_ _) | (with_reducible refine Below.frame ?_ _) | go_size))⟩
    · have hb2 : (l.length : Int) < i := by omega
      clear h1 h2 h3 h4 hb
      go_enter Tryd.func76, Tryd.ntmps76
      go_wp2
      refine bodyPost_ret (v := .tuple #[noField.v, .bool false]) (by (simp [results, Tryd.results76, go_sem, noField, FieldS.v]; try rfl)) rfl ⟨rfl, by (focus repeat' (first | (with_reducible exact Below.refl _ _) | (with_reducible assumption) | (with_reducible refine Below.alloc ?_ ?_ _) | (with_reducible refine Below.drew ?_) | (with_reducible refine below_drewN ?_ _) | (with_reducible refine Below.setCell ?_ ?_ _) | (with_reducible refine Below.frame ?_ _) | go_size))⟩
  · rw [if_neg hb]
    obtain ⟨n, rfl⟩ := Int.eq_ofNat_of_zero_le (show 0 ≤ i by omega)
    rw [Int.toNat_natCast]
    have hnl : n ≤ l.length := by omega
    have hn1 : 1 ≤ n := by omega
    have hkl : l.length - n < l.length := by omega
    obtain ⟨g, o, hA, hcell⟩ := h2.rd.form (by omega)
    obtain ⟨k0, k1, k2⟩ := fieldCells_at l (l.length - n) hkl
    have d0 := hcell _ _ k0
    have d1 := hcell _ _ k1
    have d2 := hcell _ _ k2
    rw [← Nat.add_assoc] at d1 d2
    have nb1 : ¬ b = w.heap.size := by omega
    have nb2 : ¬ w.heap.size = b := by omega
    have hg : g < w.heap.size := World.block_lt_of_cell? _ _ d0
    have hg1 : g < w.heap.size + 1 := by omega
    have ng1 : ¬ g = w.heap.size := by omega
    have ng2 : ¬ w.heap.size = g := by omega
    rw [List.getD_eq_getElem?_getD, List.getElem?_eq_getElem hkl]
    simp only [Option.getD_some]
    generalize l[l.length - n] = f at *
    have ei : (l.length : Int) - (n : Int) = ((l.length - n : Nat) : Int) := by omega
    have w1 : IntKind.i64.wrap ((l.length : Int) - (n : Int)) = ((l.length - n : Nat) : Int) := by rw [IntWalk.i64_in _ (by omega)]; exact ei
    have hkl2 : ((l.length - n : Nat) : Int) < (l.length : Int) := by omega
    have hkl0 : (0 : Int) ≤ ((l.length - n : Nat) : Int) := by omega
    have t1 : ¬ (n : Int) < 1 := by omega
    have t2 : ¬ (l.length : Int) < (n : Int) := by omega
    have t3 : ¬ l.length < n := by omega
    generalize l.length - n = k at *
    subst hA
    clear h1 h2 h3 h4 hb hcell ei k0 k1 k2
    go_enter Tryd.func76, Tryd.ntmps76
    go_wp2
    go_region_held3 (fun w' => w'.cell? ⟨b, 0, none⟩ = some (.slice (some ⟨g, o, none⟩) l.length c) ∧ w'.cell? ⟨g, o + k * 3, none⟩ = some (.string f.name) ∧ w'.cell? ⟨g, o + k * 3 + 1, none⟩ = some (.string f.value) ∧ w'.cell? ⟨g, o + k * 3 + 2, none⟩ = some (.bool f.never)) (first | (go_keep; done) | (simp [*]; done)) (fail)
    go_wp2
    refine bodyPost_ret (v := .tuple #[f.v, .bool true]) (by (simp [results, Tryd.results76, go_sem, FieldS.v]; try rfl)) rfl ⟨rfl, by (focus repeat' (first | (with_reducible exact Below.refl _ _) | (with_reducible assumption) | (with_reducible refine Below.alloc ?_ ?_ _) | (with_reducible refine Below.drew ?_) | (with_reducible refine below_drewN ?_ _) | (with_reducible refine Below.setCell ?_ ?_ _) | (with_reducible refine Below.frame ?_ _) | go_size))⟩
end Go.Proofs.YthmfifcogokpoaaDoor
namespace Go.Proofs.YthmfifcogokpoaaDoor
open Go.RowKit

theorem tyFields : ElemTy Tryd.prog 89 109 3 40 := elemTy_of Tryd.underlying89 (z := .agg #[.string ByteArray.empty, .string ByteArray.empty, .bool false]) (by kernel_rfl) rfl
theorem eqlNilFields (w : World) (a : Option Addr) (n c n' c' : Nat) : (binOp .eql 89 (.slice a n c) (.slice none n' c')).run Tryd.prog w = .ok (.bool a.isNone) w := Lib.run_eql_slice_nil w _ _ a n c n' c' Tryd.underlying89
attribute [local go_sem] eqlNilFields

set_option maxRecDepth 100000 in
theorem cloneFields_any (A : Option Addr) (n c : Nat) (xs : List Value) (w : World) (h : Rd w 3 A n c xs) (h1 : ∀ u ∈ xs, u.oneCell' = true) (hn : n ≤ 1000000000000) :
    Calls Tryd.prog 58 #[.slice A n c] w fun e w' => ∃ A' c' S', e = .returned (.slice A' n c') ∧ Row 109 3 A' n c' xs S' w' ∧ Upd none_ S' w w' := by
  have hlen := h.len
  cases A with
  | none =>
    have h0 := h.nil rfl
    subst h0
    obtain rfl : n = 0 := by have := h.le; omega
    have hx : xs = [] := List.eq_nil_of_length_eq_zero (by simpa using h.len)
    subst hx
    go_enter Tryd.func58, Tryd.ntmps58
    go_wp2
    go_ret
    exact ⟨none, 0, none_, rfl, Row.nil _ _ _, Upd.refl _ _⟩
  | some ad =>
    have hrow := Row.empty 109 3 w
    have hsrc : Src Tryd.prog (w.alloc (.cells #[] 109)) 3 (.slice (some ad) n c) n xs := Src.of_rd (h.alloc (by omega) _) h1
    have h63 : 0 + n ≤ maxLen := by have := h.cap; have := h.le; omega
    have hb : (0 + n) * 40 ≤ big := by simp only [big]; omega
    clear h h1 hlen hn
    go_enter Tryd.func58, Tryd.ntmps58
    go_wp2_with (at_builtin; refine wpList_append (by rfl) _ _ _ _ (by rfl) 109 3 40 tyFields tyFields.src (some ⟨w.heap.size, 0, none⟩) 0 0 [] (· = w.heap.size) _ n xs (by rfl) (by rfl) hrow hsrc h63 hb ?_; intro A' c' w' S' hr hu ha)
    go_ret
    refine ⟨A', c', S', ?_, ?_, ?_⟩
    · simp
    · simpa using hr
    · exact ⟨hu.os, hu.tape, hu.output, by have := hu.size; simp at this; omega, fun k hk _ => (hu.block k (by simp; omega) (by omega)).trans (Below.heap_alloc w _ k hk), fun k hk => by rcases hu.own k hk with h | h; exact .inr (by rw [h]; exact Nat.le_refl _); simp at h; exact .inr (by omega)⟩

/-- The eldest go until so much is left at most. -/
def shrinkL (room : Int) : List FieldS → List FieldS
  | [] => []
  | f :: r => if room < totalF (f :: r) then shrinkL room r else f :: r
theorem totalF_cons (f : FieldS) (r : List FieldS) : totalF (f :: r) = sizeF f + totalF r := by simp [totalF]
theorem totalF_drop (l : List FieldS) (k : Nat) : totalF (l.drop k) ≤ totalF l := by
  induction l generalizing k with
  | nil => simp [totalF]
  | cons f r ih =>
    cases k with
    | zero => simp
    | succ k => rw [List.drop_succ_cons, totalF_cons]; have := ih k; omega

theorem elemFields : Tryd.prog.underlying 89 = some (.slice (Tryd.prog.elem 89)) := by
  rw [show Tryd.prog.elem 89 = 109 from by kernel_rfl]
  exact Tryd.underlying89
/-- 's[k:]' of fields that are held. -/
theorem Row.cutF {w : World} {S : Own} {A : Option Addr} {c : Nat} {l : List FieldS} (h : Row 109 3 A l.length c (fieldCells l) S w) (k : Nat) (hk : k ≤ l.length) :
    ∃ A1 c1, (∀ W, (Instr.slice 89 (.slice A l.length c) (some (.int .i64 k)) none none).run Tryd.prog W = .ok (.slice A1 (l.drop k).length c1) W) ∧ Row 109 3 A1 (l.drop k).length c1 (fieldCells (l.drop k)) S w := by
  have hd := h.drop (k := k) hk
  rw [fieldCells_drop] at hd
  have hl : (l.drop k).length = l.length - k := by simp
  rw [hl]
  refine ⟨_, _, fun W => ?_, hd⟩
  rw [run_slice_l W _ A _ _ elemFields .i64 k (by omega) (by omega)]
  simp only [Int.toNat_natCast]
  have hs : (sizeOf (Tryd.prog.elem 89)).run Tryd.prog W = .ok 3 W := by kernel_rfl
  rw [hs]
  rfl

def ShrinkQ (b : Nat) (l : List FieldS) (most : Int) (S : Own) (w : World) (e : Ending) (w' : World) : Prop := e = .returned (.tuple #[]) ∧ TableAt w' b l most S ∧ Upd S S w w'

set_option maxRecDepth 100000 in
set_option maxHeartbeats 1000000 in
theorem shrinks_any (b : Nat) (l : List FieldS) (most : Int) (S : Own) (w : World) (h : TableAt w b l most S) (room : Int) (hr : -9000000000000 ≤ room ∧ room ≤ 9000000000000) (hok : ∀ f ∈ l, f.Ok) (htot : totalF l ≤ 1000000000000) :
    Calls Tryd.prog 57 #[.pointer (some ⟨b, 0, none⟩), .int .i64 room] w (ShrinkQ b (shrinkL room l) most S w) := by
  have HT := Lib.hid h
  obtain ⟨A, c, S1, hblk, hrow, hns, hS⟩ := h
  have hcap : l.length ≤ 9223372036854775807 := by have h5 := hrow.rd.le; have h6 := hrow.rd.cap; simp only [maxLen] at h6; omega
  have HB := Lib.hid hblk
  have HR := Lib.hid hrow
  have HNS := Lib.hid hns
  have HS := Lib.hid hS
  have HOK := Lib.hid hok
  obtain ⟨r1, r2⟩ := hr
  clear hblk hrow hns hS hok
  go_enter Tryd.func57, Tryd.ntmps57
  go_wp2
  go_loopw [4] (fun gv wr => ∃ k : Nat, k ≤ l.length ∧ gv = .int .i64 k ∧ shrinkL room (l.drop k) = shrinkL room l ∧ Blk wr b 91 [.slice A l.length c, .int .i64 (totalF (l.drop k)), .int .i64 most] ∧ Upd (one_ b) (one_ b) w wr) (fun gv _ => l.length - (intOf gv).toNat)
  case atStart => exact ⟨0, Nat.zero_le _, rfl, rfl, HB.out, Upd.refl _ _⟩
  case round =>
    obtain ⟨k, hk, rfl, hsame, hblk, hu⟩ := hrel
    have e0 := hblk.cell 0
    have e1 := hblk.cell 1
    have f0 := hblk.frozen 0
    have f1 := hblk.frozen 1
    simp only [List.getElem?_cons_succ, List.getElem?_cons_zero] at e0 e1
    have htd := totalF_drop l k
    have HBR := Lib.hid hblk
    have HU := Lib.hid hu
    have HSAME := Lib.hid hsame
    clear hblk hu hsame
    by_cases hkl : k < l.length
    · have hc : l.drop k = l[k] :: l.drop (k + 1) := List.drop_eq_getElem_cons hkl
      have hfok := HOK.out l[k] (List.getElem_mem hkl)
      by_cases hgt : room < totalF (l.drop k)
      · obtain ⟨g, o, hA, hcell⟩ := HR.out.rd.form (by omega)
        obtain ⟨k0, k1, k2⟩ := fieldCells_at l k hkl
        have d0 := hcell _ _ k0
        have d1 := hcell _ _ k1
        have d2 := hcell _ _ k2
        rw [← Nat.add_assoc] at d1 d2
        have hg : g < w.heap.size := World.block_lt_of_cell? _ _ d0
        have hgS : S1 g := HR.out.block g (by rw [hA]; rfl)
        have hgb : g ≠ b := by rintro rfl; exact HNS.out hgS
        have hug := HU.out.block g hg hgb
        have d0' : wr.cell? ⟨g, o + k * 3, none⟩ = some (.string l[k].name) := (World.cell?_of_block hug).trans d0
        have d1' : wr.cell? ⟨g, o + k * 3 + 1, none⟩ = some (.string l[k].value) := (World.cell?_of_block hug).trans d1
        have d2' : wr.cell? ⟨g, o + k * 3 + 2, none⟩ = some (.bool l[k].never) := (World.cell?_of_block hug).trans d2
        have hgr : g < wr.heap.size := Nat.lt_of_lt_of_le hg HU.out.size
        have hbr : b < wr.heap.size := HBR.out.lt
        have htc : totalF (l.drop k) = sizeF l[k] + totalF (l.drop (k + 1)) := by rw [hc, totalF_cons]
        have HSTEP := Lib.hid (show shrinkL room (l.drop (k + 1)) = shrinkL room l from by
          rw [← HSAME.out, hc]
          simp only [shrinkL]
          rw [← hc, if_pos hgt])
        have HTC := Lib.hid htc
        generalize l[k] = f at *
        have hsz : sizeF f ≤ 1000000000000 := by omega
        have hsub : IntKind.i64.wrap ((totalF (l.drop k) : Int) - (sizeF f : Int)) = (totalF (l.drop (k + 1)) : Int) := by rw [IntWalk.i64_in _ (by omega)]; omega
        have t1 : decide (k < l.length) = true := decide_eq_true hkl
        have t2 : decide (room < (totalF (l.drop k) : Int)) = true := decide_eq_true hgt
        have j0 : (0 : Int) ≤ (k : Int) := by omega
        have j1 : (k : Int) < (l.length : Int) := by omega
        generalize totalF (l.drop k) = tk at *
        generalize htk1 : totalF (l.drop (k + 1)) = tk1 at *
        have HTK1 := Lib.hid htk1
        clear htk1
        subst hA
        clear hcell k0 k1 k2 d0 d1 d2 hc htc hug HSAME
        go_wp2
        refine wp_region_S (fun w' => w'.cell? ⟨b, 0, none⟩ = some (.slice (some ⟨g, o, none⟩) l.length c) ∧ w'.cell? ⟨b, 1, none⟩ = some (.int .i64 tk) ∧ w'.frozen? ⟨b, 1, none⟩ = false ∧ w'.cell? ⟨g, o + k * 3, none⟩ = some (.string f.name) ∧ w'.cell? ⟨g, o + k * 3 + 1, none⟩ = some (.string f.value) ∧ w'.cell? ⟨g, o + k * 3 + 2, none⟩ = some (.bool f.never)) 15 (by kernel_rfl) (⟨e0, e1, f1, d0', d1', d2'⟩) (fun hHeld => ?_)
        refine AnyS_take (i := 0) (v := ?_) rfl (by kernel_rfl) (by kernel_rfl) (by kernel_rfl) (by kernel_rfl) (by kernel_rfl) (fun _ _ _ h => h) (Or.inl ⟨by rfl, ?_⟩) hHeld ?_
        rotate_left
        · intro w' hSw
          (try dsimp only at hSw)
          go_simp
          try with_reducible rfl
        try simp only [Act.put, List.setIfInBounds_toArray, List.set_cons_zero, List.set_cons_succ]
        refine AnyS_take (i := 1) (v := ?_) rfl (by kernel_rfl) (by kernel_rfl) (by kernel_rfl) (by kernel_rfl) (by kernel_rfl) (fun _ _ _ h => h) (Or.inl ⟨by rfl, ?_⟩) hHeld ?_
        rotate_left
        · intro w' hSw
          (try dsimp only at hSw)
          go_simp
          try with_reducible rfl
        try simp only [Act.put, List.setIfInBounds_toArray, List.set_cons_zero, List.set_cons_succ]
        refine AnyS_take (i := 2) (v := ?_) rfl (by kernel_rfl) (by kernel_rfl) (by kernel_rfl) (by kernel_rfl) (by kernel_rfl) (fun _ _ _ h => h) (Or.inl ⟨by rfl, ?_⟩) hHeld ?_
        rotate_left
        · intro w' hSw
          (try dsimp only at hSw)
          go_simp
          try with_reducible rfl
        try simp only [Act.put, List.setIfInBounds_toArray, List.set_cons_zero, List.set_cons_succ]
        refine AnyS_take (i := 3) (v := ?_) rfl (by kernel_rfl) (by kernel_rfl) (by kernel_rfl) (by kernel_rfl) (by kernel_rfl) (fun _ _ _ h => h) (Or.inl ⟨by rfl, ?_⟩) hHeld ?_
        rotate_left
        · intro w' hSw
          (try dsimp only at hSw)
          go_simp
          try with_reducible rfl
        try simp only [Act.put, List.setIfInBounds_toArray, List.set_cons_zero, List.set_cons_succ]
        refine AnyS_take (i := 4) (v := ?_) rfl (by kernel_rfl) (by kernel_rfl) (by kernel_rfl) (by kernel_rfl) (by kernel_rfl) (fun _ _ _ h => h) (Or.inl ⟨by rfl, ?_⟩) hHeld ?_
        rotate_left
        · intro w' hSw
          (try dsimp only at hSw)
          go_simp
          try with_reducible rfl
        try simp only [Act.put, List.setIfInBounds_toArray, List.set_cons_zero, List.set_cons_succ]
        refine AnyS_take (i := 5) (v := ?_) rfl (by kernel_rfl) (by kernel_rfl) (by kernel_rfl) (by kernel_rfl) (by kernel_rfl) (fun _ _ _ h => h) (Or.inl ⟨by rfl, ?_⟩) hHeld ?_
        rotate_left
        · intro w' hSw
          (try dsimp only at hSw)
          go_simp
          try with_reducible rfl
        try simp only [Act.put, List.setIfInBounds_toArray, List.set_cons_zero, List.set_cons_succ]
        refine AnyS_take (i := 6) (v := ?_) rfl (by kernel_rfl) (by kernel_rfl) (by kernel_rfl) (by kernel_rfl) (by kernel_rfl) (fun _ _ _ h => h) (Or.inl ⟨by rfl, ?_⟩) hHeld ?_
        rotate_left
        · intro w' hSw
          (try dsimp only at hSw)
          go_simp
          try with_reducible rfl
        try simp only [Act.put, List.setIfInBounds_toArray, List.set_cons_zero, List.set_cons_succ]
        refine AnyS_take (i := 7) (v := ?_) rfl (by kernel_rfl) (by kernel_rfl) (by kernel_rfl) (by kernel_rfl) (by kernel_rfl) (fun _ _ _ h => h) (Or.inl ⟨by rfl, ?_⟩) hHeld ?_
        rotate_left
        · intro w' hSw
          (try dsimp only at hSw)
          go_simp
          try with_reducible rfl
        try simp only [Act.put, List.setIfInBounds_toArray, List.set_cons_zero, List.set_cons_succ]
        refine AnyS_take (i := 8) (v := ?_) rfl (by kernel_rfl) (by kernel_rfl) (by kernel_rfl) (by kernel_rfl) (by kernel_rfl) (fun _ _ _ h => h) (Or.inl ⟨by rfl, ?_⟩) hHeld ?_
        rotate_left
        · intro w' hSw
          (try dsimp only at hSw)
          go_simp
          try with_reducible rfl
        try simp only [Act.put, List.setIfInBounds_toArray, List.set_cons_zero, List.set_cons_succ]
        refine AnyS_take (i := 9) (v := ?_) rfl (by kernel_rfl) (by kernel_rfl) (by kernel_rfl) (by kernel_rfl) (by kernel_rfl) (fun _ _ _ h => h) (Or.inl ⟨by rfl, ?_⟩) hHeld ?_
        rotate_left
        · intro w' hSw
          (try dsimp only at hSw)
          go_simp
          try with_reducible rfl
        try simp only [Act.put, List.setIfInBounds_toArray, List.set_cons_zero, List.set_cons_succ]
        refine AnyS_take (i := 10) (v := ?_) rfl (by kernel_rfl) (by kernel_rfl) (by kernel_rfl) (by kernel_rfl) (by kernel_rfl) (fun _ _ _ h => h) (Or.inl ⟨by rfl, ?_⟩) hHeld ?_
        rotate_left
        · intro w' hSw
          (try dsimp only at hSw)
          go_simp
          try with_reducible rfl
        try simp only [Act.put, List.setIfInBounds_toArray, List.set_cons_zero, List.set_cons_succ]
        refine AnyS_step (i := 11) rfl (by kernel_rfl) rfl (fun K hK => ?_)
        go_simp
        refine (statSize_any f hfok _).mono ?_
        rintro e w' ⟨rfl, hb⟩
        obtain ⟨hc1, hf1⟩ := bcell hb
        refine hK.out _ _ (⟨(hc1 b 0 hbr).trans e0, (hc1 b 1 hbr).trans e1, (hf1 b 1 hbr).trans f1, (hc1 g _ hgr).trans d0', (hc1 g _ hgr).trans d1', (hc1 g _ hgr).trans d2'⟩) (fun hHeld => ?_)
        clear hK K
        try simp only [Act.put, List.setIfInBounds_toArray, List.set_cons_zero, List.set_cons_succ]
        refine AnyS_take (i := 12) (v := ?_) rfl (by kernel_rfl) (by kernel_rfl) (by kernel_rfl) (by kernel_rfl) (by kernel_rfl) (fun _ _ _ h => h) (Or.inl ⟨by rfl, ?_⟩) hHeld ?_
        rotate_left
        · intro w' hSw
          (try dsimp only at hSw)
          go_simp
          try with_reducible rfl
        try simp only [Act.put, List.setIfInBounds_toArray, List.set_cons_zero, List.set_cons_succ]
        refine AnyS_plain (i := 13) (v := ?_) rfl (by kernel_rfl) (by kernel_rfl) (by kernel_rfl) (by kernel_rfl) (fun _ _ _ h => h) (Or.inl ⟨by rfl, ?_⟩) hHeld ?_
        rotate_left
        · intro w' hSw
          (try dsimp only at hSw)
          go_simp
          try with_reducible rfl
        try simp only [Act.put, List.setIfInBounds_toArray, List.set_cons_zero, List.set_cons_succ]
        refine AnyS_plain (i := 14) (v := ?_) rfl (by kernel_rfl) (by kernel_rfl) (by kernel_rfl) (by kernel_rfl) (fun _ _ _ h => h) (Or.inl ⟨by rfl, ?_⟩) hHeld ?_
        rotate_left
        · intro w' hSw
          (try dsimp only at hSw)
          go_simp
          try with_reducible rfl
        try simp only [Act.put, List.setIfInBounds_toArray, List.set_cons_zero, List.set_cons_succ]
        refine AnyS_stepT (i := 15) rfl (by kernel_rfl) (by kernel_rfl) rfl (fun K hK => ?_)
        obtain ⟨q0, q1, qf, -, -, -⟩ := hHeld
        go_simp
        refine hK.out _ _ ?_
        clear hK K
        refine AnyS_done (by kernel_rfl) (NoPanic.normal ?_) _
        try simp only [Act.put, List.setIfInBounds_toArray, List.set_cons_zero, List.set_cons_succ]
        clear hHeld
        go_wp2
        refine ⟨⟨k + 1, by omega, by go_num, HSTEP.out, by rw [HTK1.out]; exact ((HBR.out.drew).below hb hbr).set 1 _, ?_⟩, by simp [intOf]; omega⟩
        exact ((HU.out.drew).trans (Upd.of_below (S := one_ b) (S' := one_ b) hb (fun k hk => .inl hk))).setCell (p := ⟨b, 1, none⟩) (.inl rfl) _
      · have t1 : decide (k < l.length) = true := decide_eq_true hkl
        have t2 : decide (room < (totalF (l.drop k) : Int)) = false := decide_eq_false hgt
        have HFIN : Hid (l.drop k = shrinkL room l) := Lib.hid <| by
          rw [← HSAME.out, hc]
          simp only [shrinkL]
          rw [← hc, if_neg hgt]
        clear hc hfok
        obtain ⟨A1, c1, hs1, hrow1⟩ := (HR.out.loc (w' := wr) fun j hj => HU.out.block j (HR.out.lt j hj) (fun h => HNS.out (h ▸ hj))).cutF k hk
        have HROW1 := Lib.hid hrow1
        clear hrow1
        go_wp2
        go_end0
        rw [← HFIN.out]
        refine ⟨rfl, ⟨A1, c1, S1, by rw [List.length_drop]; exact HBR.out.set 0 _, HROW1.out.loc fun j hj => heap_set_other _ (fun h => HNS.out (by rw [← show j = b from h]; exact hj)), HNS.out, HS.out⟩, ?_⟩
        exact ((HU.out.wider (R := S) (fun j hj => (HS.out j).2 (.inl hj))).holds (fun j hj => .inl hj)).setCell (.inl ((HS.out b).2 (.inl rfl))) _
    · have t1 : decide (k < l.length) = false := decide_eq_false hkl
      have HFIN : Hid (l.drop k = shrinkL room l) := Lib.hid <| by
        rw [← HSAME.out, show l.drop k = [] from List.drop_eq_nil_of_le (by omega)]
        rfl
      obtain ⟨A1, c1, hs1, hrow1⟩ := (HR.out.loc (w' := wr) fun j hj => HU.out.block j (HR.out.lt j hj) (fun h => HNS.out (h ▸ hj))).cutF k hk
      have HROW1 := Lib.hid hrow1
      clear hrow1
      go_wp2
      go_end0
      rw [← HFIN.out]
      refine ⟨rfl, ⟨A1, c1, S1, by rw [List.length_drop]; exact HBR.out.set 0 _, HROW1.out.loc fun j hj => heap_set_other _ (fun h => HNS.out (by rw [← show j = b from h]; exact hj)), HNS.out, HS.out⟩, ?_⟩
      exact ((HU.out.wider (R := S) (fun j hj => (HS.out j).2 (.inl hj))).holds (fun j hj => .inl hj)).setCell (.inl ((HS.out b).2 (.inl rfl))) _
end Go.Proofs.YthmfifcogokpoaaDoor
