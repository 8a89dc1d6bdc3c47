/- What is proved here: contracts of the program's functions and plain lemmas that the claim's last text uses, in parts: package unpack: read, from label to label; package unpack: read, the four kinds; package unpack: read: what is learned, the limits. -/
import Derived.Test.YthmfifcogokpoaaDoorM13
set_option linter.unusedVariables false
set_option linter.unusedSimpArgs false
namespace Go.Proofs.YthmfifcogokpoaaDoor
open Go.RowKit

noncomputable def readBody : Code := ((Tryd.f64.body.bind firstScope).getD .skip)
def ReadQ (res : Option RdS) (kb tb : Nat) (room : Int) (O : Own) (w : World) (e : Ending) (w' : World) : Prop :=
  match res with
  | some s => e = .returned (.bool true) ∧ ∃ S St, KT w' kb tb s.l room s.total s.fs S s.tab s.most St ∧ TabOk s.tab s.most ∧ Upd O (or_ S St) w w'
  | none => e = .returned (.bool false) ∧ Upd O O w w'
abbrev RdP (res : Option RdS) (kb tb : Nat) (room : Int) (O : Own) (w : World) : Exit → Act → World → Prop := bodyPost Tryd.prog Tryd.f64 (ReadQ res kb tb room O w)

theorem RdM.gone {w W : World} {kb tb : Nat} {room : Int} {O : Own} {s : RdS} {S St : Own} {fb : Nat} {f : FieldS} (h : RdM w W kb tb room O s S St fb f) : Upd O O w W := h.upd.holds fun _ hk => .inl hk
theorem Upd.forget {O T U : Own} {a b c : World} (h : Upd O T a b) (k : Upd T U b c) : Upd O O a c := (h.trans k).holds fun _ hk => .inl hk

/-- Label 'next' with this state is served. -/
def NextOk (w : World) (kb tb : Nat) (room : Int) (O : Own) (s : RdS) (fb : Nat) (res : Option RdS) (n : Nat) : Prop :=
  ∀ (W : World) (S St : Own) (f : FieldS), RdM w W kb tb room O s S St fb f → ∀ (u1 u4 u5 u6 u9 u10 u11 u12 u13 u14 u15 u16 u17 u18 u19 u20 u21 u22 u23 u24 u25 u26 u27 u28 u29 u30 u31 u32 u33 u34 u35 u36 u37 u38 u39 u40 u41 u42 u43 u44 u45 u46 u47 u48 u49 u50 u51 u52 u53 u54 u55 u56 u57 u58 u59 u60 u61 u62 u63 u64 u65 u66 u67 u68 u69 u70 u71 u72 u73 u74 u75 u76 u77 u78 u79 u80 u81 u82 u83 u84 u85 u86 u87 u88 u89 u90 u91 : Value),
    Lab Tryd.prog readBody (RdP res kb tb room O w) n 0 ⟨#[.pointer (some ⟨kb, 0, none⟩), u1, .bool false, .pointer (some ⟨fb, 0, none⟩), u4, u5, u6, .int .i64 s.told, .bool s.any, u9, u10, u11, u12, u13, u14, u15, u16, u17, u18, u19, u20, u21, u22, u23, u24, u25, u26, u27, u28, u29, u30, u31, u32, u33, u34, u35, u36, u37, u38, u39, u40, u41, u42, u43, u44, u45, u46, u47, u48, u49, u50, u51, u52, u53, u54, u55, u56, u57, u58, u59, u60, u61, u62, u63, u64, u65, u66, u67, u68, u69, u70, u71, u72, u73, u74, u75, u76, u77, u78, u79, u80, u81, u82, u83, u84, u85, u86, u87, u88, u89, u90, u91], []⟩ W

set_option maxRecDepth 100000 in
set_option maxHeartbeats 1000000 in
theorem rd_field (w W : World) (kb tb : Nat) (room : Int) (O : Own) (s : RdS) (S St : Own) (fb : Nat) (f : FieldS) (hM : RdM w W kb tb room O s S St fb f) (hf : f.Ok) (hc : ∃ c, s.fs.length ≤ c ∧ s.total ≤ 3000000000 * c ∧ c + 1 + s.l.length ≤ 1000000) (res : Option RdS) (n : Nat) (HN : NextOk w kb tb room O (fieldStep room s f) fb res n) (u1 u4 u6 u9 u10 u11 u12 u13 u14 u15 u16 u17 u18 u19 u20 u21 u22 u23 u24 u25 u26 u27 u28 u29 u30 u31 u32 u33 u34 u35 u36 u37 u38 u39 u40 u41 u42 u43 u44 u45 u46 u47 u48 u49 u50 u51 u52 u53 u54 u55 u56 u57 u58 u59 u60 u61 u62 u63 u64 u65 u66 u67 u68 u69 u70 u71 u72 u73 u74 u75 u76 u77 u78 u79 u80 u81 u82 u83 u84 u85 u86 u87 u88 u89 u90 u91 : Value) :
    Lab Tryd.prog readBody (RdP res kb tb room O w) (n + 1) 4 ⟨#[.pointer (some ⟨kb, 0, none⟩), u1, .bool false, .pointer (some ⟨fb, 0, none⟩), u4, .bool true, u6, .int .i64 s.told, .bool s.any, u9, u10, u11, u12, u13, u14, u15, u16, u17, u18, u19, u20, u21, u22, u23, u24, u25, u26, u27, u28, u29, u30, u31, u32, u33, u34, u35, u36, u37, u38, u39, u40, u41, u42, u43, u44, u45, u46, u47, u48, u49, u50, u51, u52, u53, u54, u55, u56, u57, u58, u59, u60, u61, u62, u63, u64, u65, u66, u67, u68, u69, u70, u71, u72, u73, u74, u75, u76, u77, u78, u79, u80, u81, u82, u83, u84, u85, u86, u87, u88, u89, u90, u91], []⟩ W := by
  have HM := Lib.hid hM
  have HC := Lib.hid hc
  have HNN := Lib.hid HN
  obtain ⟨c, c1, c2, c3⟩ := hc
  have hz1 : sizeF f ≤ 2000000032 := by have := hf.name; have := hf.value; unfold sizeF; omega
  have HK := Lib.hid (keep_any kb tb s.l room s.total s.fs S W hM.kt.k f hf (by omega) ⟨by omega, by omega⟩)
  have q0 := hM.fld.cell 0
  have q1 := hM.fld.cell 1
  have q2 := hM.fld.cell 2
  simp only [List.getElem?_cons_succ, List.getElem?_cons_zero] at q0 q1 q2
  unfold FieldS.v at HK
  clear hM HN
  refine Lab.step (by kernel_rfl) ?_
  show Code.wp _ _ _ _ _
  go_wp2_with (go_at_call 72; refine HK.out.mono ?_; rintro e w' ⟨rfl, S', hk, hu⟩; have HK2 := Lib.hid hk; have HU2 := Lib.hid hu; clear hk hu)
  go_step3
  simp only [Exit.then, Jumps_goto]
  have hu := HU2.out
  have hM := HM.out
  refine HNN.out w' S' St f ⟨?_, hM.fld.upd hu hM.far.1, ⟨fun h1 => ?_, hM.far.2⟩, hM.low, hM.pos, hM.upd.left hu, hM.tab, hM.told, ?_⟩ _ _ _ _ _ _ _ _ _ _ _ _ _ _ _ _ _ _ _ _ _ _ _ _ _ _ _ _ _ _ _ _ _ _ _ _ _ _ _ _ _ _ _ _ _ _ _ _ _ _ _ _ _ _ _ _ _ _ _ _ _ _ _ _ _ _ _ _ _ _ _ _ _ _ _ _ _ _ _ _ _ _ _ _ _ _ _
  · have := hM.kt.upd HK2.out hu
    simpa [fieldStep] using this
  · rcases hu.own _ h1 with h2 | h2
    · exact hM.far.1 h2
    · have := hM.fld.lt; omega
  · refine ⟨c + 1, ?_, ?_, ?_⟩
    · simp only [fieldStep, keepL]
      split
      · rw [List.length_append]; simp; omega
      · omega
    · simp only [fieldStep]; omega
    · simp only [fieldStep]; omega

set_option maxRecDepth 100000 in
theorem rd_bad (w W : World) (kb tb : Nat) (room : Int) (O : Own) (fb : Nat) (hu : Upd O O w W) (n : Nat) (u1 u4 u6 u7 u8 u9 u10 u11 u12 u13 u14 u15 u16 u17 u18 u19 u20 u21 u22 u23 u24 u25 u26 u27 u28 u29 u30 u31 u32 u33 u34 u35 u36 u37 u38 u39 u40 u41 u42 u43 u44 u45 u46 u47 u48 u49 u50 u51 u52 u53 u54 u55 u56 u57 u58 u59 u60 u61 u62 u63 u64 u65 u66 u67 u68 u69 u70 u71 u72 u73 u74 u75 u76 u77 u78 u79 u80 u81 u82 u83 u84 u85 u86 u87 u88 u89 u90 u91 : Value) :
    Lab Tryd.prog readBody (RdP none kb tb room O w) (n + 1) 4 ⟨#[.pointer (some ⟨kb, 0, none⟩), u1, .bool false, .pointer (some ⟨fb, 0, none⟩), u4, .bool false, u6, u7, u8, u9, u10, u11, u12, u13, u14, u15, u16, u17, u18, u19, u20, u21, u22, u23, u24, u25, u26, u27, u28, u29, u30, u31, u32, u33, u34, u35, u36, u37, u38, u39, u40, u41, u42, u43, u44, u45, u46, u47, u48, u49, u50, u51, u52, u53, u54, u55, u56, u57, u58, u59, u60, u61, u62, u63, u64, u65, u66, u67, u68, u69, u70, u71, u72, u73, u74, u75, u76, u77, u78, u79, u80, u81, u82, u83, u84, u85, u86, u87, u88, u89, u90, u91], []⟩ W := by
  have HU := Lib.hid hu
  clear hu
  refine Lab.step (by kernel_rfl) ?_
  show Code.wp _ _ _ _ _
  go_wp2
  go_ret
  exact ⟨rfl, HU.out⟩
end Go.Proofs.YthmfifcogokpoaaDoor
namespace Go.Proofs.YthmfifcogokpoaaDoor
open Go.RowKit

/-- Three stores into the field. -/
theorem stored3 {W : World} {fb : Nat} {a b c : Value} {x y z : Value} (h : Blk W fb 109 [a, b, c]) : Blk (((W.setCell ⟨fb, 0, none⟩ x).setCell ⟨fb, 1, none⟩ y).setCell ⟨fb, 2, none⟩ z) fb 109 [x, y, z] ∧ Upd (one_ fb) (one_ fb) W (((W.setCell ⟨fb, 0, none⟩ x).setCell ⟨fb, 1, none⟩ y).setCell ⟨fb, 2, none⟩ z) :=
  ⟨((h.set 0 _).set 1 _).set 2 _, (((Upd.refl (one_ fb) W).setCell (p := ⟨fb, 0, none⟩) (.inl (show one_ fb fb from rfl)) _).setCell (p := ⟨fb, 1, none⟩) (.inl (show one_ fb fb from rfl)) _).setCell (p := ⟨fb, 2, none⟩) (.inl (show one_ fb fb from rfl)) _⟩
/-- A call that only makes memory. -/
theorem RdM.below {w W W' : World} {kb tb : Nat} {room : Int} {O : Own} {s : RdS} {S St : Own} {fb : Nat} {f : FieldS} (h : RdM w W kb tb room O s S St fb f) (hb : Below W.heap.size W W') : RdM w W' kb tb room O s S St fb f where
  kt := h.kt.below hb
  fld := h.fld.below hb h.fld.lt
  far := h.far
  low := h.low
  pos := h.pos
  upd := h.upd.trans (Upd.of_below hb fun _ hk => .inl hk)
  tab := h.tab
  told := h.told
  cnt := h.cnt
theorem RdM.cnt1 {w W : World} {kb tb : Nat} {room : Int} {O : Own} {s : RdS} {S St : Own} {fb : Nat} {f : FieldS} (h : RdM w W kb tb room O s S St fb f) {r : List UInt8} (hr : r.length < s.l.length) : ∃ c, s.fs.length ≤ c ∧ s.total ≤ 3000000000 * c ∧ c + 1 + r.length ≤ 1000000 := by
  obtain ⟨c, h1, h2, h3⟩ := h.cnt
  exact ⟨c, h1, h2, by omega⟩

set_option maxRecDepth 100000 in
set_option maxHeartbeats 1000000 in
theorem rd_known (w W : World) (kb tb : Nat) (room : Int) (O : Own) (s : RdS) (S St : Own) (fb : Nat) (f : FieldS) (hM : RdM w W kb tb room O s S St fb f) (res : Option RdS) (n : Nat)
    (HN : match numS s.l 7 with | none => res = none | some (k, r) => if (atS s.tab k).2 then NextOk w kb tb room O (fieldStep room { s with l := r } (atS s.tab k).1) fb res n else res = none) (u1 u4 u5 u6 u9 u10 u11 u12 u13 u14 u15 u16 u17 u18 u19 u20 u21 u22 u23 u24 u25 u26 u27 u28 u29 u30 u31 u32 u33 u34 u35 u36 u37 u38 u39 u40 u41 u42 u43 u44 u45 u46 u47 u48 u49 u50 u51 u52 u53 u54 u55 u56 u57 u58 u59 u60 u61 u62 u63 u64 u65 u66 u67 u68 u69 u70 u71 u72 u73 u74 u75 u76 u77 u78 u79 u80 u81 u82 u83 u84 u85 u86 u87 u88 u89 u90 u91 : Value) :
    Lab Tryd.prog readBody (RdP res kb tb room O w) (n + 2) 1 ⟨#[.pointer (some ⟨kb, 0, none⟩), u1, .bool false, .pointer (some ⟨fb, 0, none⟩), u4, u5, u6, .int .i64 s.told, .bool s.any, u9, u10, u11, u12, u13, u14, u15, u16, u17, u18, u19, u20, u21, u22, u23, u24, u25, u26, u27, u28, u29, u30, u31, u32, u33, u34, u35, u36, u37, u38, u39, u40, u41, u42, u43, u44, u45, u46, u47, u48, u49, u50, u51, u52, u53, u54, u55, u56, u57, u58, u59, u60, u61, u62, u63, u64, u65, u66, u67, u68, u69, u70, u71, u72, u73, u74, u75, u76, u77, u78, u79, u80, u81, u82, u83, u84, u85, u86, u87, u88, u89, u90, u91], []⟩ W := by
  have HM := Lib.hid hM
  have HC := Lib.hid (number_any kb tb s.l room s.total s.fs S W hM.kt.k 7 ⟨by omega, by omega⟩)
  clear hM
  cases hn : numS s.l 7 with
  | none =>
    rw [hn] at HC HN
    simp only at HN
    subst HN
    clear hn
    refine Lab.step (by kernel_rfl) ?_
    show Code.wp _ _ _ _ _
    go_wp2_with (go_at_call 69; refine HC.out.mono ?_; rintro e w1 ⟨rfl, rfl⟩)
    go_step3
    simp only [Exit.then, Jumps_goto]
    exact rd_bad w _ kb tb room O fb HM.out.gone n _ _ _ _ _ _ _ _ _ _ _ _ _ _ _ _ _ _ _ _ _ _ _ _ _ _ _ _ _ _ _ _ _ _ _ _ _ _ _ _ _ _ _ _ _ _ _ _ _ _ _ _ _ _ _ _ _ _ _ _ _ _ _ _ _ _ _ _ _ _ _ _ _ _ _ _ _ _ _ _ _ _ _ _ _ _ _ _
  | some p =>
    obtain ⟨k, r⟩ := p
    obtain ⟨hrl, hkb⟩ := numS_len s.l r 7 k hn
    rw [hn] at HC HN
    simp only at HN
    have HNN := Lib.hid HN
    have hok := atS_ok s.tab k HM.out.tab.ok
    have HA := Lib.hid (fun W1 (hk : KAt W1 kb tb r room s.total s.fs S) ht hg => at_any kb tb r room s.total s.fs S W1 hk s.tab s.most St ht hg k hkb)
    unfold FieldS.v at HA
    clear HN hn
    generalize atS s.tab k = p at *
    obtain ⟨g, ok⟩ := p
    simp only at HA HNN hok
    cases ok with
    | true =>
      refine Lab.step (by kernel_rfl) ?_
      show Code.wp _ _ _ _ _
      go_wp2_with (first | (go_at_call 69; refine HC.out.mono ?_; rintro e w1 ⟨rfl, hk1, hu1⟩; have HM1 := Lib.hid (HM.out.step hk1 hu1 hrl); clear hk1 hu1) | (go_at_call 70; refine (HA.out w1 HM1.out.kt.k HM1.out.kt.t HM1.out.kt.g).mono ?_; rintro e w2 ⟨rfl, hb⟩; have HM2 := Lib.hid (HM1.out.below hb); clear hb; have q0 := HM2.out.fld.cell 0; have q1 := HM2.out.fld.cell 1; have q2 := HM2.out.fld.cell 2; have z0 := HM2.out.fld.frozen 0; have z1 := HM2.out.fld.frozen 1; have z2 := HM2.out.fld.frozen 2; simp only [List.getElem?_cons_succ, List.getElem?_cons_zero] at q0 q1 q2))
      go_step3
      simp only [Exit.then, Jumps_goto]
      have hst := stored3 (x := .string g.name) (y := .string g.value) (z := .bool g.never) HM2.out.fld
      exact rd_field w _ kb tb room O { s with l := r } S St fb g (HM2.out.stored (f' := g) hst.1 hst.2) hok (HM.out.cnt1 hrl) res n HNN.out _ _ _ _ _ _ _ _ _ _ _ _ _ _ _ _ _ _ _ _ _ _ _ _ _ _ _ _ _ _ _ _ _ _ _ _ _ _ _ _ _ _ _ _ _ _ _ _ _ _ _ _ _ _ _ _ _ _ _ _ _ _ _ _ _ _ _ _ _ _ _ _ _ _ _ _ _ _ _ _ _ _ _ _ _ _
    | false =>
      have hres := HNN.out
      simp only [Bool.false_eq_true, if_false] at hres
      subst hres
      clear HNN
      refine Lab.step (by kernel_rfl) ?_
      show Code.wp _ _ _ _ _
      go_wp2_with (first | (go_at_call 69; refine HC.out.mono ?_; rintro e w1 ⟨rfl, hk1, hu1⟩; have HM1 := Lib.hid (HM.out.step hk1 hu1 hrl); clear hk1 hu1) | (go_at_call 70; refine (HA.out w1 HM1.out.kt.k HM1.out.kt.t HM1.out.kt.g).mono ?_; rintro e w2 ⟨rfl, hb⟩; have HM2 := Lib.hid (HM1.out.below hb); clear hb; have q0 := HM2.out.fld.cell 0; have q1 := HM2.out.fld.cell 1; have q2 := HM2.out.fld.cell 2; have z0 := HM2.out.fld.frozen 0; have z1 := HM2.out.fld.frozen 1; have z2 := HM2.out.fld.frozen 2; simp only [List.getElem?_cons_succ, List.getElem?_cons_zero] at q0 q1 q2))
      go_step3
      simp only [Exit.then, Jumps_goto]
      have hst := stored3 (x := .string g.name) (y := .string g.value) (z := .bool g.never) HM2.out.fld
      exact rd_bad w _ kb tb room O fb (HM2.out.stored (f' := g) hst.1 hst.2).gone n _ _ _ _ _ _ _ _ _ _ _ _ _ _ _ _ _ _ _ _ _ _ _ _ _ _ _ _ _ _ _ _ _ _ _ _ _ _ _ _ _ _ _ _ _ _ _ _ _ _ _ _ _ _ _ _ _ _ _ _ _ _ _ _ _ _ _ _ _ _ _ _ _ _ _ _ _ _ _ _ _ _ _ _ _ _ _ _

/-- The table went on. -/
theorem RdM.table {w W W' : World} {kb tb : Nat} {room : Int} {O : Own} {s : RdS} {S St St' : Own} {fb : Nat} {f : FieldS} (h : RdM w W kb tb room O s S St fb f) {tab : List FieldS} {most : Int} (ht : TableAt W' tb tab most St') (hu : Upd St St' W W') (hok : TabOk tab most) {told : Nat} (h2 : told ≤ 2) : RdM w W' kb tb room O { s with tab := tab, most := most, told := told } S St' fb f where
  kt := h.kt.updT ht hu
  fld := h.fld.upd hu h.far.2
  far := ⟨h.far.1, fun h1 => by
    rcases hu.own _ h1 with h2 | h2
    · exact h.far.2 h2
    · have := h.fld.lt; omega⟩
  low := h.low
  pos := h.pos
  upd := h.upd.right hu
  tab := hok
  told := h2
  cnt := h.cnt

set_option maxRecDepth 100000 in
set_option maxHeartbeats 1000000 in
theorem rd_lit (w W : World) (kb tb : Nat) (room : Int) (O : Own) (s : RdS) (S St : Own) (fb : Nat) (f : FieldS) (hM : RdM w W kb tb room O s S St fb f) (res : Option RdS) (n x : Nat)
    (HN : match litS s.l s.tab 4 with | none => res = none | some (g, r) => NextOk w kb tb room O (fieldStep room { s with l := r } ⟨g.name, g.value, decide (16 ≤ x)⟩) fb res n) (u1 u4 u5 u9 u10 u11 u12 u13 u14 u15 u16 u17 u18 u19 u20 u21 u22 u23 u24 u25 u26 u27 u28 u29 u30 u31 u32 u33 u34 u35 u36 u37 u38 u39 u40 u41 u42 u43 u44 u45 u46 u47 u48 u49 u50 u51 u52 u53 u54 u55 u56 u57 u58 u59 u60 u61 u62 u63 u64 u65 u66 u67 u68 u69 u70 u71 u72 u73 u74 u75 u76 u77 u78 u79 u80 u81 u82 u83 u84 u85 u86 u87 u88 u89 u90 u91 : Value) :
    tailW Tryd.prog 10 readBody (Jumps (Lab Tryd.prog readBody (RdP res kb tb room O w) (n + 1)) (RdP res kb tb room O w)) ⟨#[.pointer (some ⟨kb, 0, none⟩), u1, .bool false, .pointer (some ⟨fb, 0, none⟩), u4, u5, .int .u8 x, .int .i64 s.told, .bool s.any, u9, u10, u11, u12, u13, u14, u15, u16, u17, u18, u19, u20, u21, u22, u23, u24, u25, u26, u27, u28, u29, u30, u31, u32, u33, u34, u35, u36, u37, u38, u39, u40, u41, u42, u43, u44, u45, u46, u47, u48, u49, u50, u51, u52, u53, u54, u55, u56, u57, u58, u59, u60, u61, u62, u63, u64, u65, u66, u67, u68, u69, u70, u71, u72, u73, u74, u75, u76, u77, u78, u79, u80, u81, u82, u83, u84, u85, u86, u87, u88, u89, u90, u91], []⟩ W := by
  have HM := Lib.hid hM
  have HC : Hid (Calls Tryd.prog 68 #[.pointer (some ⟨kb, 0, none⟩), .int .i64 ((4 : Nat) : Int)] W (LitQ (litS s.l s.tab 4) kb tb room s.total s.fs S W)) := Lib.hid (literal_any kb tb s.l room s.total s.fs S W s.tab s.most St hM.kt (by have := hM.len; omega) 4 ⟨by omega, by omega⟩)
  have hd : decide ((16 : Int) ≤ (x : Int)) = decide (16 ≤ x) := by rw [decide_eq_decide]; omega
  clear hM
  cases hn : litS s.l s.tab 4 with
  | none =>
    rw [hn] at HC HN
    simp only at HN
    subst HN
    clear hn
    show Code.wp _ _ _ _ _
    go_wp2_with (go_at_call 68; refine HC.out.mono ?_; rintro e w1 ⟨⟨g, rfl⟩, hu1⟩; have hq := HM.out.fld.upd hu1 HM.out.far.1; have HQ := Lib.hid hq; have q0 := hq.cell 0; have q1 := hq.cell 1; have q2 := hq.cell 2; have z0 := hq.frozen 0; have z1 := hq.frozen 1; have z2 := hq.frozen 2; simp only [List.getElem?_cons_succ, List.getElem?_cons_zero] at q0 q1 q2; have HU1 := Lib.hid hu1; clear hu1 hq; unfold FieldS.v)
    go_step3
    simp only [Exit.then, Jumps_goto]
    refine rd_bad w _ kb tb room O fb ?_ n _ _ _ _ _ _ _ _ _ _ _ _ _ _ _ _ _ _ _ _ _ _ _ _ _ _ _ _ _ _ _ _ _ _ _ _ _ _ _ _ _ _ _ _ _ _ _ _ _ _ _ _ _ _ _ _ _ _ _ _ _ _ _ _ _ _ _ _ _ _ _ _ _ _ _ _ _ _ _ _ _ _ _ _ _ _ _ _
    have h1 := HM.out.upd.left HU1.out
    have hst := stored3 (x := .string g.name) (y := .string g.value) (z := .bool g.never) HQ.out
    have h2 := (h1.more hst.2 HM.out.low).holds (S'' := O) (fun _ hk => .inl hk)
    refine Upd.setCell ?_ (.inr HM.out.low) _
    exact h2
  | some p =>
    obtain ⟨g, r⟩ := p
    obtain ⟨hrl, hgok⟩ := litS_facts s.l r s.tab 4 g HM.out.tab.ok hn
    rw [hn] at HC HN
    simp only at HN
    have HNN := Lib.hid HN
    clear HN hn
    show Code.wp _ _ _ _ _
    go_wp2_with (go_at_call 68; refine HC.out.mono ?_; rintro e w1 ⟨rfl, hk1, hu1⟩; have HM1 := Lib.hid (HM.out.step hk1 hu1 hrl); clear hk1 hu1; have q0 := HM1.out.fld.cell 0; have q1 := HM1.out.fld.cell 1; have q2 := HM1.out.fld.cell 2; have z0 := HM1.out.fld.frozen 0; have z1 := HM1.out.fld.frozen 1; have z2 := HM1.out.fld.frozen 2; simp only [List.getElem?_cons_succ, List.getElem?_cons_zero] at q0 q1 q2; unfold FieldS.v)
    go_step3
    simp only [Exit.then, Jumps_goto]
    have hst := stored3 (x := .string g.name) (y := .string g.value) (z := .bool g.never) HM1.out.fld
    have h1 := HM1.out.stored (f' := g) hst.1 hst.2
    have h2 := h1.stored (f' := ⟨g.name, g.value, decide (16 ≤ x)⟩) (h1.fld.set 2 (.bool (decide (16 ≤ x)))) ((Upd.refl (one_ fb) _).setCell (p := ⟨fb, 2, none⟩) (.inl (show one_ fb fb from rfl)) _)
    exact rd_field w _ kb tb room O { s with l := r } S St fb ⟨g.name, g.value, decide (16 ≤ x)⟩ h2 ⟨hgok.name, hgok.value⟩ (HM.out.cnt1 hrl) res n HNN.out _ _ _ _ _ _ _ _ _ _ _ _ _ _ _ _ _ _ _ _ _ _ _ _ _ _ _ _ _ _ _ _ _ _ _ _ _ _ _ _ _ _ _ _ _ _ _ _ _ _ _ _ _ _ _ _ _ _ _ _ _ _ _ _ _ _ _ _ _ _ _ _ _ _ _ _ _ _ _ _ _ _ _ _ _ _
end Go.Proofs.YthmfifcogokpoaaDoor
namespace Go.Proofs.YthmfifcogokpoaaDoor
open Go.RowKit

set_option maxRecDepth 100000 in
set_option maxHeartbeats 1000000 in
theorem rd_learned (w W : World) (kb tb : Nat) (room : Int) (O : Own) (s : RdS) (S St : Own) (fb : Nat) (f : FieldS) (hM : RdM w W kb tb room O s S St fb f) (res : Option RdS) (n : Nat)
    (HN : match litS s.l s.tab 6 with | none => res = none | some (g, r) => NextOk w kb tb room O (fieldStep room { s with l := r, tab := addL s.most s.tab g } g) fb res n) (u1 u4 u5 u6 u9 u10 u11 u12 u13 u14 u15 u16 u17 u18 u19 u20 u21 u22 u23 u24 u25 u26 u27 u28 u29 u30 u31 u32 u33 u34 u35 u36 u37 u38 u39 u40 u41 u42 u43 u44 u45 u46 u47 u48 u49 u50 u51 u52 u53 u54 u55 u56 u57 u58 u59 u60 u61 u62 u63 u64 u65 u66 u67 u68 u69 u70 u71 u72 u73 u74 u75 u76 u77 u78 u79 u80 u81 u82 u83 u84 u85 u86 u87 u88 u89 u90 u91 : Value) :
    Lab Tryd.prog readBody (RdP res kb tb room O w) (n + 2) 2 ⟨#[.pointer (some ⟨kb, 0, none⟩), u1, .bool false, .pointer (some ⟨fb, 0, none⟩), u4, u5, u6, .int .i64 s.told, .bool s.any, u9, u10, u11, u12, u13, u14, u15, u16, u17, u18, u19, u20, u21, u22, u23, u24, u25, u26, u27, u28, u29, u30, u31, u32, u33, u34, u35, u36, u37, u38, u39, u40, u41, u42, u43, u44, u45, u46, u47, u48, u49, u50, u51, u52, u53, u54, u55, u56, u57, u58, u59, u60, u61, u62, u63, u64, u65, u66, u67, u68, u69, u70, u71, u72, u73, u74, u75, u76, u77, u78, u79, u80, u81, u82, u83, u84, u85, u86, u87, u88, u89, u90, u91], []⟩ W := by
  have HM := Lib.hid hM
  have HC : Hid (Calls Tryd.prog 68 #[.pointer (some ⟨kb, 0, none⟩), .int .i64 ((6 : Nat) : Int)] W (LitQ (litS s.l s.tab 6) kb tb room s.total s.fs S W)) := Lib.hid (literal_any kb tb s.l room s.total s.fs S W s.tab s.most St hM.kt (by have := hM.len; omega) 6 ⟨by omega, by omega⟩)
  clear hM
  cases hn : litS s.l s.tab 6 with
  | none =>
    rw [hn] at HC HN
    simp only at HN
    subst HN
    clear hn
    refine Lab.step (by kernel_rfl) ?_
    show Code.wp _ _ _ _ _
    go_wp2_with (go_at_call 68; refine HC.out.mono ?_; rintro e w1 ⟨⟨g, rfl⟩, hu1⟩; have hq := HM.out.fld.upd hu1 HM.out.far.1; have HQ := Lib.hid hq; have q0 := hq.cell 0; have q1 := hq.cell 1; have q2 := hq.cell 2; have z0 := hq.frozen 0; have z1 := hq.frozen 1; have z2 := hq.frozen 2; simp only [List.getElem?_cons_succ, List.getElem?_cons_zero] at q0 q1 q2; have HU1 := Lib.hid hu1; clear hu1 hq; unfold FieldS.v)
    go_step3
    simp only [Exit.then, Jumps_goto]
    refine rd_bad w _ kb tb room O fb ?_ n _ _ _ _ _ _ _ _ _ _ _ _ _ _ _ _ _ _ _ _ _ _ _ _ _ _ _ _ _ _ _ _ _ _ _ _ _ _ _ _ _ _ _ _ _ _ _ _ _ _ _ _ _ _ _ _ _ _ _ _ _ _ _ _ _ _ _ _ _ _ _ _ _ _ _ _ _ _ _ _ _ _ _ _ _ _ _ _
    have h1 := HM.out.upd.left HU1.out
    have hst := stored3 (x := .string g.name) (y := .string g.value) (z := .bool g.never) HQ.out
    exact (h1.more hst.2 HM.out.low).holds (S'' := O) (fun _ hk => .inl hk)
  | some p =>
    obtain ⟨g, r⟩ := p
    obtain ⟨hrl, hgok⟩ := litS_facts s.l r s.tab 6 g HM.out.tab.ok hn
    rw [hn] at HC HN
    simp only at HN
    have HNN := Lib.hid HN
    clear HN hn
    refine Lab.step (by kernel_rfl) ?_
    show Code.wp _ _ _ _ _
    go_wp2_with (go_at_call 68; refine HC.out.mono ?_; rintro e w1 ⟨rfl, hk1, hu1⟩; have HM1 := Lib.hid (HM.out.step hk1 hu1 hrl); clear hk1 hu1; have q0 := HM1.out.fld.cell 0; have q1 := HM1.out.fld.cell 1; have q2 := HM1.out.fld.cell 2; have z0 := HM1.out.fld.frozen 0; have z1 := HM1.out.fld.frozen 1; have z2 := HM1.out.fld.frozen 2; simp only [List.getElem?_cons_succ, List.getElem?_cons_zero] at q0 q1 q2; unfold FieldS.v)
    have hst := stored3 (x := .string g.name) (y := .string g.value) (z := .bool g.never) HM1.out.fld
    have HM3 := Lib.hid (HM1.out.stored (f' := g) hst.1 hst.2)
    generalize ((w1.setCell ⟨fb, 0, none⟩ (.string g.name)).setCell ⟨fb, 1, none⟩ (.string g.value)).setCell ⟨fb, 2, none⟩ (.bool g.never) = W3 at *
    obtain ⟨A, c, A2, c2, S1, S2, h1, -⟩ := HM3.out.kt.k
    have e1 := h1.cell 1
    have p0 := HM3.out.fld.cell 0
    have p1 := HM3.out.fld.cell 1
    have p2 := HM3.out.fld.cell 2
    simp only [List.getElem?_cons_succ, List.getElem?_cons_zero] at e1 p0 p1 p2
    have hmost := HM3.out.tab.most
    have htot := HM3.out.tab.total
    simp only at hmost htot
    have HA := Lib.hid (add_any tb s.tab s.most St W3.drew (HM3.out.kt.t.loc fun _ _ => rfl) g hgok ⟨by omega, by omega⟩ HM3.out.tab.ok (by omega))
    unfold FieldS.v at HA
    clear hst h1 hmost htot q0 q1 q2 z0 z1 z2
    refine wp_region_S (fun w' => w'.cell? ⟨kb, 1, none⟩ = some (.pointer (some ⟨tb, 0, none⟩)) ∧ w'.cell? ⟨fb, 0, none⟩ = some (.string g.name) ∧ w'.cell? ⟨fb, 1, none⟩ = some (.string g.value) ∧ w'.cell? ⟨fb, 2, none⟩ = some (.bool g.never)) 5 (by kernel_rfl) (⟨e1, p0, p1, p2⟩) (fun hHeld => ?_)
    refine AnyS_plain (i := 0) (v := ?_) rfl (by kernel_rfl) (by kernel_rfl) (by kernel_rfl) (by kernel_rfl) (fun _ _ _ h => h) (Or.inl ⟨by rfl, ?_⟩) hHeld ?_
    rotate_left
    · intro w' hSw
      (try dsimp only at hSw)
      go_simp
      try with_reducible rfl
    try simp only [Act.put, List.setIfInBounds_toArray, List.set_cons_zero, List.set_cons_succ]
    refine AnyS_plain (i := 1) (v := ?_) rfl (by kernel_rfl) (by kernel_rfl) (by kernel_rfl) (by kernel_rfl) (fun _ _ _ h => h) (Or.inl ⟨by rfl, ?_⟩) hHeld ?_
    rotate_left
    · intro w' hSw
      (try dsimp only at hSw)
      go_simp
      try with_reducible rfl
    try simp only [Act.put, List.setIfInBounds_toArray, List.set_cons_zero, List.set_cons_succ]
    refine AnyS_plain (i := 2) (v := ?_) rfl (by kernel_rfl) (by kernel_rfl) (by kernel_rfl) (by kernel_rfl) (fun _ _ _ h => h) (Or.inl ⟨by rfl, ?_⟩) hHeld ?_
    rotate_left
    · intro w' hSw
      (try dsimp only at hSw)
      go_simp
      try with_reducible rfl
    try simp only [Act.put, List.setIfInBounds_toArray, List.set_cons_zero, List.set_cons_succ]
    refine AnyS_take (i := 3) (v := ?_) rfl (by kernel_rfl) (by kernel_rfl) (by kernel_rfl) (by kernel_rfl) (by kernel_rfl) (fun _ _ _ h => h) (Or.inl ⟨by rfl, ?_⟩) hHeld ?_
    rotate_left
    · intro w' hSw
      (try dsimp only at hSw)
      go_simp
      try with_reducible rfl
    try simp only [Act.put, List.setIfInBounds_toArray, List.set_cons_zero, List.set_cons_succ]
    refine AnyS_take (i := 4) (v := ?_) rfl (by kernel_rfl) (by kernel_rfl) (by kernel_rfl) (by kernel_rfl) (by kernel_rfl) (fun _ _ _ h => h) (Or.inl ⟨by rfl, ?_⟩) hHeld ?_
    rotate_left
    · intro w' hSw
      (try dsimp only at hSw)
      go_simp
      try with_reducible rfl
    try simp only [Act.put, List.setIfInBounds_toArray, List.set_cons_zero, List.set_cons_succ]
    refine AnyS_stepT (i := 5) rfl (by kernel_rfl) (by kernel_rfl) rfl (fun K hK => ?_)
    go_simp
    refine HA.out.mono ?_
    rintro e w4 ⟨rfl, St', ht4, hu4⟩
    have HT4 := Lib.hid ht4
    have HU4 := Lib.hid hu4
    clear ht4 hu4
    refine hK.out _ _ ?_
    clear hK K
    refine AnyS_done (by kernel_rfl) (NoPanic.normal ?_) _
    try simp only [Act.put, List.setIfInBounds_toArray, List.set_cons_zero, List.set_cons_succ]
    clear hHeld
    go_wp2
    go_step3
    simp only [Exit.then, Jumps_goto]
    have hM4 := (HM3.out.below (W' := W3.drew) ⟨rfl, rfl, rfl, Nat.le_refl _, fun _ _ => rfl⟩).table HT4.out HU4.out (HM3.out.tab.add hgok) HM3.out.told
    exact rd_field w _ kb tb room O { s with l := r, tab := addL s.most s.tab g } S St' fb g hM4 hgok (HM.out.cnt1 hrl) res n HNN.out _ _ _ _ _ _ _ _ _ _ _ _ _ _ _ _ _ _ _ _ _ _ _ _ _ _ _ _ _ _ _ _ _ _ _ _ _ _ _ _ _ _ _ _ _ _ _ _ _ _ _ _ _ _ _ _ _ _ _ _ _ _ _ _ _ _ _ _ _ _ _ _ _ _ _ _ _ _ _ _ _ _ _ _ _ _

set_option maxRecDepth 100000 in
set_option maxHeartbeats 1000000 in
theorem rd_limited (w W : World) (kb tb : Nat) (room : Int) (O : Own) (s : RdS) (S St : Own) (fb : Nat) (f : FieldS) (hM : RdM w W kb tb room O s S St fb f) (res : Option RdS) (n : Nat)
    (HN : match numS s.l 5 with | none => res = none | some (k, r) => if s.any = true ∨ 2 < s.told + 1 ∨ 4096 < k then res = none else NextOk w kb tb room O { s with l := r, told := s.told + 1, tab := shrinkL k s.tab, most := k } fb res n) (u1 u4 u5 u6 u9 u10 u11 u12 u13 u14 u15 u16 u17 u18 u19 u20 u21 u22 u23 u24 u25 u26 u27 u28 u29 u30 u31 u32 u33 u34 u35 u36 u37 u38 u39 u40 u41 u42 u43 u44 u45 u46 u47 u48 u49 u50 u51 u52 u53 u54 u55 u56 u57 u58 u59 u60 u61 u62 u63 u64 u65 u66 u67 u68 u69 u70 u71 u72 u73 u74 u75 u76 u77 u78 u79 u80 u81 u82 u83 u84 u85 u86 u87 u88 u89 u90 u91 : Value) :
    Lab Tryd.prog readBody (RdP res kb tb room O w) (n + 1) 3 ⟨#[.pointer (some ⟨kb, 0, none⟩), u1, .bool false, .pointer (some ⟨fb, 0, none⟩), u4, u5, u6, .int .i64 s.told, .bool s.any, u9, u10, u11, u12, u13, u14, u15, u16, u17, u18, u19, u20, u21, u22, u23, u24, u25, u26, u27, u28, u29, u30, u31, u32, u33, u34, u35, u36, u37, u38, u39, u40, u41, u42, u43, u44, u45, u46, u47, u48, u49, u50, u51, u52, u53, u54, u55, u56, u57, u58, u59, u60, u61, u62, u63, u64, u65, u66, u67, u68, u69, u70, u71, u72, u73, u74, u75, u76, u77, u78, u79, u80, u81, u82, u83, u84, u85, u86, u87, u88, u89, u90, u91], []⟩ W := by
  have HM := Lib.hid hM
  have HC := Lib.hid (number_any kb tb s.l room s.total s.fs S W hM.kt.k 5 ⟨by omega, by omega⟩)
  have htold := hM.told
  clear hM
  cases hn : numS s.l 5 with
  | none =>
    rw [hn] at HC HN
    simp only at HN
    subst HN
    clear hn
    refine Lab.step (by kernel_rfl) ?_
    show Code.wp _ _ _ _ _
    go_wp2_with (go_at_call 69; refine HC.out.mono ?_; rintro e w1 ⟨rfl, rfl⟩)
    go_ret
    exact ⟨rfl, HM.out.gone⟩
  | some p =>
    obtain ⟨k, r⟩ := p
    obtain ⟨hrl, hkb⟩ := numS_len s.l r 5 k hn
    rw [hn] at HC HN
    simp only at HN
    have HNN := Lib.hid HN
    clear HN hn
    have HTL := Lib.hid (fun W' St' (ht : TableAt W' tb s.tab s.most St') hk => limit_any tb s.tab s.most St' W' ht (k : Int) hk HM.out.tab.ok (by have h1 := HM.out.tab.total; have h2 := HM.out.tab.most; omega))
    by_cases ha : s.any = true
    · have hres := HNN.out
      rw [if_pos (.inl ha)] at hres
      subst hres
      rw [ha]
      clear HNN ha
      refine Lab.step (by kernel_rfl) ?_
      show Code.wp _ _ _ _ _
      go_wp2_with (go_at_call 69; refine HC.out.mono ?_; rintro e w1 ⟨rfl, hk1, hu1⟩; have HM1 := Lib.hid (HM.out.step hk1 hu1 hrl); clear hk1 hu1)
      go_ret
      exact ⟨rfl, HM1.out.gone⟩
    · have ha2 : s.any = false := by simpa using ha
      rw [ha2]
      by_cases h2 : 2 < s.told + 1
      · have hres := HNN.out
        rw [if_pos (.inr (.inl h2))] at hres
        subst hres
        have t1 : decide ((2 : Int) < (s.told : Int) + 1) = true := decide_eq_true (by omega)
        clear HNN ha ha2 h2
        refine Lab.step (by kernel_rfl) ?_
        show Code.wp _ _ _ _ _
        go_wp2_with (go_at_call 69; refine HC.out.mono ?_; rintro e w1 ⟨rfl, hk1, hu1⟩; have HM1 := Lib.hid (HM.out.step hk1 hu1 hrl); clear hk1 hu1)
        go_ret
        exact ⟨rfl, HM1.out.gone⟩
      · have t1 : decide ((2 : Int) < (s.told : Int) + 1) = false := decide_eq_false (by omega)
        by_cases h4 : 4096 < k
        · have hres := HNN.out
          rw [if_pos (.inr (.inr h4))] at hres
          subst hres
          have HB := Lib.hid (fun w => limit_bad tb (k : Int) w (.inr (by omega)))
          clear HNN ha ha2 h2 h4
          refine Lab.step (by kernel_rfl) ?_
          show Code.wp _ _ _ _ _
          go_wp2_with (first | (go_at_call 69; refine HC.out.mono ?_; rintro e w1 ⟨rfl, hk1, hu1⟩; have HM1 := Lib.hid (HM.out.step hk1 hu1 hrl); clear hk1 hu1; obtain ⟨A, c, A2, c2, S1, S2, h1, -⟩ := HM1.out.kt.k; have e1 := h1.cell 1; simp only [List.getElem?_cons_succ, List.getElem?_cons_zero] at e1; clear h1) | (go_at_call 37; refine (HB.out _).mono ?_; rintro e w2 ⟨rfl, rfl⟩))
          go_ret
          exact ⟨rfl, HM1.out.gone⟩
        · have HN2 := Lib.hid (show NextOk w kb tb room O { s with l := r, told := s.told + 1, tab := shrinkL k s.tab, most := k } fb res n from by
            have h := HNN.out
            rw [if_neg (by rintro (h | h | h) <;> simp_all <;> omega)] at h
            exact h)
          have hk : 0 ≤ (k : Int) ∧ (k : Int) ≤ 4096 := by omega
          have HK := Lib.hid hk
          have ht2 : s.told + 1 ≤ 2 := by omega
          clear HNN ha h2 h4 hk
          refine Lab.step (by kernel_rfl) ?_
          show Code.wp _ _ _ _ _
          go_wp2_with (first | (go_at_call 69; refine HC.out.mono ?_; rintro e w1 ⟨rfl, hk1, hu1⟩; have HM1 := Lib.hid (HM.out.step hk1 hu1 hrl); clear hk1 hu1; obtain ⟨A, c, A2, c2, S1, S2, h1, -⟩ := HM1.out.kt.k; have e1 := h1.cell 1; simp only [List.getElem?_cons_succ, List.getElem?_cons_zero] at e1; clear h1) | (go_at_call 37; refine (HTL.out w1 St HM1.out.kt.t HK.out).mono ?_; rintro e w2 ⟨rfl, St', ht2, hu2⟩; have HM2 := Lib.hid (HM1.out.table ht2 hu2 (HM1.out.tab.limit HK.out) (told := s.told + 1) (by omega)); clear ht2 hu2))
          go_step3
          simp only [Exit.then, Jumps_goto]
          have h9 := HN2.out w2 S St' f HM2.out
          simp only [ha2] at h9
          exact h9 _ _ _ _ _ _ _ _ _ _ _ _ _ _ _ _ _ _ _ _ _ _ _ _ _ _ _ _ _ _ _ _ _ _ _ _ _ _ _ _ _ _ _ _ _ _ _ _ _ _ _ _ _ _ _ _ _ _ _ _ _ _ _ _ _ _ _ _ _ _ _ _ _ _ _ _ _ _ _ _ _ _ _ _ _ _ _
end Go.Proofs.YthmfifcogokpoaaDoor
