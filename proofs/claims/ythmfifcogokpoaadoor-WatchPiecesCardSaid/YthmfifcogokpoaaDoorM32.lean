/- What is proved here: contracts of the program's functions and plain lemmas that the claim's last text uses, in parts: WatchPieces, its loop; WatchPieces answers true. -/
import Derived.Test.YthmfifcogokpoaaDoorM31
import Derived.Test.YthmfifcogokpoaaDoorM29
set_option linter.unusedVariables false
set_option linter.unusedSimpArgs false
namespace Go.Proofs.YthmfifcogokpoaaDoor
open Go.RowKit

theorem HAt.other {W W' : World} {b : Nat} {s : WatchS} {S T T' : Own} (h : HAt W b s S) (hu : Upd T T' W W') (ha : Apart S T) (h0 : ¬ T 0) : HAt W' b s S := by
  obtain ⟨v, s', h1, h2⟩ := h
  exact ⟨v, s', h1, h2.upd hu ha h0⟩
/-- Two Watches side by side. -/
structure Two (w W : World) (a b : Nat) (s t : WatchS) (Sa Sb : Own) : Prop where
  ha : HAt W a s Sa
  hb : HAt W b t Sb
  ap : Apart Sa Sb
  upd : Upd none_ (or_ Sa Sb) w W
theorem Two.turnA {w W W' : World} {a b : Nat} {s s' t : WatchS} {Sa Sa' Sb : Own} (h : Two w W a b s t Sa Sb) (h2 : HAt W' a s' Sa') (hu : Upd Sa Sa' W W') : Two w W' a b s' t Sa' Sb :=
  ⟨h2, h.hb.other hu h.ap.symm h.ha.pos, hu.apart h.ap h.hb.lt, h.upd.left hu⟩
theorem Two.turnB {w W W' : World} {a b : Nat} {s t t' : WatchS} {Sa Sb Sb' : Own} (h : Two w W a b s t Sa Sb) (h2 : HAt W' b t' Sb') (hu : Upd Sb Sb' W W') : Two w W' a b s t' Sa Sb' :=
  ⟨h.ha.other hu h.ap h.hb.pos, h2, (hu.apart h.ap.symm h.ha.lt).symm, h.upd.right hu⟩
theorem Two.fresh {w W W' : World} {a b : Nat} {s t : WatchS} {Sa Sb T : Own} (h : Two w W a b s t Sa Sb) (hu : Upd none_ T W W') : Two w W' a b s t Sa Sb :=
  ⟨h.ha.upd hu, h.hb.upd hu, h.ap, h.upd.trans ((hu.wider (R := or_ Sa Sb) (fun _ h => h.elim)).holds fun k hk => .inl hk)⟩
theorem Two.below {w W W' : World} {a b : Nat} {s t : WatchS} {Sa Sb : Own} (h : Two w W a b s t Sa Sb) (hb : Below W.heap.size W W') : Two w W' a b s t Sa Sb := h.fresh (T := none_) (Upd.of_below hb fun _ h => h.elim)
theorem Two.drewN {w W : World} {a b : Nat} {s t : WatchS} {Sa Sb : Own} (h : Two w W a b s t Sa Sb) (n : Nat) : Two w (W.drewN n) a b s t Sa Sb := h.fresh (T := none_) ((Upd.refl none_ W).drewN n)
theorem Two.end_ {w W : World} {a b : Nat} {s t : WatchS} {Sa Sb : Own} (h : Two w W a b s t Sa Sb) : Below w.heap.size w W := h.upd.below (fun _ h => h.elim) (Nat.le_refl _)
noncomputable def opPart (s : WatchS) (kind : Int) (l : List UInt8) : WatchS := if kind = 0 then inS s l else outS s l
theorem opPart_nil {B : Nat} {s : WatchS} (h : Mid B s) (kind : Int) : opPart s kind [] = s := by
  unfold opPart
  split
  · exact inS_idle h.i
  · exact outS_idle h.o
theorem opPart_more (s : WatchS) (kind : Int) (a b : List UInt8) : opPart (opPart s kind a) kind b = opPart s kind (a ++ b) := by
  unfold opPart
  split
  · exact inS_append s a b
  · exact outS_append s a b
theorem opPart_ok {B : Nat} {s : WatchS} (h : WOk B s) (kind : Int) (l : List UInt8) (hB : B + l.length ≤ 1000000000) : WOk (B + l.length) (opPart s kind l) := by
  unfold opPart
  split
  · exact inS_ok h l
  · exact outS_ok h l hB
theorem opPart_dead {s : WatchS} (h : s.dead = true → s.bad = true) (kind : Int) (l : List UInt8) : (opPart s kind l).dead = true → (opPart s kind l).bad = true := by
  unfold opPart
  split
  · exact inS_dead h l
  · exact outS_dead h l
def codeS_ (t : WatchS) : Int := if t.bad then 2 else 0

noncomputable def pcBody : Code := Tryd.f5.body.getD .skip
def TrueR (w : World) (e : Ending) (w' : World) : Prop := e = .returned (.bool true) ∧ Below w.heap.size w w'
abbrev PcP (w : World) : Exit → Act → World → Prop := bodyPost Tryd.prog Tryd.f5 (TrueR w)
def PcO (w : World) (a b : Nat) (l : List OpS) (iv : Value) (g : Nat) (wr : World) : Prop :=
  ∃ (k : Nat) (s : WatchS) (Sa Sb : Own), iv = .int .i64 k ∧ k ≤ l.length ∧ l.length < g + k ∧ Mid (opsTotal (l.take k)) s ∧ Two w wr a b s s Sa Sb
def PcI (w : World) (a b : Nat) (s : WatchS) (x : OpS) (yv atv : Value) (g : Nat) (wr : World) : Prop :=
  ∃ (p : Nat) (y : Int) (Sa Sb : Own), atv = .int .i64 p ∧ yv = .int .i64 y ∧ p ≤ x.b.length + 100 ∧ x.b.length < g + p ∧ Two w wr a b (opPart s x.kind x.b) (opPart s x.kind (x.b.take p)) Sa Sb ∧ (x.kind ≠ 0 → 0 < p → y = codeS_ (opPart s x.kind (x.b.take p)))

set_option maxRecDepth 100000 in
set_option maxHeartbeats 1000000 in
theorem pc_loop (l : List OpS) (hl : l.length ≤ 300) (htot : opsTotal l ≤ 100000) (size : Nat) (hs1 : 1 ≤ size) (hs2 : size ≤ 100) (A : Option Addr) (c : Nat) (w : World) (hr : Rd w 2 A l.length c (opCells l)) (hx : ∀ x ∈ l, Rd w 1 x.A x.b.length x.c (bys x.b))
    (a b : Nat) (Sa Sb : Own) (W : World) (h : Two w W a b newS newS Sa Sb) (u2 u3 u4 u7 u8 u9 u10 u11 u12 u13 u14 u15 u16 u17 u18 u19 u20 u21 u22 u23 u24 u25 u26 u27 u28 u29 u30 u31 u32 u33 u34 u35 u36 u37 u38 u39 u40 u41 u42 u43 u44 u45 u46 u47 u48 u49 u50 u51 u52 u53 u54 u55 u56 u57 u58 u59 u60 u61 u62 u63 u64 u65 u66 u67 u68 u69 u70 u71 u72 u73 u74 u75 u76 u77 u78 u79 u80 u81 u82 u83 u84 u85 u86 u87 u88 u89 u90 u91 u92 u93 u94 u95 u96 u97 u98 u99 u100 u101 u102 u103 u104 u105 u106 u107 u108 u109 u110 u111 u112 u113 u114 u115 u116 u117 u118 u119 u120 u121 u122 u123 u124 u125 u126 u127 u128 u129 u130 u131 u132 u133 u134 : Value) :
    tailW Tryd.prog 5 pcBody (PcP w) ⟨#[.slice A l.length c, .int .i64 size, u2, u3, u4, .pointer (some ⟨a, 0, none⟩), .pointer (some ⟨b, 0, none⟩), u7, u8, u9, u10, u11, u12, u13, u14, u15, u16, u17, u18, u19, u20, u21, u22, u23, u24, u25, u26, u27, u28, u29, u30, u31, u32, u33, u34, u35, u36, u37, u38, u39, u40, u41, u42, u43, u44, u45, u46, u47, u48, u49, u50, u51, u52, u53, u54, u55, u56, u57, u58, u59, u60, u61, u62, u63, u64, u65, u66, u67, u68, u69, u70, u71, u72, u73, u74, u75, u76, u77, u78, u79, u80, u81, u82, u83, u84, u85, u86, u87, u88, u89, u90, u91, u92, u93, u94, u95, u96, u97, u98, u99, u100, u101, u102, u103, u104, u105, u106, u107, u108, u109, u110, u111, u112, u113, u114, u115, u116, u117, u118, u119, u120, u121, u122, u123, u124, u125, u126, u127, u128, u129, u130, u131, u132, u133, u134], []⟩ W := by
  have HR := Lib.hid hr
  have HX := Lib.hid hx
  have HT0 := Lib.hid h
  have HTOT := Lib.hid htot
  clear hr hx h htot
  show Code.wp _ _ _ _ _
  go_wp2
  go_loopg [7] (l.length + 1) (fun g iv wr => PcO w a b l iv g wr)
  case atStart => exact ⟨0, newS, Sa, Sb, rfl, Nat.zero_le _, by omega, newS_mid, HT0.out⟩
  case round =>
    obtain ⟨k, s, Sa1, Sb1, rfl, hk, hg, hmid, htwo⟩ := hrel
    obtain ⟨gO, hgO⟩ : ∃ gO, gO = gk := ⟨_, rfl⟩
    subst hgO
    have HMID := Lib.hid hmid
    have HTWO := Lib.hid htwo
    clear HT0 hmid htwo
    by_cases hkl : k < l.length
    · have t1 : decide (k < l.length) = true := decide_eq_true hkl
      obtain ⟨g, o, hA, hcell⟩ := HR.out.form (by omega)
      obtain ⟨k0, k1⟩ := opCells_at l k hkl
      have d0 := hcell _ _ k0
      have d1 := hcell _ _ k1
      rw [← Nat.add_assoc] at d1
      have hgl : g < w.heap.size := World.block_lt_of_cell? _ _ d0
      have hxr := HX.out _ (List.getElem_mem hkl)
      have hxt : opsTotal (l.take k) + l[k].b.length ≤ 100000 := by
        have h1 := opsTotal_snoc (l.take k) l[k]
        rw [← take_snoc_at l k hkl] at h1
        have h2 := opsTotal_take l (k + 1)
        have h3 := HTOT.out
        omega
      have hnext : opsTotal (l.take (k + 1)) = opsTotal (l.take k) + l[k].b.length := by
        have h1 := opsTotal_snoc (l.take k) l[k]
        rwa [← take_snoc_at l k hkl] at h1
      have HNX := Lib.hid hnext
      have HXR := Lib.hid hxr
      have j0 : (0 : Int) ≤ (k : Int) := by omega
      have j1 : (k : Int) < (l.length : Int) := by omega
      subst hA
      have HC := Lib.hid (show ∀ (W' : World) (T : Own), Upd none_ T w W' → W'.cell? ⟨g, o + k * 2, none⟩ = some (.int .i64 l[k].kind) ∧ W'.cell? ⟨g, o + k * 2 + 1, none⟩ = some (.slice l[k].A l[k].b.length l[k].c) from
        fun W' T hu => ⟨(hu.cell (a := ⟨g, o + k * 2, none⟩) hgl (fun h => h)).trans d0, (hu.cell (a := ⟨g, o + k * 2 + 1, none⟩) hgl (fun h => h)).trans d1⟩)
      clear hcell k0 k1 d0 d1 hnext hxr
      generalize l[k] = x at *
      obtain ⟨kind, xA, xc, xb⟩ := x
      simp only at *
      have hblk : 0 < xb.length → ∀ q, blockOf xA = some q → q < w.heap.size := fun h => HXR.out.block_lt h (by omega)
      have HBLK := Lib.hid hblk
      clear hblk
      obtain ⟨c0, c1⟩ := HC.out _ _ HTWO.out.upd
      by_cases hkind : kind = 0
      · have tk : (kind == 0) = true := beq_iff_eq.2 hkind
        have tk2 : (kind != 0) = false := by rw [hkind]; rfl
        have HOP := Lib.hid (show ∀ q, opPart s kind q = inS s q from fun q => by unfold opPart; rw [if_pos hkind])
        have HKD := Lib.hid hkind
        clear hkind
        have HCA := Lib.hid (fun (W' : World) (S' : Own) (hh : HAt W' a s S') (hu : Upd none_ (or_ S' Sb1) w W') => in_h0 hh HMID.out.ok (A := xA) (c := xc) (l := xb) (rd_upd0 HXR.out hu (fun h q hq => ⟨HBLK.out h q hq, fun h => h⟩)) (fun h q hq => ⟨Nat.lt_of_lt_of_le (HBLK.out h q hq) hu.size, fun hS => (hu.own q (.inl hS)).elim (fun h => h) (fun h2 => by have := HBLK.out h q hq; omega)⟩) (by omega))
        unfold InQ at HCA
        go_wp2_with (go_at_call 9; refine (HCA.out _ _ HTWO.out.ha HTWO.out.upd).mono ?_; rintro e w2 ⟨rfl, Sa2, hh, hu⟩; have HT2 := Lib.hid (HTWO.out.turnA hh hu); clear hh hu HCA)
        clear c0 c1
        go_loopg [10] (xb.length + 1) (fun g atv wr => PcI w a b s ⟨kind, xA, xc, xb⟩ (.int .i64 0) atv g wr)
        case atStart =>
          refine ⟨0, 0, Sa2, Sb1, rfl, rfl, by simp, by simp, ?_, fun _ h => absurd h (by omega)⟩
          simp only [List.take_zero]
          rw [opPart_nil HMID.out, HOP.out]
          exact HT2.out
        case round =>
          obtain ⟨p, y, Sa3, Sb3, rfl, -, hp, hgp, htwo3, hy⟩ := hrel
          simp only at hp hgp htwo3 hy
          have hgI : xb.length < gk + p := hgp
          obtain ⟨gI, hgI2⟩ : ∃ gI, gI = gk := ⟨_, rfl⟩
          subst hgI2
          obtain ⟨c0, c1⟩ := HC.out _ _ htwo3.upd
          have HB3 := Lib.hid htwo3
          have HY3 := Lib.hid hy
          clear HT2 htwo3 hy
          by_cases hpl : p < xb.length
          · have t5 : decide (p < xb.length) = true := decide_eq_true hpl
            obtain ⟨hi, hhi⟩ : ∃ hi, min (p + size) xb.length = hi := ⟨_, rfl⟩
            have hmin : min ((p : Int) + (size : Int)) (xb.length : Int) = (hi : Int) := by omega
            have hw1 : IntKind.i64.wrap ((p : Int) + (size : Int)) = (p : Int) + (size : Int) := IntWalk.i64_in _ (by omega)
            obtain ⟨A9, c9, hsl, hr9⟩ := HXR.out.mid p hi (by omega) (by omega)
            have hcl : ((xb.drop p).take (hi - p)).length = hi - p := by rw [List.length_take, List.length_drop]; omega
            have hbl9 := hr9.block_lt (by omega) (by omega)
            have hjoin : xb.take p ++ (xb.drop p).take (hi - p) = xb.take (p + size) := by
              rw [List.take_add]
              congr 1
              rw [List.take_eq_take_iff, List.length_drop]
              omega
            have htl : (xb.take p).length ≤ xb.length := List.length_take_le' _ _
            have HCB := Lib.hid (fun (W' : World) (S' : Own) (hh : HAt W' b (opPart s kind (xb.take p)) S') (hu : Upd none_ (or_ Sa3 S') w W') => show Calls Tryd.prog 9 #[.pointer (some ⟨b, 0, none⟩), .slice A9 ((xb.drop p).take (hi - p)).length c9] W' (InQ b (opPart s kind (xb.take (p + size))) S' W') from by
              have h1 := in_h0 hh (opPart_ok HMID.out.ok kind (xb.take p) (by omega)) (A := A9) (c := c9) (l := (xb.drop p).take (hi - p)) (hr9.upd hu (fun q hq => ⟨hbl9 q hq, fun h => h⟩)) (fun _ q hq => ⟨Nat.lt_of_lt_of_le (hbl9 q hq) hu.size, fun hS => (hu.own q (.inr hS)).elim (fun h => h) (fun h2 => by have := hbl9 q hq; omega)⟩) (by omega)
              have e1 : inS (opPart s kind (xb.take p)) ((xb.drop p).take (hi - p)) = opPart s kind (xb.take (p + size)) := by
                rw [← hjoin, ← opPart_more]
                unfold opPart
                rw [if_pos HKD.out, if_pos HKD.out]
              rw [e1] at h1
              exact h1)
            have HPS := Lib.hid (show (p : Int) + (size : Int) = ((p + size : Nat) : Int) by omega)
            have hltp : p + size ≤ xb.length + 100 := by omega
            have hg2 : xb.length < (gI - 1) + (p + size) := by omega
            have hg3 : 0 < gI := by omega
            clear hr9 hcl hbl9 hjoin htl hhi
            generalize (xb.drop p).take (hi - p) = ch at *
            unfold InQ at HCB
            go_wp2
            go_quiet (fail)
            have HB3' := Lib.hid (HB3.out.drewN nq)
            go_wp2_with (go_at_call 9; refine (HCB.out _ _ HB3'.out.hb HB3'.out.upd).mono ?_; rintro e w5 ⟨rfl, Sb5, hh, hu⟩; have HB5 := Lib.hid (HB3'.out.turnB hh hu); clear hh hu HCB)
            go_roundg (gI - 1)
            case measure => omega
            case rel =>
              exact ⟨p + size, 0, Sa3, Sb5, by first | rfl | (rw [HPS.out]), rfl, hltp, hg2, HB5.out, fun h => absurd HKD.out h⟩
          · have t5 : decide (p < xb.length) = false := decide_eq_false hpl
            have htk : xb.take p = xb := List.take_of_length_le (by omega)
            rw [htk] at HB3 HY3
            have hmid2 := HMID.out.opRun ⟨kind, xA, xc, xb⟩ (by simp only; omega)
            rw [show opRun s ⟨kind, xA, xc, xb⟩ = opPart s kind xb from rfl, ← HNX.out] at hmid2
            have HM2 := Lib.hid hmid2
            have HFA := Lib.hid (fun (W' : World) (S' : Own) (hh : HAt W' a (opPart s kind xb) S') => frames_h hh)
            have HFB := Lib.hid (fun (W' : World) (S' : Own) (hh : HAt W' b (opPart s kind xb) S') => frames_h hh)
            clear hmid2 htk
            generalize hs2 : opPart s kind xb = s2 at *
            have HS2 := Lib.hid hs2
            clear hs2
            generalize s2.frames = fr at *
            go_wp2_with (first
              | (go_at_call 13; refine (HFA.out _ Sa3 HB3.out.ha).mono ?_; rintro e w6 ⟨rfl, rfl⟩)
              | (go_at_call 13; refine (HFB.out _ Sb3 HB3.out.hb).mono ?_; rintro e w7 ⟨rfl, rfl⟩))
            go_roundg (gO - 1)
            case measure => omega
            case rel =>
              exact ⟨k + 1, s2, Sa3, Sb3, by go_num, by omega, by omega, HM2.out, HB3.out⟩
      · have tk : (kind == 0) = false := beq_eq_false_iff_ne.2 hkind
        have tk2 : (kind != 0) = true := bne_iff_ne.2 hkind
        have HOP := Lib.hid (show ∀ q, opPart s kind q = outS s q from fun q => by unfold opPart; rw [if_neg hkind])
        have HKD := Lib.hid hkind
        clear hkind
        have HCA := Lib.hid (fun (W' : World) (S' : Own) (hh : HAt W' a s S') (hu : Upd none_ (or_ S' Sb1) w W') => out_h0 hh HMID.out.ok HMID.out.d (A := xA) (c := xc) (l := xb) (rd_upd0 HXR.out hu (fun h q hq => ⟨HBLK.out h q hq, fun h => h⟩)) (by omega))
        unfold OutR at HCA
        rw [← HOP.out] at HCA
        generalize hxn : (if (opPart s kind xb).bad then (2 : Int) else 0) = xn at *
        have HXN := Lib.hid (show codeS_ (opPart s kind xb) = xn from hxn)
        clear hxn
        go_wp2_with (go_at_call 12; refine (HCA.out _ _ HTWO.out.ha HTWO.out.upd).mono ?_; rintro e w2 ⟨rfl, Sa2, hh, hu⟩; have HT2 := Lib.hid (HTWO.out.turnA hh hu); clear hh hu HCA)
        clear c0 c1
        go_loopg [9, 10] (xb.length + 1) (fun g yv atv wr => PcI w a b s ⟨kind, xA, xc, xb⟩ yv atv g wr)
        case atStart =>
          refine ⟨0, 0, Sa2, Sb1, rfl, rfl, by simp, by simp, ?_, fun _ h => absurd h (by omega)⟩
          simp only [List.take_zero]
          rw [opPart_nil HMID.out]
          exact HT2.out
        case round =>
          obtain ⟨p, y, Sa3, Sb3, rfl, rfl, hp, hgp, htwo3, hy⟩ := hrel
          simp only at hp hgp htwo3 hy
          have hgI : xb.length < gk + p := hgp
          obtain ⟨gI, hgI2⟩ : ∃ gI, gI = gk := ⟨_, rfl⟩
          subst hgI2
          obtain ⟨c0, c1⟩ := HC.out _ _ htwo3.upd
          have HB3 := Lib.hid htwo3
          have HY3 := Lib.hid hy
          clear HT2 htwo3 hy
          by_cases hpl : p < xb.length
          · have t5 : decide (p < xb.length) = true := decide_eq_true hpl
            obtain ⟨hi, hhi⟩ : ∃ hi, min (p + size) xb.length = hi := ⟨_, rfl⟩
            have hmin : min ((p : Int) + (size : Int)) (xb.length : Int) = (hi : Int) := by omega
            have hw1 : IntKind.i64.wrap ((p : Int) + (size : Int)) = (p : Int) + (size : Int) := IntWalk.i64_in _ (by omega)
            obtain ⟨A9, c9, hsl, hr9⟩ := HXR.out.mid p hi (by omega) (by omega)
            have hcl : ((xb.drop p).take (hi - p)).length = hi - p := by rw [List.length_take, List.length_drop]; omega
            have hbl9 := hr9.block_lt (by omega) (by omega)
            have hjoin : xb.take p ++ (xb.drop p).take (hi - p) = xb.take (p + size) := by
              rw [List.take_add]
              congr 1
              rw [List.take_eq_take_iff, List.length_drop]
              omega
            have htl : (xb.take p).length ≤ xb.length := List.length_take_le' _ _
            have HCB := Lib.hid (fun (W' : World) (S' : Own) (hh : HAt W' b (opPart s kind (xb.take p)) S') (hu : Upd none_ (or_ Sa3 S') w W') => show Calls Tryd.prog 12 #[.pointer (some ⟨b, 0, none⟩), .slice A9 ((xb.drop p).take (hi - p)).length c9] W' (OutR b (opPart s kind (xb.take (p + size))) (codeS_ (opPart s kind (xb.take (p + size)))) S' W') from by
              have h1 := out_h0 hh (opPart_ok HMID.out.ok kind (xb.take p) (by omega)) (opPart_dead HMID.out.d kind (xb.take p)) (A := A9) (c := c9) (l := (xb.drop p).take (hi - p)) (hr9.upd hu (fun q hq => ⟨hbl9 q hq, fun h => h⟩)) (by omega)
              have e1 : outS (opPart s kind (xb.take p)) ((xb.drop p).take (hi - p)) = opPart s kind (xb.take (p + size)) := by
                rw [← hjoin, ← opPart_more]
                unfold opPart
                rw [if_neg HKD.out, if_neg HKD.out]
              rw [e1] at h1
              exact h1)
            have HPS := Lib.hid (show (p : Int) + (size : Int) = ((p + size : Nat) : Int) by omega)
            have hltp : p + size ≤ xb.length + 100 := by omega
            have hg2 : xb.length < (gI - 1) + (p + size) := by omega
            have hg3 : 0 < gI := by omega
            clear hr9 hcl hbl9 hjoin htl hhi
            generalize (xb.drop p).take (hi - p) = ch at *
            unfold OutR at HCB
            generalize hyn : codeS_ (opPart s kind (xb.take (p + size))) = yn at *
            have HYN := Lib.hid hyn
            clear hyn
            go_wp2
            go_quiet (fail)
            have HB3' := Lib.hid (HB3.out.drewN nq)
            go_wp2_with (go_at_call 12; refine (HCB.out _ _ HB3'.out.hb HB3'.out.upd).mono ?_; rintro e w5 ⟨rfl, Sb5, hh, hu⟩; have HB5 := Lib.hid (HB3'.out.turnB hh hu); clear hh hu HCB)
            go_roundg (gI - 1)
            case measure => omega
            case rel =>
              exact ⟨p + size, yn, Sa3, Sb5, by first | rfl | (rw [HPS.out]), rfl, hltp, hg2, HB5.out, fun _ _ => HYN.out.symm⟩
          · have t5 : decide (p < xb.length) = false := decide_eq_false hpl
            have htk : xb.take p = xb := List.take_of_length_le (by omega)
            rw [htk] at HB3 HY3
            have hmid2 := HMID.out.opRun ⟨kind, xA, xc, xb⟩ (by simp only; omega)
            rw [show opRun s ⟨kind, xA, xc, xb⟩ = opPart s kind xb from rfl, ← HNX.out] at hmid2
            have HM2 := Lib.hid hmid2
            have HFA := Lib.hid (fun (W' : World) (S' : Own) (hh : HAt W' a (opPart s kind xb) S') => frames_h hh)
            have HFB := Lib.hid (fun (W' : World) (S' : Own) (hh : HAt W' b (opPart s kind xb) S') => frames_h hh)
            have HXY := Lib.hid (fun h => HY3.out HKD.out h)
            clear HY3
            by_cases hlen : 0 < xb.length
            · obtain rfl : y = xn := (HXY.out (by omega)).trans HXN.out
              have t7 : decide (0 < xb.length) = true := decide_eq_true hlen
              have t8 : decide ((0 : Int) < (xb.length : Int)) = true := decide_eq_true (by omega)
              clear hmid2 htk
              generalize hs2 : opPart s kind xb = s2 at *
              have HS2 := Lib.hid hs2
              clear hs2
              generalize s2.frames = fr at *
              go_wp2_with (first
                | (go_at_call 13; refine (HFA.out _ Sa3 HB3.out.ha).mono ?_; rintro e w6 ⟨rfl, rfl⟩)
                | (go_at_call 13; refine (HFB.out _ Sb3 HB3.out.hb).mono ?_; rintro e w7 ⟨rfl, rfl⟩))
              go_roundg (gO - 1)
              case measure => omega
              case rel =>
                exact ⟨k + 1, s2, Sa3, Sb3, by go_num, by omega, by omega, HM2.out, HB3.out⟩
            · have t7 : decide (0 < xb.length) = false := decide_eq_false hlen
              have t8 : decide ((0 : Int) < (xb.length : Int)) = false := decide_eq_false (by omega)
              clear hmid2 htk
              generalize hs2 : opPart s kind xb = s2 at *
              have HS2 := Lib.hid hs2
              clear hs2
              generalize s2.frames = fr at *
              go_wp2_with (first
                | (go_at_call 13; refine (HFA.out _ Sa3 HB3.out.ha).mono ?_; rintro e w6 ⟨rfl, rfl⟩)
                | (go_at_call 13; refine (HFB.out _ Sb3 HB3.out.hb).mono ?_; rintro e w7 ⟨rfl, rfl⟩))
              go_roundg (gO - 1)
              case measure => omega
              case rel =>
                exact ⟨k + 1, s2, Sa3, Sb3, by go_num, by omega, by omega, HM2.out, HB3.out⟩
    · have t1 : decide (k < l.length) = false := decide_eq_false hkl
      have htk : l.take k = l := List.take_of_length_le (by omega)
      rw [htk] at HMID
      have hB : opsTotal l ≤ 1000000000 := by have := HTOT.out; omega
      have hsl : (sentS s 1).length ≤ 1000000000 := by
        unfold sentS
        split
        · simp
        · rename_i i hi
          obtain ⟨x, hx⟩ := idxS_at hi
          rw [strOf_at hx]
          have := HMID.out.ok.data _ (List.mem_of_getElem? hx)
          simp only at this ⊢
          omega
      have HSA := Lib.hid (fun (W' : World) (S' : Own) (hh : HAt W' a s S') => sent_h hh HMID.out.ok hB 1)
      have HSB := Lib.hid (fun (W' : World) (S' : Own) (hh : HAt W' b s S') => sent_h hh HMID.out.ok hB 1)
      unfold OwnQ at HSA HSB
      clear htk hB hsl
      generalize sentS s 1 = sl at *
      go_wp2_with (first
        | (go_at_call 7; refine (first_any _ HTWO.out.ha.glob).mono ?_; rintro e w2 ⟨rfl, hb⟩; have HT2 := Lib.hid (HTWO.out.below hb); clear hb)
        | (go_at_call 19; refine (HSA.out _ Sa1 HT2.out.ha).mono ?_; rintro e w3 ⟨A3, c3, S3, rfl, hr, hu⟩; have HR3 := Lib.hid hr; have HT3 := Lib.hid (HT2.out.fresh hu); clear hr hu HSA)
        | (go_at_call 19; refine (HSB.out _ Sb1 HT3.out.hb).mono ?_; rintro e w4 ⟨A4, c4, S4, rfl, hr, hu⟩; have HR4 := Lib.hid hr; have HR34 := Lib.hid (HR3.out.upd hu (fun _ _ h => h)); have HT4 := Lib.hid (HT3.out.fresh hu); clear hr hu HSB)
        | (go_at_call 18; refine (sameB_any sl A3 c3 A4 c4 _ HR34.out.rd HR4.out.rd).mono ?_; rintro e w5 ⟨rfl, hb⟩; have HT5 := Lib.hid (HT4.out.below hb); clear hb))
      go_ret
      exact ⟨rfl, HT5.out.end_⟩
end Go.Proofs.YthmfifcogokpoaaDoor
namespace Go.Proofs.YthmfifcogokpoaaDoor
open Go.RowKit

set_option maxRecDepth 100000 in
set_option maxHeartbeats 1000000 in
theorem pieces_any (l : List OpS) (size : Int) (A : Option Addr) (c : Nat) (w : World) (hg : GlobOk w) (hr : Rd w 2 A l.length c (opCells l)) (hx : ∀ x ∈ l, Rd w 1 x.A x.b.length x.c (bys x.b)) :
    Calls Tryd.prog 5 #[.slice A l.length c, .int .i64 size] w (TrueR w) := by
  have HG := Lib.hid hg
  by_cases hgood : fewS l = true ∧ 1 ≤ size ∧ size ≤ 100
  · obtain ⟨hf, hs1, hs2⟩ := hgood
    obtain ⟨sz, rfl⟩ : ∃ m : Nat, size = m := ⟨size.toNat, by omega⟩
    have t1 : decide ((sz : Int) < 1) = false := decide_eq_false (by omega)
    have t2 : decide ((100 : Int) < (sz : Int)) = false := decide_eq_false (by omega)
    have hf2 := hf
    unfold fewS at hf2
    simp only [Bool.and_eq_true, decide_eq_true_eq] at hf2
    have hl : l.length ≤ 300 := hf2.1
    have htot : opsTotal l ≤ 100000 := by
      have h1 := hf2.2
      rw [List.take_of_length_le hl] at h1
      rw [opsTotal_few l h1]
      exact h1
    have HT := Lib.hid (fun (W : World) (a b : Nat) (Sa Sb : Own) (h : Two w W a b newS newS Sa Sb) => pc_loop l hl htot sz (by omega) (by omega) A c w hr hx a b Sa Sb W h)
    have HFE := Lib.hid (show ∀ (W : World), Below w.heap.size w W → Calls Tryd.prog 17 #[.slice A l.length c] W fun e w' => e = .returned (.bool true) ∧ w' = W from fun W hb => by
      have h1 := few_any l A c W (hr.grow (by omega) hb)
      rw [hf] at h1
      exact h1)
    clear hf hf2 hl htot hr hx hs1 hs2 hg
    go_enter Tryd.func5, Tryd.ntmps5
    refine wp_cut_as pcBody (by kernel_rfl) 5 ?_
    show Code.wp _ _ _ _ _
    go_wp2
    show Code.wp _ _ _ _ _
    go_wp2_with (go_at_call 7; refine (first_any _ HG.out).mono ?_; rintro e w1 ⟨rfl, hb⟩; have HB1 := Lib.hid hb; have HG1 := Lib.hid (HG.out.below hb HG.out.pos); clear hb)
    show Code.wp _ _ _ _ _
    go_wp2_with (go_at_call 17; refine (HFE.out _ HB1.out).mono ?_; rintro e w2 ⟨rfl, rfl⟩)
    show Code.wp _ _ _ _ _
    go_wp2_with (first
      | (go_at_call 8; refine (new_h _ HG1.out).mono ?_; rintro e w3 ⟨a, Sa, rfl, hh, hu⟩; have HA := Lib.hid hh; have HUA := Lib.hid hu; clear hh hu HG1)
      | (go_at_call 8; refine (new_h _ HA.out.glob).mono ?_; rintro e w4 ⟨b, Sb, rfl, hh, hu⟩; have HT2 := Lib.hid (show Two w w4 a b newS newS Sa Sb from ⟨HA.out.upd hu, hh, (hu.fresh HA.out.lt).symm, ((Upd.of_below HB1.out (S := none_) (S' := none_) fun _ h => h.elim).trans HUA.out).trans ((hu.wider (R := Sa) fun _ h => h.elim).holds fun k hk => hk.elim .inl fun h => (hu.own k h).elim (fun h => h.elim) .inr)⟩); clear hh hu))
    show Code.wp _ _ _ _ _
    go_wp2
    show tailW _ _ _ _ _ _
    exact HT.out _ a b Sa Sb HT2.out _ _ _ _ _ _ _ _ _ _ _ _ _ _ _ _ _ _ _ _ _ _ _ _ _ _ _ _ _ _ _ _ _ _ _ _ _ _ _ _ _ _ _ _ _ _ _ _ _ _ _ _ _ _ _ _ _ _ _ _ _ _ _ _ _ _ _ _ _ _ _ _ _ _ _ _ _ _ _ _ _ _ _ _ _ _ _ _ _ _ _ _ _ _ _ _ _ _ _ _ _ _ _ _ _ _ _ _ _ _ _ _ _ _ _ _ _ _ _ _ _ _ _ _ _ _ _ _ _ _ _
  · have walk : ∀ (q1 q2 q3 : Bool), fewS l = q1 → decide (size < 1) = q2 → decide (100 < size) = q3 → (q1 = false ∨ q2 = true ∨ q3 = true) → Calls Tryd.prog 5 #[.slice A l.length c, .int .i64 size] w (TrueR w) := by
      intro q1 q2 q3 hf t2 t3 hq
      have HFE := Lib.hid (show ∀ (W : World), Below w.heap.size w W → Calls Tryd.prog 17 #[.slice A l.length c] W fun e w' => e = .returned (.bool q1) ∧ w' = W from fun W hb => by
        have h1 := few_any l A c W (hr.grow (by omega) hb)
        rw [hf] at h1
        exact h1)
      clear hf hr hx hgood hg
      cases q1 with
      | false =>
        clear t2 t3 hq
        go_enter Tryd.func5, Tryd.ntmps5
        go_wp2_with (first
          | (go_at_call 7; refine (first_any _ HG.out).mono ?_; rintro e w1 ⟨rfl, hb⟩; have HB1 := Lib.hid hb; have HG1 := Lib.hid (HG.out.below hb HG.out.pos); clear hb HG)
          | (go_at_call 17; refine (HFE.out _ HB1.out).mono ?_; rintro e w2 ⟨rfl, rfl⟩)
          | (go_at_call 7; refine (first_any _ HG1.out).mono ?_; rintro e w3 ⟨rfl, hb⟩; have HB3 := Lib.hid hb; clear hb))
        go_ret
        exact ⟨rfl, below_call HB3.out HB1.out HB1.out.size⟩
      | true =>
      cases q2 with
      | true =>
        clear t3 hq
        go_enter Tryd.func5, Tryd.ntmps5
        go_wp2_with (first
          | (go_at_call 7; refine (first_any _ HG.out).mono ?_; rintro e w1 ⟨rfl, hb⟩; have HB1 := Lib.hid hb; have HG1 := Lib.hid (HG.out.below hb HG.out.pos); clear hb HG)
          | (go_at_call 17; refine (HFE.out _ HB1.out).mono ?_; rintro e w2 ⟨rfl, rfl⟩)
          | (go_at_call 7; refine (first_any _ HG1.out).mono ?_; rintro e w3 ⟨rfl, hb⟩; have HB3 := Lib.hid hb; clear hb))
        go_ret
        exact ⟨rfl, below_call HB3.out HB1.out HB1.out.size⟩
      | false =>
        obtain rfl : q3 = true := by simpa using hq
        clear hq
        go_enter Tryd.func5, Tryd.ntmps5
        go_wp2_with (first
          | (go_at_call 7; refine (first_any _ HG.out).mono ?_; rintro e w1 ⟨rfl, hb⟩; have HB1 := Lib.hid hb; have HG1 := Lib.hid (HG.out.below hb HG.out.pos); clear hb HG)
          | (go_at_call 17; refine (HFE.out _ HB1.out).mono ?_; rintro e w2 ⟨rfl, rfl⟩)
          | (go_at_call 7; refine (first_any _ HG1.out).mono ?_; rintro e w3 ⟨rfl, hb⟩; have HB3 := Lib.hid hb; clear hb))
        go_ret
        exact ⟨rfl, below_call HB3.out HB1.out HB1.out.size⟩
    refine walk _ _ _ rfl rfl rfl ?_
    simp only [decide_eq_true_eq]
    cases hf : fewS l with
    | false => exact .inl rfl
    | true =>
      refine .inr ?_
      have : ¬ (1 ≤ size ∧ size ≤ 100) := fun h => hgood ⟨hf, h⟩
      omega
end Go.Proofs.YthmfifcogokpoaaDoor
