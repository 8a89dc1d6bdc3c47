/- What is proved here: contracts of the program's functions and plain lemmas that the claim's last text uses, in parts: package unpack: literal, whole; package unpack: keep; package unpack: what read computes; bounds. -/
import Derived.Test.YthmfifcogokpoaaDoorM12
set_option linter.unusedVariables false
set_option linter.unusedSimpArgs false
namespace Go.Proofs.YthmfifcogokpoaaDoor
open Go.RowKit

/-- What a block and a table need of each other. -/
structure KT (w : World) (kb tb : Nat) (l : List UInt8) (room total : Int) (fs : List FieldS) (S : Own) (tab : List FieldS) (most : Int) (St : Own) : Prop where
  k : KAt w kb tb l room total fs S
  t : TableAt w tb tab most St
  apart : Apart S St
  g : GlobOk w
  g0 : ¬ S 0 ∧ ¬ St 0

theorem KT.upd {w w' : World} {kb tb : Nat} {l l' : List UInt8} {room total total' : Int} {fs fs' : List FieldS} {S S' : Own} {tab : List FieldS} {most : Int} {St : Own} (h : KT w kb tb l room total fs S tab most St) (hk : KAt w' kb tb l' room total' fs' S') (hu : Upd S S' w w') : KT w' kb tb l' room total' fs' S' tab most St where
  k := hk
  t := h.t.loc fun k hs => hu.block k (h.t.lt k hs) (fun hS => h.apart k hS hs)
  apart := fun k hS hs => by
    rcases hu.own k hS with h1 | h1
    · exact h.apart k h1 hs
    · have := h.t.lt k hs; omega
  g := h.g.upd hu h.g0.1
  g0 := ⟨fun h1 => by
    rcases hu.own 0 h1 with h2 | h2
    · exact h.g0.1 h2
    · have := h.g.pos; omega, h.g0.2⟩
theorem KT.below {w w' : World} {kb tb : Nat} {l : List UInt8} {room total : Int} {fs : List FieldS} {S : Own} {tab : List FieldS} {most : Int} {St : Own} (h : KT w kb tb l room total fs S tab most St) (hb : Below w.heap.size w w') : KT w' kb tb l room total fs S tab most St :=
  h.upd (h.k.loc fun k hk => hb.block k (h.k.lt k hk)) (Upd.of_below hb fun _ hk => .inl hk)

theorem atS_ok (tab : List FieldS) (n : Nat) (h : ∀ f ∈ tab, f.Ok) : (atS tab n).1.Ok := by
  unfold atS
  split
  · exact statGet_ok _
  · unfold dynGet
    split
    · exact ⟨Nat.zero_le _, Nat.zero_le _⟩
    · simp only
      rw [List.getD_eq_getElem?_getD]
      cases hx : tab[tab.length - ((n : Int) - 61).toNat]? with
      | none => exact ⟨Nat.zero_le _, Nat.zero_le _⟩
      | some f => exact h f (List.mem_of_getElem? hx)

noncomputable def litR (tab : List FieldS) (n : Nat) (r : List UInt8) : Option (FieldS × List UInt8) :=
    match (if 0 < n then (if (atS tab n).2 then some ((atS tab n).1.name, (atS tab n).1.never, r) else none) else (textS r).map fun p => (p.1, false, p.2)) with
    | none => none
    | some (name, never, r2) => (textS r2).map fun p => (⟨name, p.1, never⟩, p.2)

theorem textS_len (l r : List UInt8) (s : ByteArray) (h : textS l = some (s, r)) : r.length < l.length := by
  unfold textS at h
  cases hn : numS l 7 with
  | none => rw [hn] at h; cases h
  | some p =>
    obtain ⟨n, r1⟩ := p
    have hl := (numS_len l r1 7 n hn).1
    rw [hn] at h
    simp only at h
    split at h
    · cases h
    · split at h
      · split at h
        · simp only [Option.some.injEq, Prod.mk.injEq] at h
          rw [← h.2, List.length_drop]; omega
        · cases h
      · simp only [Option.some.injEq, Prod.mk.injEq] at h
        rw [← h.2, List.length_drop]; omega

set_option maxRecDepth 100000 in
set_option maxHeartbeats 1000000 in
/-- The name; behind it the value. -/
theorem lit_mid (w W : World) (kb tb : Nat) (r : List UInt8) (room total : Int) (fs : List FieldS) (S : Own) (tab : List FieldS) (most : Int) (St : Own) (h : KT W kb tb r room total fs S tab most St) (fb : Nat) (hM : LitM w W kb tb r room total fs S fb ⟨⟨#[]⟩, ⟨#[]⟩, false⟩) (hr : r.length ≤ 1000000000) (n : Nat) (hn : n ≤ 2147483647) (u1 u2 u3 u9 u10 u11 u12 u13 u14 u15 u16 u17 u18 u19 u20 u21 u22 u23 u24 u25 u26 u27 u28 u29 u30 u31 u32 u33 u34 u35 u36 u37 u38 u39 u40 u41 u42 : Value) :
    tailW Tryd.prog 4 litBody (bodyPost Tryd.prog Tryd.f68 (LitQ (litR tab n r) kb tb room total fs S w))
      ⟨#[.pointer (some ⟨kb, 0, none⟩), u1, u2, u3, .pointer (some ⟨w.heap.size, 0, none⟩), .bool false, .int .i64 n, .bool true, .pointer (some ⟨fb, 0, none⟩), u9, u10, u11, u12, u13, u14, u15, u16, u17, u18, u19, u20, u21, u22, u23, u24, u25, u26, u27, u28, u29, u30, u31, u32, u33, u34, u35, u36, u37, u38, u39, u40, u41, u42], []⟩ W := by
  have HM := Lib.hid hM
  have H := Lib.hid h
  have HT := Lib.hid (fun W l2 name val never hM hl => lit_tail w W kb tb l2 room total fs S fb name val never hM hl)
  have HF := Lib.hid (fun W hu hres => lit_fail w W kb tb room total fs S fb hu hres)
  have q0 := hM.fld.cell 0
  have q1 := hM.fld.cell 1
  have q2 := hM.fld.cell 2
  have z0 := hM.fld.frozen 0
  have z1 := hM.fld.frozen 1
  have z2 := hM.fld.frozen 2
  have hlf := hM.fld.lt
  have hlow := hM.low
  obtain ⟨ha1, ha2⟩ := hM.apart
  simp only [List.getElem?_cons_succ, List.getElem?_cons_zero] at q0 q1 q2
  have HC := Lib.hid (at_any kb tb r room total fs S W h.k tab most St h.t h.g n hn)
  have HX := Lib.hid (text_any kb tb r room total fs S W h.k hr)
  have nf1 : ¬ fb = w.heap.size := by omega
  have nf2 : ¬ w.heap.size = fb := by omega
  unfold litR
  clear h hM
  by_cases h0 : 0 < n
  · rw [if_pos h0]
    have t1 : decide ((0 : Int) < (n : Int)) = true := decide_eq_true (by omega)
    have t2 : decide (0 < n) = true := decide_eq_true h0
    unfold FieldS.v at HC
    generalize atS tab n = p at *
    obtain ⟨f, ok⟩ := p
    simp only at HC ⊢
    clear h0
    cases ok with
    | true =>
      simp only [if_true]
      refine tail_step 4 litBody ?_
      show Code.wp _ _ _ _ _
      go_wp2_with (go_at_call 70; refine HC.out.mono ?_; rintro e w2 ⟨rfl, hb⟩; obtain ⟨hc1, hf1⟩ := bcell hb; have HB := Lib.hid hb; clear hb)
      show tailW _ _ _ _ _ _
      have HMM := HM.out
      have hul : Upd S S w w2 := HMM.upd.trans (Upd.of_below HB.out fun _ h => .inl h)
      refine HT.out _ r f.name f.value f.never ⟨?_, ?_, ?_, ?_, hlow, ha1, ha2⟩ hr _ _ _ _ _ _ _ _ _ _ _ _ _ _ _ _ _ _ _ _ _ _ _ _ _ _ _ _ _ _ _ _ _ _ _ _ _ _
      · refine HMM.k.loc fun k hk => ?_
        have h1 : k ≠ fb := fun h => ha2 (h ▸ hk)
        iterate 3 (refine (heap_set_other _ h1).trans ?_)
        exact HB.out.block k (HMM.k.lt k hk)
      · refine Upd.setCell (Upd.setCell (Upd.setCell hul (.inr ?_) _) (.inr ?_) _) (.inr ?_) _ <;> simp only <;> omega
      · exact (((HMM.res.below HB.out HMM.res.lt).far nf2 _).far nf2 _).far nf2 _
      · exact (((HMM.fld.below HB.out HMM.fld.lt).set 0 _).set 1 _).set 2 _
    | false =>
      simp only [Bool.false_eq_true, if_false]
      refine tail_step 4 litBody ?_
      show Code.wp _ _ _ _ _
      go_wp2_with (go_at_call 70; refine HC.out.mono ?_; rintro e w2 ⟨rfl, hb⟩; obtain ⟨hc1, hf1⟩ := bcell hb; have HB := Lib.hid hb; clear hb)
      show tailW _ _ _ _ _ _
      have HMM := HM.out
      have hul : Upd S S w w2 := HMM.upd.trans (Upd.of_below HB.out fun _ h => .inl h)
      refine HF.out _ ?_ ?_ _ _ _ _ _ _ _ _ _ _ _ _ _ _ _ _ _ _ _ _ _ _ _ _ _ _ _ _ _ _ _ _ _ _ _ _ _ _
      · refine Upd.setCell (Upd.setCell (Upd.setCell hul (.inr ?_) _) (.inr ?_) _) (.inr ?_) _ <;> simp only <;> omega
      · exact (((HMM.res.below HB.out HMM.res.lt).far nf2 _).far nf2 _).far nf2 _
  · rw [if_neg h0]
    have t1 : decide ((0 : Int) < (n : Int)) = false := decide_eq_false (by omega)
    have t2 : decide (0 < n) = false := decide_eq_false h0
    clear h0
    cases ht : textS r with
    | none =>
      rw [ht] at HX
      clear ht
      simp only [Option.map_none]
      refine tail_step 4 litBody ?_
      show Code.wp _ _ _ _ _
      go_wp2_with (go_at_call 73; refine HX.out.mono ?_; rintro e w2 ⟨rfl, hu⟩; have hq := HM.out.fld.upd hu ha2; have p0 := hq.cell 0; have y0 := hq.frozen 0; simp only [List.getElem?_cons_zero] at p0; have HU2 := Lib.hid hu; clear hu hq)
      show tailW _ _ _ _ _ _
      have HMM := HM.out
      refine HF.out _ ?_ ?_ _ _ _ _ _ _ _ _ _ _ _ _ _ _ _ _ _ _ _ _ _ _ _ _ _ _ _ _ _ _ _ _ _ _ _ _ _ _
      · exact (HMM.upd.trans HU2.out).setCell (.inr (by simp only; omega)) _
      · exact (HMM.res.upd HU2.out ha1).far nf2 _
    | some p =>
      obtain ⟨s, r2⟩ := p
      have hr2 := textS_len r r2 s ht
      rw [ht] at HX
      clear ht
      simp only [Option.map_some]
      refine tail_step 4 litBody ?_
      show Code.wp _ _ _ _ _
      go_wp2_with (go_at_call 73; refine HX.out.mono ?_; rintro e w2 ⟨rfl, hk, hu⟩; have hq := HM.out.fld.upd hu ha2; have p0 := hq.cell 0; have y0 := hq.frozen 0; simp only [List.getElem?_cons_zero] at p0; have HU2 := Lib.hid hu; have HK2 := Lib.hid hk; clear hu hq hk)
      show tailW _ _ _ _ _ _
      have HMM := HM.out
      refine HT.out _ r2 s ⟨#[]⟩ false ⟨?_, ?_, ?_, ?_, hlow, ha1, ha2⟩ (by omega) _ _ _ _ _ _ _ _ _ _ _ _ _ _ _ _ _ _ _ _ _ _ _ _ _ _ _ _ _ _ _ _ _ _ _ _ _ _
      · exact HK2.out.loc fun k hk => heap_set_other _ (fun h => ha2 ((show k = fb from h) ▸ hk))
      · exact (HMM.upd.trans HU2.out).setCell (.inr (by simp only; omega)) _
      · exact (HMM.res.upd HU2.out ha1).far nf2 _
      · exact (HMM.fld.upd HU2.out ha2).set 0 _

set_option maxRecDepth 100000 in
set_option maxHeartbeats 1000000 in
theorem lit_head (w W : World) (kb tb : Nat) (l : List UInt8) (room total : Int) (fs : List FieldS) (S : Own) (tab : List FieldS) (most : Int) (St : Own) (h : KT W kb tb l room total fs S tab most St) (hl : l.length ≤ 1000000000) (bits : Nat) (hb : 1 ≤ bits ∧ bits ≤ 8) (hu : Upd S S w W) (hlt : ∀ k, S k → k < w.heap.size) (hres : Blk W w.heap.size 109 [.string ⟨#[]⟩, .string ⟨#[]⟩, .bool false]) (u2 u3 u6 u7 u8 u9 u10 u11 u12 u13 u14 u15 u16 u17 u18 u19 u20 u21 u22 u23 u24 u25 u26 u27 u28 u29 u30 u31 u32 u33 u34 u35 u36 u37 u38 u39 u40 u41 u42 : Value) :
    tailW Tryd.prog 1 litBody (bodyPost Tryd.prog Tryd.f68 (LitQ (match numS l bits with | none => none | some (n, r) => litR tab n r) kb tb room total fs S w))
      ⟨#[.pointer (some ⟨kb, 0, none⟩), .int .i64 bits, u2, u3, .pointer (some ⟨w.heap.size, 0, none⟩), .bool false, u6, u7, u8, u9, u10, u11, u12, u13, u14, u15, u16, u17, u18, u19, u20, u21, u22, u23, u24, u25, u26, u27, u28, u29, u30, u31, u32, u33, u34, u35, u36, u37, u38, u39, u40, u41, u42], []⟩ W := by
  have HN := Lib.hid (number_any kb tb l room total fs S W h.k bits hb)
  have hs0 : ¬ S w.heap.size := fun h => by have := hlt _ h; omega
  have hlr := hres.lt
  have H := Lib.hid h
  have HU := Lib.hid hu
  have HR := Lib.hid hres
  have HLT := Lib.hid hlt
  clear hu hres h hlt
  cases hn : numS l bits with
  | none =>
    rw [hn] at HN
    have r0 := HR.out.cell 0
    have r1 := HR.out.cell 1
    have r2 := HR.out.cell 2
    have v0 := HR.out.frozen 0
    have v1 := HR.out.frozen 1
    have v2 := HR.out.frozen 2
    simp only [List.getElem?_cons_succ, List.getElem?_cons_zero] at r0 r1 r2 ⊢
    clear hn
    show Code.wp _ _ _ _ _
    go_wp2_with (go_at_call 69; refine HN.out.mono ?_; rintro e w1 ⟨rfl, rfl⟩)
    exact bodyPost_ret (v := .tuple #[noField.v, .bool false]) (by (simp [results, Tryd.results68, go_sem, r0, r1, r2, noField, FieldS.v]; try rfl)) rfl ⟨⟨_, rfl⟩, by
      refine Upd.setCell (Upd.setCell (Upd.setCell HU.out (.inr ?_) _) (.inr ?_) _) (.inr ?_) _ <;> simp only <;> omega⟩
  | some p =>
    obtain ⟨n, r⟩ := p
    obtain ⟨hrl, hnb⟩ := numS_len l r bits n hn
    rw [hn] at HN
    clear hn
    simp only
    have HT := Lib.hid (fun W h fb hM => lit_mid w W kb tb r room total fs S tab most St h fb hM (by omega) n hnb)
    generalize litR tab n r = res at *
    refine tail_step 1 litBody ?_
    show Code.wp _ _ _ _ _
    go_wp2_with (go_at_call 69; refine HN.out.mono ?_; rintro e w1 ⟨rfl, hk1, hu1⟩; have HK1 := Lib.hid hk1; have HU1 := Lib.hid hu1; clear hk1 hu1)
    show tailW _ _ _ _ _ _
    refine tail_step 2 litBody ?_
    show Code.wp _ _ _ _ _
    go_wp2
    show tailW _ _ _ _ _ _
    refine tail_step 3 litBody ?_
    show Code.wp _ _ _ _ _
    go_wp2
    show tailW _ _ _ _ _ _
    have hS1 := HU1.out.size
    have hk2 : KAt (w1.alloc (.cells #[.string ⟨#[]⟩, .string ⟨#[]⟩, .bool false] 109)) kb tb r room total fs S := HK1.out.loc fun k hk => Below.heap_alloc w1 _ k (HK1.out.lt k hk)
    have hu2 : Upd S S w (w1.alloc (.cells #[.string ⟨#[]⟩, .string ⟨#[]⟩, .bool false] 109)) := (HU.out.trans HU1.out).alloc _
    refine HT.out _ ?_ w1.heap.size ⟨hk2, hu2, (HR.out.upd HU1.out hs0).alloc _, Blk.new w1 _ [.string ⟨#[]⟩, .string ⟨#[]⟩, .bool false], by omega, hs0, fun h => by have := HLT.out _ h; omega⟩ _ _ _ _ _ _ _ _ _ _ _ _ _ _ _ _ _ _ _ _ _ _ _ _ _ _ _ _ _ _ _ _ _ _ _ _ _
    exact H.out.upd hk2 (HU1.out.alloc _)

theorem literal_any (kb tb : Nat) (l : List UInt8) (room total : Int) (fs : List FieldS) (S : Own) (w : World) (tab : List FieldS) (most : Int) (St : Own) (h : KT w kb tb l room total fs S tab most St) (hl : l.length ≤ 1000000000) (bits : Nat) (hb : 1 ≤ bits ∧ bits ≤ 8) :
    Calls Tryd.prog 68 #[.pointer (some ⟨kb, 0, none⟩), .int .i64 bits] w (LitQ (match numS l bits with | none => none | some (n, r) => litR tab n r) kb tb room total fs S w) := by
  have HT := Lib.hid (fun W h hu hres => lit_head w W kb tb l room total fs S tab most St h hl bits hb hu hres)
  have HLT := Lib.hid h.k.lt
  have H := Lib.hid h
  clear h
  generalize (match numS l bits with | none => none | some (n, r) => litR tab n r) = res at *
  go_enter Tryd.func68, Tryd.ntmps68
  refine wp_cut_as litBody (by kernel_rfl) 1 ?_
  show Code.wp _ _ _ _ _
  go_wp2
  show tailW _ _ _ _ _ _
  exact HT.out _ (H.out.below ((Below.refl _ _).alloc (Nat.le_refl _) _)) ((Upd.refl S w).alloc _) HLT.out (Blk.new w _ [.string ⟨#[]⟩, .string ⟨#[]⟩, .bool false]) _ _ _ _ _ _ _ _ _ _ _ _ _ _ _ _ _ _ _ _ _ _ _ _ _ _ _ _ _ _ _ _ _ _ _ _ _ _ _
end Go.Proofs.YthmfifcogokpoaaDoor
namespace Go.Proofs.YthmfifcogokpoaaDoor
open Go.RowKit

noncomputable def litS (l : List UInt8) (tab : List FieldS) (bits : Nat) : Option (FieldS × List UInt8) := match numS l bits with | none => none | some (n, r) => litR tab n r

noncomputable def keepBody : Code := Tryd.f72.body.getD .skip
def keepL (room total : Int) (fs : List FieldS) (f : FieldS) : List FieldS := if total ≤ room then fs ++ [f] else fs
def KeepQ (kb tb : Nat) (l : List UInt8) (room total : Int) (fs : List FieldS) (S : Own) (w : World) (e : Ending) (w' : World) : Prop := e = .returned (.tuple #[]) ∧ ∃ S', KAt w' kb tb l room total fs S' ∧ Upd S S' w w'

set_option maxRecDepth 100000 in
set_option maxHeartbeats 1000000 in
theorem keep_t2 (w W : World) (kb tb : Nat) (l : List UInt8) (room total : Int) (fs : List FieldS) (S : Own) (f : FieldS) (nb : Nat) (h : KAt W kb tb l room total fs S) (hu : Upd S S w W) (hx : Blk W nb 109 [.string f.name, .string f.value, .bool f.never]) (hnb : ¬ S nb) (hfl : fs.length ≤ 1000000000) (u1 u2 u4 u5 u6 u7 u8 u9 u10 u11 u12 u13 u14 u15 u16 u17 u18 u19 u20 u21 u22 u23 u24 u25 u26 u27 u28 u29 u30 u31 : Value) :
    tailW Tryd.prog 2 keepBody (bodyPost Tryd.prog Tryd.f72 (KeepQ kb tb l room total (keepL room total fs f) S w))
      ⟨#[.pointer (some ⟨kb, 0, none⟩), u1, u2, .pointer (some ⟨nb, 0, none⟩), u4, u5, u6, u7, u8, u9, u10, u11, u12, u13, u14, u15, u16, u17, u18, u19, u20, u21, u22, u23, u24, u25, u26, u27, u28, u29, u30, u31], []⟩ W := by
  have H := Lib.hid h
  have HU := Lib.hid hu
  have hkb := h.base
  obtain ⟨A, c, A2, c2, S1, S2, h1, h2, h3, h4, h5, h6, h7⟩ := h
  have e2 := h1.cell 2
  have e3 := h1.cell 3
  have e4 := h1.cell 4
  have f4 := h1.frozen 4
  simp only [List.getElem?_cons_succ, List.getElem?_cons_zero] at e2 e3 e4
  have hlt := h1.lt
  have hltx := hx.lt
  have x0 := hx.cell 0
  have x1 := hx.cell 1
  have x2 := hx.cell 2
  simp only [List.getElem?_cons_succ, List.getElem?_cons_zero] at x0 x1 x2
  have hnkb : nb ≠ kb := fun h => hnb (h ▸ hkb)
  have hn2 : ¬ S2 nb := fun h => hnb ((h7 nb).2 (.inr (.inr h)))
  have HK5 := Lib.hid h5
  have H1 := Lib.hid h1
  have H2 := Lib.hid h2
  have H3 := Lib.hid h3
  have H4 := Lib.hid h4
  have H6 := Lib.hid h6
  have H7 := Lib.hid h7
  unfold keepL
  by_cases ht : total ≤ room
  · rw [if_pos ht]
    have HKS := Lib.hid (show ∀ (W' : World) (S' : Own), Upd S2 S' W W' → W'.cell? ⟨kb, 4, none⟩ = some (.slice A2 fs.length c2) ∧ W'.frozen? ⟨kb, 4, none⟩ = false ∧ W'.cell? ⟨nb, 0, none⟩ = some (.string f.name) ∧ W'.cell? ⟨nb, 1, none⟩ = some (.string f.value) ∧ W'.cell? ⟨nb, 2, none⟩ = some (.bool f.never) from
      fun W' S' hu => ⟨(hu.cell (a := ⟨kb, 4, none⟩) hlt h5).trans e4, (hu.frozen (a := ⟨kb, 4, none⟩) hlt h5).trans f4, (hu.cell (a := ⟨nb, 0, none⟩) hltx hn2).trans x0, (hu.cell (a := ⟨nb, 1, none⟩) hltx hn2).trans x1, (hu.cell (a := ⟨nb, 2, none⟩) hltx hn2).trans x2⟩)
    have HROWQ := Lib.hid (show ∀ q : Nat, Row 109 3 A2 fs.length c2 (fieldCells fs) S2 ((W.drewN q).alloc (.cells #[.string f.name, .string f.value, .bool f.never] 109)) from fun q => h3.loc fun j hj => Below.heap_alloc (W.drewN q) _ j (h3.lt j hj))
    have HSRCQ := Lib.hid (show ∀ q : Nat, Src Tryd.prog ((W.drewN q).alloc (.cells #[.string f.name, .string f.value, .bool f.never] 109)) 3 (.slice (some ⟨W.heap.size, 0, none⟩) 1 1) 1 [.string f.name, .string f.value, .bool f.never] from fun q => Src.of_rd (Row.made (e := 109) (cs := [.string f.name, .string f.value, .bool f.never]) (Blk.push (by simp)) (Nat.le_refl _) (by simp [maxLen]) (by simp) rfl).rd (by simp [Value.oneCell']))
    have h63 : fs.length + 1 ≤ maxLen := by simp only [maxLen]; omega
    have hbb : (fs.length + 1) * 40 ≤ big := by simp only [big]; omega
    have hfs : ∀ k v, (W.drewN k).cell? v = W.cell? v := fun _ _ => rfl
    clear h1 h2 h3 h4 h5 h6 h7 hu hx hnb hfl hfs
    show Code.wp _ _ _ _ _
    go_wp2
    go_quiet (fail)
    go_wp2
    refine wp_region_S (fun w' => w'.cell? ⟨kb, 4, none⟩ = some (.slice A2 fs.length c2) ∧ w'.frozen? ⟨kb, 4, none⟩ = false ∧ w'.cell? ⟨nb, 0, none⟩ = some (.string f.name) ∧ w'.cell? ⟨nb, 1, none⟩ = some (.string f.value) ∧ w'.cell? ⟨nb, 2, none⟩ = some (.bool f.never)) 10 (by kernel_rfl) (⟨e4, f4, x0, x1, x2⟩) (fun hHeld => ?_)
    refine AnyS_plain (i := 0) (v := ?_) rfl (by kernel_rfl) (by kernel_rfl) (by kernel_rfl) (by kernel_rfl) (fun _ _ _ h => h) (Or.inl ⟨by rfl, ?_⟩) hHeld ?_
    rotate_left
    · intro w' hSw
      (try dsimp only at hSw)
      go_simp
      try with_reducible rfl
    try simp only [Act.put, List.setIfInBounds_toArray, List.set_cons_zero, List.set_cons_succ]
    refine AnyS_plain (i := 1) (v := ?_) rfl (by kernel_rfl) (by kernel_rfl) (by kernel_rfl) (by kernel_rfl) (fun _ _ _ h => h) (Or.inl ⟨by rfl, ?_⟩) hHeld ?_
    rotate_left
    · intro w' hSw
      (try dsimp only at hSw)
      go_simp
      try with_reducible rfl
    try simp only [Act.put, List.setIfInBounds_toArray, List.set_cons_zero, List.set_cons_succ]
    refine AnyS_plain (i := 2) (v := ?_) rfl (by kernel_rfl) (by kernel_rfl) (by kernel_rfl) (by kernel_rfl) (fun _ _ _ h => h) (Or.inl ⟨by rfl, ?_⟩) hHeld ?_
    rotate_left
    · intro w' hSw
      (try dsimp only at hSw)
      go_simp
      try with_reducible rfl
    try simp only [Act.put, List.setIfInBounds_toArray, List.set_cons_zero, List.set_cons_succ]
    refine AnyS_plain (i := 3) (v := ?_) rfl (by kernel_rfl) (by kernel_rfl) (by kernel_rfl) (by kernel_rfl) (fun _ _ _ h => h) (Or.inl ⟨by rfl, ?_⟩) hHeld ?_
    rotate_left
    · intro w' hSw
      (try dsimp only at hSw)
      go_simp
      try with_reducible rfl
    try simp only [Act.put, List.setIfInBounds_toArray, List.set_cons_zero, List.set_cons_succ]
    refine AnyS_take (i := 4) (v := ?_) rfl (by kernel_rfl) (by kernel_rfl) (by kernel_rfl) (by kernel_rfl) (by kernel_rfl) (fun _ _ _ h => h) (Or.inl ⟨by rfl, ?_⟩) hHeld ?_
    rotate_left
    · intro w' hSw
      (try dsimp only at hSw)
      go_simp
      try with_reducible rfl
    try simp only [Act.put, List.setIfInBounds_toArray, List.set_cons_zero, List.set_cons_succ]
    refine AnyS_take (i := 5) (v := ?_) rfl (by kernel_rfl) (by kernel_rfl) (by kernel_rfl) (by kernel_rfl) (by kernel_rfl) (fun _ _ _ h => h) (Or.inl ⟨by rfl, ?_⟩) hHeld ?_
    rotate_left
    · intro w' hSw
      (try dsimp only at hSw)
      go_simp
      try with_reducible rfl
    try simp only [Act.put, List.setIfInBounds_toArray, List.set_cons_zero, List.set_cons_succ]
    refine AnyS_step (i := 6) rfl (by kernel_rfl) rfl (fun K hK => ?_)
    go_simp
    refine hK.out _ _ (HKS.out _ S2 ((((Upd.refl _ _).drewN _).drew).alloc _)) (fun hHeld => ?_)
    clear hK K
    try simp only [Act.put, List.setIfInBounds_toArray, List.set_cons_zero, List.set_cons_succ]
    refine AnyS_step (i := 7) rfl (by kernel_rfl) rfl (fun K hK => ?_)
    refine wp_append _ _ _ _ (by rfl) 109 3 40 tyFields tyFields.src A2 fs.length c2 (fieldCells fs) S2 (.slice (some ⟨W.heap.size, 0, none⟩) 1 1) 1 [.string f.name, .string f.value, .bool f.never] (by rfl) (by rfl) (HROWQ.out _) (HSRCQ.out _) h63 hbb ?_
    intro A5 c5 w5 S5 hr5 hu5 ha5
    refine hK.out _ _ (HKS.out _ S5 ((((Upd.refl _ _).drewN _).alloc _).trans hu5)) (fun hHeld => ?_)
    clear hK K
    try simp only [Act.put, List.setIfInBounds_toArray, List.set_cons_zero, List.set_cons_succ]
    refine AnyS_plain (i := 8) (v := ?_) rfl (by kernel_rfl) (by kernel_rfl) (by kernel_rfl) (by kernel_rfl) (fun _ _ _ h => h) (Or.inl ⟨by rfl, ?_⟩) hHeld ?_
    rotate_left
    · intro w' hSw
      (try dsimp only at hSw)
      go_simp
      try with_reducible rfl
    try simp only [Act.put, List.setIfInBounds_toArray, List.set_cons_zero, List.set_cons_succ]
    refine AnyS_plain (i := 9) (v := ?_) rfl (by kernel_rfl) (by kernel_rfl) (by kernel_rfl) (by kernel_rfl) (fun _ _ _ h => h) (Or.inl ⟨by rfl, ?_⟩) hHeld ?_
    rotate_left
    · intro w' hSw
      (try dsimp only at hSw)
      go_simp
      try with_reducible rfl
    try simp only [Act.put, List.setIfInBounds_toArray, List.set_cons_zero, List.set_cons_succ]
    refine AnyS_stepT (i := 10) rfl (by kernel_rfl) (by kernel_rfl) rfl (fun K hK => ?_)
    obtain ⟨q4, qf4, -, -, -⟩ := hHeld
    go_simp
    refine hK.out _ _ ?_
    clear hK K
    refine AnyS_done (by kernel_rfl) (NoPanic.normal ?_) _
    try simp only [Act.put, List.setIfInBounds_toArray, List.set_cons_zero, List.set_cons_succ]
    go_wp2
    go_end0
    have h5b : ∀ j, S5 j → j ≠ kb := fun j hj => by
      rintro rfl
      rcases hu5.own _ hj with h | h
      · exact HK5.out h
      · simp at h; omega
    refine ⟨rfl, fun k => k = kb ∨ S1 k ∨ S5 k, ⟨A, c, A5, c5, S1, S5, ?_, ?_, ?_, H4.out, fun h => h5b kb h rfl, ?_, fun k => Iff.rfl⟩, ?_⟩
    · rw [List.length_append]
      exact (((H1.out.drewN _).alloc _).upd hu5 HK5.out).set 4 _
    · refine H2.out.loc fun k hk => ?_
      have h1 : k ≠ kb := fun h => H4.out (h ▸ hk)
      have h2 := H2.out.lt k hk
      exact (heap_set_other _ h1).trans ((hu5.block k (by simp; omega) (H6.out k hk)).trans (Below.heap_alloc (W.drewN _) _ k h2))
    · rw [fieldCells_append, List.length_append]
      exact hr5.loc fun j hj => heap_set_other _ (h5b j hj)
    · intro k hk h5
      rcases hu5.own k h5 with h | h
      · exact H6.out k hk h
      · have := H2.out.lt k hk
        simp at h; omega
    · refine Upd.setCell (p := ⟨kb, 4, none⟩) ?_ (.inl hkb) _
      refine ((HU.out.drewN _).alloc _).trans ((hu5.wider (R := S) (fun k h => (H7.out k).2 (.inr (.inr h)))).holds ?_)
      rintro k (rfl | hk | hk)
      · exact .inl hkb
      · exact .inl ((H7.out k).2 (.inr (.inl hk)))
      · rcases hu5.own k hk with h | h
        · exact .inl ((H7.out k).2 (.inr (.inr h)))
        · exact .inr h
  · rw [if_neg ht]
    clear h1 h2 h3 h4 h5 h6 h7 hu hx hnb hfl
    show Code.wp _ _ _ _ _
    go_wp2
    go_quiet (fail)
    go_wp2
    go_end0
    exact ⟨rfl, S, H.out.loc (fun _ _ => rfl), HU.out.drewN _⟩

set_option maxRecDepth 100000 in
set_option maxHeartbeats 1000000 in
theorem keep_t1 (w W : World) (kb tb : Nat) (l : List UInt8) (room total : Int) (fs : List FieldS) (S : Own) (f : FieldS) (hf : f.Ok) (nb : Nat) (h : KAt W kb tb l room total fs S) (hu : Upd S S w W) (hx : Blk W nb 109 [.string f.name, .string f.value, .bool f.never]) (hnb : ¬ S nb) (hfl : fs.length ≤ 1000000000) (htt : 0 ≤ total ∧ total ≤ 1000000000000000000) (u1 u2 u4 u5 u6 u7 u8 u9 u10 u11 u12 u13 u14 u15 u16 u17 u18 u19 u20 u21 u22 u23 u24 u25 u26 u27 u28 u29 u30 u31 : Value) :
    tailW Tryd.prog 1 keepBody (bodyPost Tryd.prog Tryd.f72 (KeepQ kb tb l room (total + sizeF f) (keepL room (total + sizeF f) fs f) S w))
      ⟨#[.pointer (some ⟨kb, 0, none⟩), u1, u2, .pointer (some ⟨nb, 0, none⟩), u4, u5, u6, u7, u8, u9, u10, u11, u12, u13, u14, u15, u16, u17, u18, u19, u20, u21, u22, u23, u24, u25, u26, u27, u28, u29, u30, u31], []⟩ W := by
  have H := Lib.hid h
  have HU := Lib.hid hu
  have HX := Lib.hid hx
  have HT := Lib.hid (fun W h hu hx => keep_t2 w W kb tb l room (total + sizeF f) fs S f nb h hu hx hnb hfl)
  have HSZ := Lib.hid (fun w => statSize_any f hf w)
  have hz1 : sizeF f ≤ 2000000032 := by have := hf.name; have := hf.value; unfold sizeF; omega
  have hkb := h.base
  obtain ⟨A, c, A2, c2, S1, S2, h1, h2, h3, h4, h5, h6, h7⟩ := h
  have e3 := h1.cell 3
  have f3 := h1.frozen 3
  simp only [List.getElem?_cons_succ, List.getElem?_cons_zero] at e3
  have hlt := h1.lt
  have hltx := hx.lt
  have x0 := hx.cell 0
  have x1 := hx.cell 1
  have x2 := hx.cell 2
  simp only [List.getElem?_cons_succ, List.getElem?_cons_zero] at x0 x1 x2
  have hnkb : nb ≠ kb := fun h => hnb (h ▸ hkb)
  obtain ⟨t1, t2⟩ := htt
  have wadd : IntKind.i64.wrap (total + (sizeF f : Int)) = total + (sizeF f : Int) := IntWalk.i64_in _ (by omega)
  have H1 := Lib.hid h1
  have H2 := Lib.hid h2
  have H3 := Lib.hid h3
  have H4 := Lib.hid h4
  have H5 := Lib.hid h5
  have H6 := Lib.hid h6
  have H7 := Lib.hid h7
  unfold FieldS.v at HSZ
  generalize keepL room (total + sizeF f) fs f = fs2 at *
  clear h1 h2 h3 h4 h5 h6 h7 hu hx hnb hfl hf
  refine tail_step 1 keepBody ?_
  show Code.wp _ _ _ _ _
  refine wp_region_S (fun w' => w'.cell? ⟨kb, 3, none⟩ = some (.int .i64 total) ∧ w'.frozen? ⟨kb, 3, none⟩ = false ∧ w'.cell? ⟨nb, 0, none⟩ = some (.string f.name) ∧ w'.cell? ⟨nb, 1, none⟩ = some (.string f.value) ∧ w'.cell? ⟨nb, 2, none⟩ = some (.bool f.never)) 9 (by kernel_rfl) (⟨e3, f3, x0, x1, x2⟩) (fun hHeld => ?_)
  refine AnyS_plain (i := 0) (v := ?_) rfl (by kernel_rfl) (by kernel_rfl) (by kernel_rfl) (by kernel_rfl) (fun _ _ _ h => h) (Or.inl ⟨by rfl, ?_⟩) hHeld ?_
  rotate_left
  · intro w' hSw
    (try dsimp only at hSw)
    go_simp
    try with_reducible rfl
  try simp only [Act.put, List.setIfInBounds_toArray, List.set_cons_zero, List.set_cons_succ]
  refine AnyS_plain (i := 1) (v := ?_) rfl (by kernel_rfl) (by kernel_rfl) (by kernel_rfl) (by kernel_rfl) (fun _ _ _ h => h) (Or.inl ⟨by rfl, ?_⟩) hHeld ?_
  rotate_left
  · intro w' hSw
    (try dsimp only at hSw)
    go_simp
    try with_reducible rfl
  try simp only [Act.put, List.setIfInBounds_toArray, List.set_cons_zero, List.set_cons_succ]
  refine AnyS_plain (i := 2) (v := ?_) rfl (by kernel_rfl) (by kernel_rfl) (by kernel_rfl) (by kernel_rfl) (fun _ _ _ h => h) (Or.inl ⟨by rfl, ?_⟩) hHeld ?_
  rotate_left
  · intro w' hSw
    (try dsimp only at hSw)
    go_simp
    try with_reducible rfl
  try simp only [Act.put, List.setIfInBounds_toArray, List.set_cons_zero, List.set_cons_succ]
  refine AnyS_take (i := 3) (v := ?_) rfl (by kernel_rfl) (by kernel_rfl) (by kernel_rfl) (by kernel_rfl) (by kernel_rfl) (fun _ _ _ h => h) (Or.inl ⟨by rfl, ?_⟩) hHeld ?_
  rotate_left
  · intro w' hSw
    (try dsimp only at hSw)
    go_simp
    try with_reducible rfl
  try simp only [Act.put, List.setIfInBounds_toArray, List.set_cons_zero, List.set_cons_succ]
  refine AnyS_take (i := 4) (v := ?_) rfl (by kernel_rfl) (by kernel_rfl) (by kernel_rfl) (by kernel_rfl) (by kernel_rfl) (fun _ _ _ h => h) (Or.inl ⟨by rfl, ?_⟩) hHeld ?_
  rotate_left
  · intro w' hSw
    (try dsimp only at hSw)
    go_simp
    try with_reducible rfl
  try simp only [Act.put, List.setIfInBounds_toArray, List.set_cons_zero, List.set_cons_succ]
  refine AnyS_step (i := 5) rfl (by kernel_rfl) rfl (fun K hK => ?_)
  go_simp
  refine (HSZ.out _).mono ?_
  rintro e w2 ⟨rfl, hb⟩
  obtain ⟨hc1, hf1⟩ := bcell hb
  refine hK.out _ _ (⟨(hc1 kb 3 hlt).trans e3, (hf1 kb 3 hlt).trans f3, (hc1 nb _ hltx).trans x0, (hc1 nb _ hltx).trans x1, (hc1 nb _ hltx).trans x2⟩) (fun hHeld => ?_)
  clear hK K
  try simp only [Act.put, List.setIfInBounds_toArray, List.set_cons_zero, List.set_cons_succ]
  refine AnyS_plain (i := 6) (v := ?_) rfl (by kernel_rfl) (by kernel_rfl) (by kernel_rfl) (by kernel_rfl) (fun _ _ _ h => h) (Or.inl ⟨by rfl, ?_⟩) hHeld ?_
  rotate_left
  · intro w' hSw
    (try dsimp only at hSw)
    go_simp
    try with_reducible rfl
  try simp only [Act.put, List.setIfInBounds_toArray, List.set_cons_zero, List.set_cons_succ]
  refine AnyS_plain (i := 7) (v := ?_) rfl (by kernel_rfl) (by kernel_rfl) (by kernel_rfl) (by kernel_rfl) (fun _ _ _ h => h) (Or.inl ⟨by rfl, ?_⟩) hHeld ?_
  rotate_left
  · intro w' hSw
    (try dsimp only at hSw)
    go_simp
    try with_reducible rfl
  try simp only [Act.put, List.setIfInBounds_toArray, List.set_cons_zero, List.set_cons_succ]
  refine AnyS_plain (i := 8) (v := ?_) rfl (by kernel_rfl) (by kernel_rfl) (by kernel_rfl) (by kernel_rfl) (fun _ _ _ h => h) (Or.inl ⟨by rfl, ?_⟩) hHeld ?_
  rotate_left
  · intro w' hSw
    (try dsimp only at hSw)
    go_simp
    try with_reducible rfl
  try simp only [Act.put, List.setIfInBounds_toArray, List.set_cons_zero, List.set_cons_succ]
  refine AnyS_stepT (i := 9) rfl (by kernel_rfl) (by kernel_rfl) rfl (fun K hK => ?_)
  obtain ⟨q3, qf3, -, -, -⟩ := hHeld
  go_simp
  refine hK.out _ _ ?_
  clear hK K
  refine AnyS_done (by kernel_rfl) (NoPanic.normal ?_) _
  try simp only [Act.put, List.setIfInBounds_toArray, List.set_cons_zero, List.set_cons_succ]
  show tailW _ _ _ _ _ _
  refine HT.out _ ⟨A, c, A2, c2, S1, S2, (H1.out.drew.below hb hlt).set 3 _, ?_, ?_, H4.out, H5.out, H6.out, H7.out⟩ ?_ ((HX.out.drew.below hb hltx).far hnkb _) _ _ _ _ _ _ _ _ _ _ _ _ _ _ _ _ _ _ _ _ _ _ _ _ _ _ _ _ _ _
  · refine H2.out.loc fun k hk => ?_
    have hne : k ≠ kb := fun h => H4.out (h ▸ hk)
    exact (heap_set_other (a := ⟨kb, 3, none⟩) _ hne).trans (hb.block k (H2.out.lt k hk))
  · refine H3.out.loc fun k hk => ?_
    have hne : k ≠ kb := fun h => H5.out (h ▸ hk)
    exact (heap_set_other (a := ⟨kb, 3, none⟩) _ hne).trans (hb.block k (H3.out.lt k hk))
  · exact (HU.out.drew.trans (Upd.of_below hb fun _ h => .inl h)).setCell (p := ⟨kb, 3, none⟩) (.inl hkb) _

theorem keep_any (kb tb : Nat) (l : List UInt8) (room total : Int) (fs : List FieldS) (S : Own) (w : World) (h : KAt w kb tb l room total fs S) (f : FieldS) (hf : f.Ok) (hfl : fs.length ≤ 1000000000) (htt : 0 ≤ total ∧ total ≤ 1000000000000000000) :
    Calls Tryd.prog 72 #[.pointer (some ⟨kb, 0, none⟩), f.v] w (KeepQ kb tb l room (total + sizeF f) (keepL room (total + sizeF f) fs f) S w) := by
  have HT := Lib.hid (fun W nb h hu hx hnb => keep_t1 w W kb tb l room total fs S f hf nb h hu hx hnb hfl htt)
  have H := Lib.hid h
  have HLT := Lib.hid h.lt
  clear h
  unfold FieldS.v
  generalize keepL room (total + sizeF f) fs f = fs2 at *
  go_enter Tryd.func72, Tryd.ntmps72
  refine wp_cut_as keepBody (by kernel_rfl) 1 ?_
  show Code.wp _ _ _ _ _
  go_wp2
  show tailW _ _ _ _ _ _
  exact HT.out _ w.heap.size (H.out.loc fun k hk => Below.heap_alloc w _ k (HLT.out k hk)) ((Upd.refl S w).alloc _) (Blk.new w _ [.string f.name, .string f.value, .bool f.never]) (fun h => by have := HLT.out _ h; omega) _ _ _ _ _ _ _ _ _ _ _ _ _ _ _ _ _ _ _ _ _ _ _ _ _ _ _ _ _ _
end Go.Proofs.YthmfifcogokpoaaDoor
namespace Go.Proofs.YthmfifcogokpoaaDoor
open Go.RowKit

theorem decLoop_len : ∀ (fuel : Nat) (l : List UInt8) (most k code n : Nat) (out : List UInt8), out.length ≤ most → (decLoop fuel l most k code n out).1.length ≤ most
  | 0, _, _, _, _, _, _, _ => by simp [decLoop]
  | fuel + 1, l, most, k, code, n, out, h => by
    simp only [decLoop]
    split
    · split
      · simp
      · exact h
    · split
      · exact decLoop_len fuel l most _ _ _ out h
      · split
        · simp
        · split
          · simp
          · exact decLoop_len fuel l most _ _ _ _ (by rw [List.length_append]; simp; omega)
theorem hdec_len (l : List UInt8) (most : Nat) : (hdec l most).1.length ≤ most := decLoop_len _ _ _ _ _ _ _ (Nat.zero_le _)
theorem textS_size (l r : List UInt8) (s : ByteArray) (h : textS l = some (s, r)) : s.size ≤ 16384 := by
  unfold textS at h
  cases hn : numS l 7 with
  | none => rw [hn] at h; cases h
  | some p =>
    obtain ⟨n, r1⟩ := p
    rw [hn] at h
    simp only at h
    split at h
    · cases h
    · rename_i hb
      split at h
      · split at h
        · simp only [Option.some.injEq, Prod.mk.injEq] at h
          rw [← h.1]
          show (hdec (r1.take n) 16384).1.toArray.size ≤ _
          rw [List.size_toArray]
          exact hdec_len _ _
        · cases h
      · simp only [Option.some.injEq, Prod.mk.injEq] at h
        rw [← h.1]
        show (r1.take n).toArray.size ≤ _
        rw [List.size_toArray, List.length_take]
        omega
theorem litS_facts (l r : List UInt8) (tab : List FieldS) (bits : Nat) (f : FieldS) (ht : ∀ f ∈ tab, f.Ok) (h : litS l tab bits = some (f, r)) : r.length < l.length ∧ f.Ok := by
  unfold litS at h
  cases hn : numS l bits with
  | none => rw [hn] at h; cases h
  | some p =>
    obtain ⟨n, r1⟩ := p
    have hl := (numS_len l r1 bits n hn).1
    rw [hn] at h
    simp only [litR] at h
    split at h
    · cases h
    · rename_i name never r2 hm
      cases ht2 : textS r2 with
      | none => rw [ht2] at h; cases h
      | some p2 =>
        obtain ⟨s, r3⟩ := p2
        rw [ht2] at h
        simp only [Option.map_some, Option.some.injEq, Prod.mk.injEq] at h
        have h3 := textS_len r2 r3 s ht2
        have h4 := textS_size r2 r3 s ht2
        have hv : s.size ≤ 1000000000 := by omega
        by_cases h0 : 0 < n
        · rw [if_pos h0] at hm
          split at hm
          · simp only [Option.some.injEq, Prod.mk.injEq] at hm
            rw [← h.1, ← h.2]
            exact ⟨by rw [← hm.2.2] at h3; omega, ⟨by rw [← hm.1]; exact (atS_ok tab n ht).name, hv⟩⟩
          · cases hm
        · rw [if_neg h0] at hm
          cases ht3 : textS r1 with
          | none => rw [ht3] at hm; cases hm
          | some p3 =>
            obtain ⟨s3, r4⟩ := p3
            rw [ht3] at hm
            simp only [Option.map_some, Option.some.injEq, Prod.mk.injEq] at hm
            have h5 := textS_len r1 r4 s3 ht3
            have h6 := textS_size r1 r4 s3 ht3
            rw [← h.1, ← h.2]
            exact ⟨by rw [← hm.2.2] at h3; omega, ⟨by rw [← hm.1]; simp only; omega, hv⟩⟩

/-- A table in order. -/
structure TabOk (tab : List FieldS) (most : Int) : Prop where
  total : (totalF tab : Int) ≤ most
  most : 0 ≤ most ∧ most ≤ 4096
  ok : ∀ f ∈ tab, f.Ok
theorem shrinkL_room (room : Int) (l : List FieldS) (h : 0 ≤ room) : (totalF (shrinkL room l) : Int) ≤ room := by
  induction l with
  | nil => simp [shrinkL, totalF]; omega
  | cons f r ih =>
    simp only [shrinkL]
    split
    · exact ih
    · omega
theorem TabOk.add {tab : List FieldS} {most : Int} (h : TabOk tab most) {f : FieldS} (hf : f.Ok) : TabOk (addL most tab f) most := by
  unfold addL
  split
  · rename_i hle
    refine ⟨?_, h.most, fun g hg => ?_⟩
    · rw [totalF_append]
      have h1 := shrinkL_room (most - sizeF f) tab (by omega)
      have h2 : totalF [(⟨f.name, f.value, false⟩ : FieldS)] = sizeF f := by simp [totalF, sizeF]
      rw [h2]
      omega
    · rcases List.mem_append.1 hg with h1 | h1
      · exact h.ok g (shrinkL_mem _ _ g h1)
      · rw [List.mem_singleton] at h1
        rw [h1]
        exact ⟨hf.name, hf.value⟩
  · refine ⟨?_, h.most, fun g hg => h.ok g (shrinkL_mem _ _ g hg)⟩
    have h1 := shrinkL_total (most - sizeF f) tab
    have h2 := h.total
    omega
theorem TabOk.limit {tab : List FieldS} {most : Int} (h : TabOk tab most) {n : Int} (hn : 0 ≤ n ∧ n ≤ 4096) : TabOk (shrinkL n tab) n :=
  ⟨shrinkL_room n tab hn.1, hn, fun g hg => h.ok g (shrinkL_mem _ _ g hg)⟩

/-- Where a block's reading stands. -/
structure RdS where
  l : List UInt8
  tab : List FieldS
  most : Int
  total : Nat
  fs : List FieldS
  told : Nat
  any : Bool
def fieldStep (room : Int) (s : RdS) (f : FieldS) : RdS := { s with total := s.total + sizeF f, fs := keepL room ((s.total : Int) + sizeF f) s.fs f, any := true }
noncomputable def oneS (room : Int) (s : RdS) (first : Nat) : Option RdS :=
  if 128 ≤ first then
    match numS s.l 7 with
    | none => none
    | some (n, r) => if (atS s.tab n).2 then some (fieldStep room { s with l := r } (atS s.tab n).1) else none
  else if 64 ≤ first then
    match litS s.l s.tab 6 with
    | none => none
    | some (f, r) => some (fieldStep room { s with l := r, tab := addL s.most s.tab f } f)
  else if 32 ≤ first then
    match numS s.l 5 with
    | none => none
    | some (n, r) => if s.any = true ∨ 2 < s.told + 1 ∨ 4096 < n then none else some { s with l := r, told := s.told + 1, tab := shrinkL n s.tab, most := n }
  else
    match litS s.l s.tab 4 with
    | none => none
    | some (f, r) => some (fieldStep room { s with l := r } ⟨f.name, f.value, decide (16 ≤ first)⟩)
noncomputable def readB (room : Int) : Nat → RdS → Option RdS
  | 0, _ => none
  | fuel + 1, s =>
    if s.l.length = 0 then some s
    else match oneS room s (s.l.getD 0 0).toNat with
      | none => none
      | some s' => readB room fuel s'

/-- Another part's ownership. -/
theorem Upd.left {O S S' T : Own} {a b c : World} (h : Upd O (or_ S T) a b) (k : Upd S S' b c) : Upd O (or_ S' T) a c :=
  h.trans ((k.wider (R := or_ S T) (fun _ => .inl)).holds fun x hx => by
    rcases hx with hx | hx
    · exact (k.own x hx).imp .inl id
    · exact .inl (.inr hx))
theorem Upd.right {O S T T' : Own} {a b c : World} (h : Upd O (or_ S T) a b) (k : Upd T T' b c) : Upd O (or_ S T') a c :=
  h.trans ((k.wider (R := or_ S T) (fun _ => .inr)).holds fun x hx => by
    rcases hx with hx | hx
    · exact .inl (.inl hx)
    · exact (k.own x hx).imp .inr id)
/-- A block of the call's own. -/
theorem Upd.more {O T : Own} {a b c : World} {x : Nat} (h : Upd O T a b) (k : Upd (one_ x) (one_ x) b c) (hx : a.heap.size ≤ x) : Upd O T a c :=
  ⟨k.os.trans h.os, k.tape.trans h.tape, k.output.trans h.output, Nat.le_trans h.size k.size,
   fun i hi hn => (k.block i (Nat.lt_of_lt_of_le hi h.size) (fun he => by have : i = x := he; omega)).trans (h.block i hi hn), h.own⟩
theorem KT.updT {w w' : World} {kb tb : Nat} {l : List UInt8} {room total : Int} {fs : List FieldS} {S : Own} {tab tab' : List FieldS} {most most' : Int} {St St' : Own} (h : KT w kb tb l room total fs S tab most St) (ht : TableAt w' tb tab' most' St') (hu : Upd St St' w w') : KT w' kb tb l room total fs S tab' most' St' where
  k := h.k.loc fun k hs => hu.block k (h.k.lt k hs) (h.apart k hs)
  t := ht
  apart := fun k hS hs => by
    rcases hu.own k hs with h1 | h1
    · exact h.apart k hS h1
    · have := h.k.lt k hS; omega
  g := h.g.upd hu h.g0.2
  g0 := ⟨h.g0.1, fun h1 => by
    rcases hu.own 0 h1 with h2 | h2
    · exact h.g0.2 h2
    · have := h.g.pos; omega⟩

/-- Memory while a block is read. -/
structure RdM (w W : World) (kb tb : Nat) (room : Int) (O : Own) (s : RdS) (S St : Own) (fb : Nat) (f : FieldS) : Prop where
  kt : KT W kb tb s.l room s.total s.fs S s.tab s.most St
  fld : Blk W fb 109 [.string f.name, .string f.value, .bool f.never]
  far : ¬ S fb ∧ ¬ St fb
  low : w.heap.size ≤ fb
  pos : 0 < w.heap.size
  upd : Upd O (or_ S St) w W
  tab : TabOk s.tab s.most
  told : s.told ≤ 2
  cnt : ∃ c, s.fs.length ≤ c ∧ s.total ≤ 3000000000 * c ∧ c + s.l.length ≤ 1000000
theorem RdM.len {w W : World} {kb tb : Nat} {room : Int} {O : Own} {s : RdS} {S St : Own} {fb : Nat} {f : FieldS} (h : RdM w W kb tb room O s S St fb f) : s.l.length ≤ 1000000 := by
  obtain ⟨c, h1, h2, h3⟩ := h.cnt
  omega
/-- The block went on. -/
theorem RdM.step {w W W' : World} {kb tb : Nat} {room : Int} {O : Own} {s : RdS} {S S' St : Own} {fb : Nat} {f : FieldS} (h : RdM w W kb tb room O s S St fb f) {r : List UInt8} (hk : KAt W' kb tb r room s.total s.fs S') (hu : Upd S S' W W') (hr : r.length < s.l.length) : RdM w W' kb tb room O { s with l := r } S' St fb f where
  kt := h.kt.upd hk hu
  fld := h.fld.upd hu h.far.1
  far := ⟨fun h1 => by
    rcases hu.own _ h1 with h2 | h2
    · exact h.far.1 h2
    · have := h.fld.lt; omega, h.far.2⟩
  low := h.low
  pos := h.pos
  upd := h.upd.left hu
  tab := h.tab
  told := h.told
  cnt := by
    obtain ⟨c, h1, h2, h3⟩ := h.cnt
    exact ⟨c, h1, h2, by simp only; omega⟩
/-- The field was stored. -/
theorem RdM.stored {w W W' : World} {kb tb : Nat} {room : Int} {O : Own} {s : RdS} {S St : Own} {fb : Nat} {f f' : FieldS} (h : RdM w W kb tb room O s S St fb f) (hb : Blk W' fb 109 [.string f'.name, .string f'.value, .bool f'.never]) (hu : Upd (one_ fb) (one_ fb) W W') : RdM w W' kb tb room O s S St fb f' where
  kt := {
    k := h.kt.k.loc fun k hk => hu.block k (h.kt.k.lt k hk) (fun he => h.far.1 ((show k = fb from he) ▸ hk))
    t := h.kt.t.loc fun k hk => hu.block k (h.kt.t.lt k hk) (fun he => h.far.2 ((show k = fb from he) ▸ hk))
    apart := h.kt.apart
    g := h.kt.g.upd hu (fun he => by
      have h1 : 0 = fb := he
      have h2 := h.low
      have h3 := h.pos
      omega)
    g0 := h.kt.g0 }
  fld := hb
  far := h.far
  low := h.low
  pos := h.pos
  upd := h.upd.more hu h.low
  tab := h.tab
  told := h.told
  cnt := h.cnt
end Go.Proofs.YthmfifcogokpoaaDoor
