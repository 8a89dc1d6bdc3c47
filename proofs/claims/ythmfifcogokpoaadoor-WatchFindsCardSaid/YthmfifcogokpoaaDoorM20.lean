/- What is proved here: contracts of the program's functions and plain lemmas that the claim's last text uses, in parts: package watch: In; package watch: what applies does, in plain words; package watch: applies, its loop. -/
import Derived.Test.YthmfifcogokpoaaDoorM19
import Derived.Deep.LoopGhost
set_option linter.unusedVariables false
set_option linter.unusedSimpArgs false
namespace Go.Proofs.YthmfifcogokpoaaDoor
open Go.RowKit

def InM (w : World) (b : Nat) (S : Own) (B : Nat) (fin : WatchS) (g : Nat) (wr : World) : Prop :=
  ∃ s v S1, WAt wr b v s S1 ∧ Upd S S1 w wr ∧ WOk B s ∧ (s.deaf = true ∨ s.inB.length < g) ∧ inLoop g s = fin

/-- One part other than its own block turned. -/
theorem WAt.focus1 {w : World} {b : Nat} {v : Locs} {s : WatchS} {S : Own} (h : WAt w b v s S) (i : Nat) {p : Part} (hi : (watL b v s)[i + 1]? = some p) :
    ∃ S1, p.p w S1 ∧ (∀ k, S1 k → S k) ∧ ¬ S1 b ∧ ∀ (w' : World) (S1' : Own) (p' : Part) (v' : Locs) (s' : WatchS), p'.p w' S1' → Upd S1 S1' w w' → (watL b v s).set (i + 1) p' = watL b v' s' → v'.kbs.length = s'.m.length → ∃ S', WAt w' b v' s' S' ∧ Upd S S' w w' := by
  obtain ⟨Sb, R, hb, hr, hap, hiff⟩ := h.star
  have hRb : ¬ R b := hap b ((hb.2 b).2 rfl)
  obtain ⟨S1, h1, h2, h3⟩ := StarL.focus i hr (by simpa [watL] using hi)
  refine ⟨S1, h1, fun k hk => (hiff k).2 (.inr (h2 k hk)), fun hk => hRb (h2 b hk), fun w' S1' p' v' s' hp hu he hk => ?_⟩
  obtain ⟨R', h4, h5⟩ := h3 w' S1' p' hp hu
  have hap2 : Apart Sb R' := (h5.apart hap.symm (fun k hk => (blkP b _ _).lt hb k hk)).symm
  have h6 : Upd S (or_ Sb R') w w' := (h5.wider (R := S) (fun k hk => (hiff k).2 (.inr hk))).holds fun k hk => by
    rcases hk with hk | hk
    · exact .inl ((hiff k).2 (.inl hk))
    · exact (h5.own k hk).imp (fun h => (hiff k).2 (.inr h)) id
  refine ⟨or_ Sb R', ⟨hk, he ▸ ⟨Sb, R', ⟨hb.1.upd h5 hRb, hb.2⟩, h4, hap2, fun _ => Iff.rfl⟩, h.glob.upd h6 h.g0, fun h0 => ?_⟩, h6⟩
  rcases h6.own 0 h0 with h7 | h7
  · exact h.g0 h7
  · have := h.glob.pos; omega

set_option maxRecDepth 100000 in
set_option maxHeartbeats 1000000 in
theorem in_any (w : World) (b : Nat) (v : Locs) (s : WatchS) (S : Own) (h : WAt w b v s S) (B : Nat) (hok : WOk B s) (A : Option Addr) (c : Nat) (l : List UInt8) (hrd : Rd w 1 A l.length c (bys l)) (hA : ∀ k, blockOf A = some k → k < w.heap.size ∧ ¬ S k) (hB : B + l.length ≤ 1000000000) :
    Calls Tryd.prog 9 #[.pointer (some ⟨b, 0, none⟩), .slice A l.length c] w (HearsQ b (inS s l) S w) := by
  have e0 := h.blk.cell 0
  have f0 := h.blk.frozen 0
  simp only [WatchS.cells, List.getElem?_cons_zero] at e0
  have hhead := hok.head
  have hlen := hrd.le
  generalize hn : min (24 - s.head) l.length = n at *
  have hmin : min (24 - (s.head : Int)) (l.length : Int) = (n : Int) := by omega
  obtain ⟨m, hm⟩ : ∃ m, s.head + n = m := ⟨_, rfl⟩
  obtain ⟨S1, k1, u1⟩ := h.set 0 (.int .i64 m) { s with head := m } rfl rfl rfl
  obtain ⟨A1, c1, hsl, hr1⟩ := (hrd.upd u1 hA).cut n (by omega)
  obtain ⟨d, hd⟩ : ∃ d, l.drop n = d := ⟨_, rfl⟩
  have hdl : d.length ≤ l.length := by rw [← hd, List.length_drop]; omega
  have hinB := hok.inB
  rw [hd] at hsl hr1
  have hHD : (s.head : Int) + (n : Int) = (m : Int) := by omega
  have HTK := Lib.hid (show takeS s l = { s with head := m, inB := s.inB ++ d } from by simp only [takeS, hn, hm, hd])
  have HOK2 := Lib.hid (takeS_ok hok l)
  have HFIN := Lib.hid (show inLoop ((takeS s l).inB.length + 1) (takeS s l) = inS s l from rfl)
  have HU := Lib.hid u1
  have HK := Lib.hid k1
  have hn1 : n ≤ 24 := by omega
  have hn2 : m ≤ 24 := by omega
  have HNL := Lib.hid (show n ≤ l.length from by omega)
  clear h hok u1 k1 hn hm hd
  go_enter Tryd.func9, Tryd.ntmps9
  go_wp2
  obtain ⟨P1, hpar, hsub, hPb, hfin⟩ := HK.out.focus1 0 rfl
  have w1 := HK.out.blk.cell 1
  have hltb := HK.out.blk.lt
  simp only [WatchS.cells, List.getElem?_cons_succ, List.getElem?_cons_zero] at w1
  clear hmin hHD e0 f0 hrd hA
  generalize w.setCell ⟨b, 0, none⟩ (.int .i64 m) = W1 at *
  refine wp_region_S (fun W => W.cell? ⟨b, 1, none⟩ = some (.pointer (some ⟨v.ib, 0, none⟩))) 8 (by kernel_rfl) (w1) (fun hHeld => ?_)
  refine AnyS_take (i := 0) (v := ?_) rfl (by kernel_rfl) (by kernel_rfl) (by kernel_rfl) (by kernel_rfl) (by kernel_rfl) (fun _ _ _ h => h) (Or.inl ⟨by rfl, ?_⟩) hHeld ?_
  rotate_left
  · intro w' hSw
    (try dsimp only at hSw)
    go_simp
    try with_reducible rfl
  try simp only [Act.put, List.setIfInBounds_toArray, List.set_cons_zero, List.set_cons_succ]
  refine AnyS_take (i := 1) (v := ?_) rfl (by kernel_rfl) (by kernel_rfl) (by kernel_rfl) (by kernel_rfl) (by kernel_rfl) (fun _ _ _ h => h) (Or.inl ⟨by rfl, ?_⟩) hHeld ?_
  rotate_left
  · intro w' hSw
    (try dsimp only at hSw)
    go_simp
    try with_reducible rfl
  try simp only [Act.put, List.setIfInBounds_toArray, List.set_cons_zero, List.set_cons_succ]
  refine AnyS_take (i := 2) (v := ?_) rfl (by kernel_rfl) (by kernel_rfl) (by kernel_rfl) (by kernel_rfl) (by kernel_rfl) (fun _ _ _ h => h) (Or.inl ⟨by rfl, ?_⟩) hHeld ?_
  rotate_left
  · intro w' hSw
    (try dsimp only at hSw)
    go_simp
    try with_reducible rfl
  try simp only [Act.put, List.setIfInBounds_toArray, List.set_cons_zero, List.set_cons_succ]
  refine AnyS_take (i := 3) (v := ?_) rfl (by kernel_rfl) (by kernel_rfl) (by kernel_rfl) (by kernel_rfl) (by kernel_rfl) (fun _ _ _ h => h) (Or.inl ⟨by rfl, ?_⟩) hHeld ?_
  rotate_left
  · intro w' hSw
    (try dsimp only at hSw)
    go_simp
    try with_reducible rfl
  try simp only [Act.put, List.setIfInBounds_toArray, List.set_cons_zero, List.set_cons_succ]
  refine AnyS_take (i := 4) (v := ?_) rfl (by kernel_rfl) (by kernel_rfl) (by kernel_rfl) (by kernel_rfl) (by kernel_rfl) (fun _ _ _ h => h) (Or.inl ⟨by rfl, ?_⟩) hHeld ?_
  rotate_left
  · intro w' hSw
    (try dsimp only at hSw)
    go_simp
    try with_reducible rfl
  try simp only [Act.put, List.setIfInBounds_toArray, List.set_cons_zero, List.set_cons_succ]
  refine AnyS_take (i := 5) (v := ?_) rfl (by kernel_rfl) (by kernel_rfl) (by kernel_rfl) (by kernel_rfl) (by kernel_rfl) (fun _ _ _ h => h) (Or.inl ⟨by rfl, ?_⟩) hHeld ?_
  rotate_left
  · intro w' hSw
    (try dsimp only at hSw)
    go_simp
    try with_reducible rfl
  try simp only [Act.put, List.setIfInBounds_toArray, List.set_cons_zero, List.set_cons_succ]
  refine AnyS_take (i := 6) (v := ?_) rfl (by kernel_rfl) (by kernel_rfl) (by kernel_rfl) (by kernel_rfl) (by kernel_rfl) (fun _ _ _ h => h) (Or.inl ⟨by rfl, ?_⟩) hHeld ?_
  rotate_left
  · intro w' hSw
    (try dsimp only at hSw)
    go_simp
    try with_reducible rfl
  try simp only [Act.put, List.setIfInBounds_toArray, List.set_cons_zero, List.set_cons_succ]
  refine AnyS_step (i := 7) rfl (by kernel_rfl) rfl (fun K hK => ?_)
  go_simp
  refine (feed_any v.ib 16384 s.inB d P1 A1 c1 W1.drew (ParserAt.loc hpar fun _ _ => rfl) (hr1.keep fun _ _ => rfl) (by omega)).mono ?_
  rintro e w2 ⟨rfl, P2, hp2, hu2⟩
  obtain ⟨S2, k2, u2⟩ := hfin w2 P2 (parP v.ib 16384 (s.inB ++ d)) v { s with head := m, inB := s.inB ++ d } hp2 (((Upd.refl P1 W1).drew).trans hu2) rfl HK.out.kbs
  refine hK.out _ _ ((hu2.cell (a := ⟨b, 1, none⟩) hltb hPb).trans hHeld) (fun hHeld => ?_)
  clear hK K
  try simp only [Act.put, List.setIfInBounds_toArray, List.set_cons_zero, List.set_cons_succ]
  refine AnyS_done (by kernel_rfl) (NoPanic.normal ?_) _
  try simp only [Act.put, List.setIfInBounds_toArray, List.set_cons_zero, List.set_cons_succ]
  have HK2 := Lib.hid k2
  have HU2 := Lib.hid (HU.out.trans u2)
  clear k2 u2 hfin hp2 hu2 hpar hsub hHeld w1 hltb hr1 HK HU
  rw [HTK.out] at HOK2 HFIN
  clear HTK
  go_wp2
  go_loopg [] (s.inB.length + d.length + 1) (fun g wr => InM w b S (B + l.length) (inS s l) g wr)
  case atStart =>
    exact ⟨_, v, S2, HK2.out, HU2.out, HOK2.out, .inr (by simp), by simpa using HFIN.out⟩
  case round =>
    obtain ⟨s1, v1, S3, hw, hu, hok, hlt, hfn⟩ := hrel
    have r1 := hw.blk.cell 1
    have r3 := hw.blk.cell 3
    have r4 := hw.blk.cell 4
    have rf3 := hw.blk.frozen 3
    have hltb := hw.blk.lt
    simp only [WatchS.cells, List.getElem?_cons_succ, List.getElem?_cons_zero] at r1 r3 r4
    have HW := Lib.hid hw
    have HUU := Lib.hid hu
    have HOK := Lib.hid hok
    clear HOK2 HFIN HK2 HU2 hw hu
    cases hdeaf : s1.deaf with
    | true =>
      rw [hdeaf] at r3
      have hf : s1 = inS s l := by
        rw [← hfn]
        cases gk with
        | zero => rfl
        | succ n => simp [inLoop, hdeaf]
      have HF := Lib.hid hf
      clear hok hlt hfn hf
      go_wp2
      go_end0
      rw [← HF.out]
      exact ⟨rfl, v1, S3, HW.out, HUU.out⟩
    | false =>
      rw [hdeaf] at r3 hlt
      simp only [Bool.false_eq_true, false_or] at hlt
      obtain ⟨gn, hgn⟩ : ∃ gn, gk = gn + 1 := ⟨gk - 1, by omega⟩
      subst hgn
      cases hblind : s1.blind with
      | true =>
        rw [hblind] at r4
        have hf : s1 = inS s l := by
          rw [← hfn]
          simp [inLoop, hdeaf, hblind]
        have HF := Lib.hid hf
        clear hok hlt hfn hf
        go_wp2
        go_end0
        rw [← HF.out]
        exact ⟨rfl, v1, S3, HW.out, HUU.out⟩
      | false =>
        rw [hblind] at r4
        have hbl : s1.inB.length ≤ 1000000000 := by have := hok.inB; omega
        obtain ⟨Q1, hpar1, hsub1, hQb, hfoc⟩ := HW.out.focus1 0 rfl
        have HN := Lib.hid (next_any v1.ib 16384 s1.inB Q1 wr hpar1 (by omega))
        have HFO := Lib.hid hfoc
        have HWI := Lib.hid (show inLoop (gn + 1) s1 = (if (nextS 16384 s1.inB).2.1 = 4 then s1 else if (nextS 16384 s1.inB).2.1 = 0 then inLoop gn (hearsS { s1 with inB := (nextS 16384 s1.inB).2.2, deaf := false } (nextS 16384 s1.inB).1) else { s1 with deaf := true }) from by simp [inLoop, hdeaf, hblind])
        have hcases := nextS_cases s1.inB 16384 (by omega)
        rw [hfn] at HWI
        unfold NextQ FrameS.v at HN
        clear hfn hpar1 hfoc
        generalize nextS 16384 s1.inB = r at *
        obtain ⟨f, e, rest⟩ := r
        simp only at HN HWI hcases
        rcases hcases with ⟨rfl, rfl⟩ | ⟨rfl, rfl⟩ | ⟨rfl, hc1, hc2, hc3, hc4⟩
        · rw [if_pos rfl] at HWI
          clear hok hlt
          go_wp2_with (go_at_call 25; refine HN.out.mono ?_; rintro e w3 ⟨A3, c3, Sb, Sp, rfl, hrb, hpp, hsp, hup⟩; have HUP := Lib.hid hup; have HPP := Lib.hid hpp; have HRB := Lib.hid hrb; skip; clear hup hpp hsp hrb)
          refine bodyPost_ret (results_none rfl _ _ _) rfl ?_
          obtain ⟨S4, k4, u4⟩ := HFO.out w3 Sp (parP v1.ib 16384 s1.inB) v1 s1 HPP.out (HUP.out.holds fun k hk => HUP.out.own k (.inr hk)) rfl HW.out.kbs
          rw [HWI.out]
          exact ⟨rfl, v1, S4, k4.alloc _, (HUU.out.trans u4).alloc _⟩
        · rw [if_neg (by decide), if_neg (by decide)] at HWI
          clear hok hlt
          go_wp2_with (go_at_call 25; refine HN.out.mono ?_; rintro e w3 ⟨A3, c3, Sb, Sp, rfl, hrb, hpp, hsp, hup⟩; obtain ⟨S4, k4, u4⟩ := HFO.out w3 Sp (parP v1.ib 16384 s1.inB) v1 { s1 with inB := s1.inB } hpp (hup.holds fun k hk => hup.own k (.inr hk)) rfl HW.out.kbs; obtain ⟨S5, k5, u5⟩ := k4.set 3 (.bool true) { s1 with inB := s1.inB, deaf := true } rfl rfl rfl; have HK5 := Lib.hid (k5.alloc (.cells #[.int .i64 f.kind, .int .i64 f.flags, .int .i64 f.stream, .slice A3 f.body.length c3] 29)); have HU5 := Lib.hid (((HUU.out.trans u4).trans u5).alloc (.cells #[.int .i64 f.kind, .int .i64 f.flags, .int .i64 f.stream, .slice A3 f.body.length c3] 29)); have hnb : ¬ Sb b := (fun h => (hup.own b (.inl h)).elim hQb (fun h2 => Nat.lt_irrefl _ (Nat.lt_of_lt_of_le hltb h2))); have HRB := Lib.hid (show Rd ((w3.setCell ⟨b, 3, none⟩ (.bool true)).alloc (.cells #[.int .i64 f.kind, .int .i64 f.flags, .int .i64 f.stream, .slice A3 f.body.length c3] 29)) 1 A3 f.body.length c3 (bys f.body) from ((hrb.loc (w' := w3.setCell ⟨b, 3, none⟩ (.bool true)) fun k hk => heap_set_other _ (fun h => hnb (by rw [← show k = b from h]; exact hk))).rd).alloc (by omega) _); have r3b := k4.blk.cell 3; have r3c := k5.blk.cell 3; have rf3b := k4.blk.frozen 3; have hltb2 := k4.blk.lt; simp only [WatchS.cells, List.getElem?_cons_succ, List.getElem?_cons_zero] at r3b r3c; clear k4 u4 k5 u5 hup hpp hsp hrb hnb)
          go_roundg gn
          case measure => omega
          case rel =>
            refine ⟨{ s1 with deaf := true }, v1, S5, HK5.out, HU5.out, ?_, .inl rfl, ?_⟩
            · exact ⟨HOK.out.head, HOK.out.inB, HOK.out.outB, HOK.out.data, HOK.out.keys, HOK.out.wins, HOK.out.win, HOK.out.sets⟩
            · rw [HWI.out]
              cases gn <;> simp [inLoop]
        · rw [if_neg (by decide), if_pos rfl] at HWI
          have hok2 : WOk (B + l.length) { s1 with inB := rest, deaf := false } := ⟨hok.head, by have := hok.inB; simp only; omega, hok.outB, hok.data, hok.keys, hok.wins, hok.win, hok.sets⟩
          have hok3 := hearsS_ok hok2 (by have := hok.inB; simp only; omega) f
          have hlen3 : rest.length < gn := by omega
          have HL3 := Lib.hid hlen3
          have HOK3 := Lib.hid hok3
          have HHE := Lib.hid (fun W S4 (k4 : WAt W b v1 { s1 with inB := rest, deaf := false } S4) A3 c3 hrb => hears_any W b v1 _ S4 k4 hok2.win hok2.wins hok2.keys (by have := hok2.inB; simp only at this ⊢; omega) f hc2 A3 c3 hrb)
          unfold FrameS.v HearsQ at HHE
          clear hok hlt hok2 hok3 hlen3 hc1 hc2 hc3 hc4
          go_wp2_with (first | (go_at_call 25; refine HN.out.mono ?_; rintro e w3 ⟨A3, c3, Sb, Sp, rfl, hrb, hpp, hsp, hup⟩; obtain ⟨S4, k4, u4⟩ := HFO.out w3 Sp (parP v1.ib 16384 rest) v1 { s1 with inB := rest } hpp (hup.holds fun k hk => hup.own k (.inr hk)) rfl HW.out.kbs; obtain ⟨S5, k5, u5⟩ := k4.set 3 (.bool false) { s1 with inB := rest, deaf := false } rfl rfl rfl; have HK5 := Lib.hid (k5.alloc (.cells #[.int .i64 f.kind, .int .i64 f.flags, .int .i64 f.stream, .slice A3 f.body.length c3] 29)); have HU5 := Lib.hid (((HUU.out.trans u4).trans u5).alloc (.cells #[.int .i64 f.kind, .int .i64 f.flags, .int .i64 f.stream, .slice A3 f.body.length c3] 29)); have hnb : ¬ Sb b := (fun h => (hup.own b (.inl h)).elim hQb (fun h2 => Nat.lt_irrefl _ (Nat.lt_of_lt_of_le hltb h2))); have HRB := Lib.hid (show Rd ((w3.setCell ⟨b, 3, none⟩ (.bool false)).alloc (.cells #[.int .i64 f.kind, .int .i64 f.flags, .int .i64 f.stream, .slice A3 f.body.length c3] 29)) 1 A3 f.body.length c3 (bys f.body) from ((hrb.loc (w' := w3.setCell ⟨b, 3, none⟩ (.bool false)) fun k hk => heap_set_other _ (fun h => hnb (by rw [← show k = b from h]; exact hk))).rd).alloc (by omega) _); have r3b := k4.blk.cell 3; have r3c := k5.blk.cell 3; have rf3b := k4.blk.frozen 3; have hltb2 := k4.blk.lt; simp only [WatchS.cells, List.getElem?_cons_succ, List.getElem?_cons_zero] at r3b r3c; clear k4 u4 k5 u5 hup hpp hsp hrb hnb) | (go_at_call 26; refine (HHE.out _ S5 HK5.out A3 c3 HRB.out).mono ?_; rintro e w5 ⟨rfl, v6, S6, hk6, hu6⟩; have HK6 := Lib.hid hk6; have HU6 := Lib.hid hu6; clear hk6 hu6))
          go_roundg gn
          case measure => omega
          case rel =>
            exact ⟨_, v6, S6, HK6.out, HU5.out.trans HU6.out, HOK3.out, .inr (by rw [hearsS_inB]; exact HL3.out), HWI.out.symm⟩
end Go.Proofs.YthmfifcogokpoaaDoor
namespace Go.Proofs.YthmfifcogokpoaaDoor
open Go.RowKit

def shiftX (by_ : Int) (x : StrS) : StrS := { x with window := cutW (x.window + by_) }
def overX (by_ : Int) (x : StrS) : Prop := 2147483647 < x.window + by_
instance (by_ : Int) (x : StrS) : Decidable (overX by_ x) := inferInstanceAs (Decidable (_ < _))
/-- The eldest settings hold. Where a window would grow too great nothing is said of the windows. -/
def shiftAll (by_ : Int) (s : WatchS) : WatchS :=
  if s.blind then s else if ∃ x ∈ s.m, overX by_ x.2 then { s with blind := true } else { s with m := s.m.map fun x => (x.1, shiftX by_ x.2) }
def appliesS (s : WatchS) : Bool × WatchS :=
  match s.waits with
  | [] => (false, s)
  | l :: r => (true, shiftAll ((applyS s.sets l).1.window - s.sets.window) { s with waits := r, sets := (applyS s.sets l).1, blind := (applyS s.sets l).2.bad })
/-- The same streams but for their windows. -/
def SameBut (m m' : List (Nat × StrS)) : Prop := m.map (fun x => (x.1, { x.2 with window := 0 })) = m'.map (fun x => (x.1, { x.2 with window := 0 })) ∧ ∀ x ∈ m', W x.2.window
/-- The same Watch, but for windows where it is blind. -/
def Sim (s s' : WatchS) : Prop := s' = s ∨ (s.blind = true ∧ ∃ m', SameBut s.m m' ∧ s' = { s with m := m' })
theorem Sim.refl (s : WatchS) : Sim s s := .inl rfl

theorem setOne_win {s : SetsS} {id v : Int} (h : 0 ≤ s.window ∧ s.window ≤ 2147483647) (hv : 0 ≤ v) (hw : wrongS id v = 0) : 0 ≤ (setOne s id v).window ∧ (setOne s id v).window ≤ 2147483647 := by
  have h4 : id = 4 → v ≤ 2147483647 := fun he => by
    subst he
    unfold wrongS at hw
    simp at hw
    omega
  unfold setOne
  repeat' split
  all_goals first | exact h | (simp only; have := h4 (by assumption); omega)
theorem applyS_win : ∀ (l : List (Nat × Nat)) {s : SetsS}, 0 ≤ s.window ∧ s.window ≤ 2147483647 → 0 ≤ (applyS s l).1.window ∧ (applyS s l).1.window ≤ 2147483647
  | [], _, h => h
  | x :: r, s, h => by
    unfold applyS
    split
    · simp [zeroS]
    · rename_i hw
      exact applyS_win r (setOne_win h (by omega) (by simpa using hw))
theorem shiftAll_ok {B : Nat} {s : WatchS} (h : WOk B s) (by_ : Int) : WOk B (shiftAll by_ s) := by
  unfold shiftAll
  split
  · exact h
  split
  · exact ⟨h.head, h.inB, h.outB, h.data, h.keys, h.wins, h.win, h.sets⟩
  · refine ⟨h.head, h.inB, h.outB, fun x hx => ?_, fun x hx => ?_, fun x hx => ?_, h.win, h.sets⟩
    · obtain ⟨y, hy, rfl⟩ := List.mem_map.1 hx
      exact h.data y hy
    · obtain ⟨y, hy, rfl⟩ := List.mem_map.1 hx
      exact h.keys y hy
    · obtain ⟨y, hy, rfl⟩ := List.mem_map.1 hx
      exact cutW_W _
theorem appliesS_ok {B : Nat} {s : WatchS} (h : WOk B s) : WOk B (appliesS s).2 := by
  unfold appliesS
  split
  · exact h
  · rename_i l r hw
    have h2 : WOk B { s with waits := r, sets := (applyS s.sets l).1, blind := (applyS s.sets l).2.bad } := ⟨h.head, by
      have := h.inB
      rw [hw] at this
      simp only [List.length_cons] at this
      simp only
      omega, h.outB, h.data, h.keys, h.wins, h.win, applyS_win l h.sets⟩
    exact shiftAll_ok h2 _
theorem SameBut.refl {m : List (Nat × StrS)} (h : ∀ x ∈ m, W x.2.window) : SameBut m m := ⟨rfl, h⟩
theorem SameBut.set {m m' : List (Nat × StrS)} (h : SameBut m m') {i : Nat} {x : Nat × StrS} (hi : m'[i]? = some x) (win : Int) (hw : W win) : SameBut m (m'.set i (x.1, { x.2 with window := win })) := by
  refine ⟨?_, fun y hy => ?_⟩
  · rw [h.1]
    refine List.ext_getElem? fun j => ?_
    have hlt := (List.getElem?_eq_some_iff.1 hi).1
    simp only [List.getElem?_map, List.getElem?_set]
    by_cases hj : i = j
    · subst hj
      have hx : m'[i] = x := (List.getElem?_eq_some_iff.1 hi).2
      simp [hlt, hx]
    · simp [hj]
  · rcases List.mem_or_eq_of_mem_set hy with h1 | rfl
    · exact h.2 y h1
    · exact hw
theorem SameBut.length {m m' : List (Nat × StrS)} (h : SameBut m m') : m'.length = m.length := by
  have := congrArg List.length h.1
  simpa using this.symm
theorem SameBut.get {m m' : List (Nat × StrS)} (h : SameBut m m') {i : Nat} {x : Nat × StrS} (hi : m[i]? = some x) : ∃ win, m'[i]? = some (x.1, { x.2 with window := win }) := by
  have h1 := congrArg (fun l => l[i]?) h.1
  simp only [List.getElem?_map, hi, Option.map_some] at h1
  cases h2 : m'[i]? with
  | none => rw [h2] at h1; cases h1
  | some y =>
    rw [h2] at h1
    simp only [Option.map_some, Option.some.injEq, Prod.mk.injEq, StrS.mk.injEq] at h1
    obtain ⟨yk, yx⟩ := y
    obtain ⟨xk, xx⟩ := x
    simp only at h1
    refine ⟨yx.window, ?_⟩
    obtain ⟨g1, -, g2, g3, g4, g5⟩ := h1
    simp only [Option.some.injEq, Prod.mk.injEq]
    refine ⟨g1.symm, ?_⟩
    cases yx
    simp only at g2 g3 g4 g5
    simp [g2, g3, g4, g5]
theorem SameBut.keys {m m' : List (Nat × StrS)} (h : SameBut m m') : m'.map (·.1) = m.map (·.1) := by
  have h1 := congrArg (List.map (·.1)) h.1
  simpa [List.map_map, Function.comp_def] using h1.symm
/-- What the range over the streams has come to. -/
structure ShM (by_ : Int) (s0 : WatchS) (seen : Array Nat) (m' : List (Nat × StrS)) (bl : Bool) : Prop where
  same : SameBut s0.m m'
  no : bl = false → s0.blind = false ∧ ∀ (i : Nat) (x : Nat × StrS), s0.m[i]? = some x → m'[i]? = some (if seen.contains i then (x.1, shiftX by_ x.2) else x) ∧ (seen.contains i = true → ¬ overX by_ x.2)
  yes : bl = true → s0.blind = true ∨ ∃ x ∈ s0.m, overX by_ x.2
theorem ShM.start {by_ : Int} {s0 : WatchS} (h : ∀ x ∈ s0.m, W x.2.window) : ShM by_ s0 #[] s0.m s0.blind :=
  ⟨SameBut.refl h, fun hb => ⟨hb, fun i x hi => ⟨by simpa using hi, by simp⟩⟩, fun hb => .inl hb⟩
/-- At the end. -/
theorem ShM.finish {by_ : Int} {s0 : WatchS} {seen : Array Nat} {m' : List (Nat × StrS)} {bl : Bool} (h : ShM by_ s0 seen m' bl) (hall : ∀ i, i < s0.m.length → seen.contains i = true) : Sim (shiftAll by_ s0) { s0 with m := m', blind := bl } := by
  cases hb : bl with
  | false =>
    subst hb
    obtain ⟨h1, h2⟩ := h.no rfl
    have hno : ¬ ∃ x ∈ s0.m, overX by_ x.2 := fun ⟨x, hx, ho⟩ => by
      obtain ⟨i, hi, rfl⟩ := List.getElem_of_mem hx
      exact (h2 i _ (List.getElem?_eq_getElem hi)).2 (hall i hi) ho
    have hm : m' = s0.m.map fun x => (x.1, shiftX by_ x.2) := by
      refine List.ext_getElem? fun i => ?_
      rw [List.getElem?_map]
      cases hi : s0.m[i]? with
      | none =>
        have h3 := h.same.length
        rw [List.getElem?_eq_none_iff] at hi
        simp only [Option.map_none, List.getElem?_eq_none_iff]
        omega
      | some x =>
        rw [(h2 i x hi).1, hall i (List.getElem?_eq_some_iff.1 hi).1]
        simp
    unfold shiftAll
    rw [h1, if_neg (by decide), if_neg hno, hm]
    exact .inl (by simp [h1])
  | true =>
    subst hb
    have h1 := h.yes rfl
    unfold shiftAll
    by_cases h2 : s0.blind = true
    · rw [if_pos h2]
      exact .inr ⟨h2, m', h.same, by simp [h2]⟩
    · rw [if_neg h2]
      rcases h1 with h1 | h1
      · exact absurd h1 h2
      · rw [if_pos h1]
        exact .inr ⟨rfl, m', h.same, rfl⟩
theorem ShM.skip {by_ : Int} {s0 : WatchS} {seen : Array Nat} {m' : List (Nat × StrS)} (h : ShM by_ s0 seen m' true) (i : Nat) : ShM by_ s0 (seen.push i) m' true := ⟨h.same, fun hb => (by cases hb), h.yes⟩
theorem ShM.step {by_ : Int} {s0 : WatchS} {seen : Array Nat} {m' : List (Nat × StrS)} (h : ShM by_ s0 seen m' false) (hw : ∀ x ∈ s0.m, W x.2.window) {i : Nat} {x : Nat × StrS} (hi : m'[i]? = some x) (hs : seen.contains i = false) :
    ShM by_ s0 (seen.push i) (m'.set i (x.1, { x.2 with window := (shiftS (cutW x.2.window) (cutW 0) by_).1 })) (shiftS (cutW x.2.window) (cutW 0) by_).2.2.bad := by
  obtain ⟨h1, h2⟩ := h.no rfl
  have hlt := (List.getElem?_eq_some_iff.1 hi).1
  have hlt0 : i < s0.m.length := by rw [← h.same.length]; exact hlt
  have h0 : s0.m[i]? = some s0.m[i] := List.getElem?_eq_getElem hlt0
  have hx : x = s0.m[i] := by
    have h3 := (h2 i _ h0).1
    rw [hi, hs] at h3
    simpa using h3
  have hxw : W x.2.window := by rw [hx]; exact hw _ (List.getElem_mem hlt0)
  rw [cutW_id _ hxw]
  unfold shiftS
  by_cases ho : 2147483647 < x.2.window + by_
  · rw [if_pos ho]
    refine ⟨h.same.set hi 0 (by simp [W]), fun hb => (by cases hb), fun _ => .inr ⟨x, by rw [hx]; exact List.getElem_mem hlt0, ho⟩⟩
  · rw [if_neg ho]
    refine ⟨h.same.set hi _ (cutW_W _), fun _ => ⟨h1, fun j y hj => ?_⟩, fun hb => (by cases hb)⟩
    have hc : (seen.push i).contains j = (seen.contains j || j == i) := contains_push seen i j
    by_cases hji : i = j
    · subst hji
      rw [h0] at hj
      cases hj
      have hc1 : (seen.push i).contains i = true := by rw [hc]; simp
      rw [hc1, ← hx]
      refine ⟨by simp [List.getElem?_set, hlt, shiftX], fun _ => ho⟩
    · have hne : (j == i) = false := beq_eq_false_iff_ne.2 (fun e => hji e.symm)
      rw [hc, hne, Bool.or_false, List.getElem?_set_ne hji]
      exact h2 j y hj
theorem Sim.ok {B : Nat} {s s' : WatchS} (h : WOk B s) (hs : Sim s s') : WOk B s' := by
  rcases hs with rfl | ⟨hb, m', hm, rfl⟩
  · exact h
  · refine ⟨h.head, h.inB, h.outB, fun x hx => ?_, fun x hx => ?_, hm.2, h.win, h.sets⟩
    all_goals
      obtain ⟨i, hi, rfl⟩ := List.getElem_of_mem hx
      have hl := hm.length
      have hi2 : i < s.m.length := by rw [← hl]; exact hi
      obtain ⟨win, hw⟩ := hm.get (List.getElem?_eq_getElem hi2)
      rw [List.getElem?_eq_getElem hi, Option.some.injEq] at hw
      simp only [hw]
    · exact h.data _ (List.getElem_mem hi2)
    · exact h.keys _ (List.getElem_mem hi2)
end Go.Proofs.YthmfifcogokpoaaDoor
namespace Go.Proofs.YthmfifcogokpoaaDoor
open Go.RowKit
open Go.ChangeMaps (setBlock)

noncomputable def apBody : Code := Tryd.f34.body.getD .skip
/-- A method of a Watch that answers yes or no. -/
def RightQ (b : Nat) (r : Bool × WatchS) (S : Own) (w : World) (e : Ending) (w' : World) : Prop := e = .returned (.bool r.1) ∧ ∃ v' S' s', Sim r.2 s' ∧ WAt w' b v' s' S' ∧ Upd S S' w w'
abbrev ApP (b : Nat) (r : Bool × WatchS) (S : Own) (w : World) : Exit → Act → World → Prop := bodyPost Tryd.prog Tryd.f34 (RightQ b r S w)

def ApI (w W : World) (b : Nat) (v : Locs) (s0 : WatchS) (S : Own) (by_ : Int) (g : Nat) (wr : World) : Prop :=
  ∃ seen m' bl S1, WAt wr b v { s0 with m := m', blind := bl } S1 ∧ Upd S S1 w wr ∧ RangeAt wr W.heap.size v.mb (mapL v s0) seen ∧ ¬ S1 W.heap.size ∧ ShM by_ s0 seen m' bl ∧ leftM (mapL v s0) seen < g ∧ W.heap.size < wr.heap.size

theorem mapL_keys (v : Locs) (s0 : WatchS) (m' : List (Nat × StrS)) (bl : Bool) (h : m'.map (·.1) = s0.m.map (·.1)) : mapL v { s0 with m := m', blind := bl } = mapL v s0 := by
  have e1 : ∀ (m : List (Nat × StrS)) (kbs : List Nat), List.zipWith (fun (x : Nat × StrS) kb => ((x.1 : Int), kb)) m kbs = List.zipWith (fun (n : Nat) kb => ((n : Int), kb)) (m.map (·.1)) kbs := fun m kbs => by rw [List.zipWith_map_left]
  simp only [mapL]
  rw [e1, e1, h]

theorem setBlock_other (W : World) (r : Nat) (o : Obj) {k : Nat} (h : k ≠ r) : (setBlock W r o).heap[k]? = W.heap[k]? := by
  simp only [setBlock]
  exact Array.getElem?_setIfInBounds_ne (fun e => h e.symm)
theorem setBlock_same (W : World) (r : Nat) (o : Obj) (h : r < W.heap.size) : (setBlock W r o).heap[r]? = some o := by
  simp only [setBlock]
  rw [Array.getElem?_setIfInBounds]
  simp [h]
theorem mapL_at {v : Locs} {s : WatchS} {i : Nat} {x : Int × Nat} (h : (mapL v s)[i]? = some x) : ∃ y, s.m[i]? = some y ∧ v.kbs[i]? = some x.2 ∧ x.1 = (y.1 : Int) := by
  simp only [mapL, List.getElem?_zipWith] at h
  cases h1 : s.m[i]? with
  | none => rw [h1] at h; cases h
  | some y =>
    cases h2 : v.kbs[i]? with
    | none => rw [h1, h2] at h; cases h
    | some kb =>
      rw [h1, h2] at h
      simp only [Option.some.injEq] at h
      subst h
      exact ⟨y, rfl, rfl, rfl⟩

theorem shiftS_W (s c by_ : Int) : Go.Proofs.YthmfifcogokpoaaDoor.W (shiftS s c by_).1 ∧ Go.Proofs.YthmfifcogokpoaaDoor.W (shiftS s c by_).2.1 := by
  unfold shiftS
  split
  · exact ⟨by simp [Go.Proofs.YthmfifcogokpoaaDoor.W], by simp [Go.Proofs.YthmfifcogokpoaaDoor.W]⟩
  · exact ⟨cutW_W _, cutW_W _⟩

set_option maxRecDepth 100000 in
set_option maxHeartbeats 1000000 in
theorem ap_loop (w W : World) (b : Nat) (v : Locs) (s0 : WatchS) (S S0 : Own) (h : WAt W b v s0 S0) (hu : Upd S S0 w W) (hw : ∀ x ∈ s0.m, Go.Proofs.YthmfifcogokpoaaDoor.W x.2.window) (by_ : Int) (hby : Go.Proofs.YthmfifcogokpoaaDoor.W by_) (u1 u2 u3 u4 u6 u7 u8 u9 u10 u11 u12 u13 u14 u15 u16 u17 u18 u19 u20 u21 u22 u23 u24 u25 u26 u27 u28 u29 u30 u31 u32 u33 u34 u35 u36 u37 u38 u39 u40 u41 u42 u43 u44 u45 u46 u47 u48 u49 u50 u51 u52 u53 u54 u55 u56 u57 u58 u59 u60 u61 u62 u63 u64 u65 u66 u67 u68 u69 u70 u71 u72 u73 u74 u75 u76 u77 u78 u79 u80 u81 u82 u83 u84 u85 u86 u87 u88 : Value) :
    tailW Tryd.prog 6 apBody (ApP b (true, shiftAll by_ s0) S w) ⟨#[.pointer (some ⟨b, 0, none⟩), u1, u2, u3, u4, .int .i64 by_, u6, u7, u8, u9, u10, u11, u12, u13, u14, u15, u16, u17, u18, u19, u20, u21, u22, u23, u24, u25, u26, u27, u28, u29, u30, u31, u32, u33, u34, u35, u36, u37, u38, u39, u40, u41, u42, u43, u44, u45, u46, u47, u48, u49, u50, u51, u52, u53, u54, u55, u56, u57, u58, u59, u60, u61, u62, u63, u64, u65, u66, u67, u68, u69, u70, u71, u72, u73, u74, u75, u76, u77, u78, u79, u80, u81, u82, u83, u84, u85, u86, u87, u88], []⟩ W := by
  have e7 := h.blk.cell 7
  simp only [WatchS.cells, List.getElem?_cons_succ, List.getElem?_cons_zero] at e7
  have hrg := run_range W v.mb (mapL v s0) h.map
  have HH := Lib.hid h
  have HU := Lib.hid hu
  have HWW := Lib.hid hw
  have HBY := Lib.hid hby
  clear h hu hw hby
  show Code.wp _ _ _ _ _
  go_wp2
  go_loopg [] (leftM (mapL v s0) #[] + 1) (fun g wr => ApI w W b v s0 S by_ g wr)
  case atStart =>
    refine ⟨#[], s0.m, s0.blind, S0, HH.out.alloc _, HU.out.alloc _, heap_alloc_new W _, fun hk => by have := HH.out.lt _ hk; omega, ShM.start HWW.out, Nat.lt_succ_self _, by simp⟩
  case round =>
    obtain ⟨seen, m', bl, S1, hk, hku, hra, hns, hsh, hlt, hrb⟩ := hrel
    have hml := mapL_keys v s0 m' bl hsh.same.keys
    have hmap := hk.map
    rw [hml] at hmap
    rcases run_next wr W.heap.size v.mb (mapL v s0) seen hmap hra 0 with ⟨hall, hrun⟩ | ⟨i, x, W1, hi, hs, hal, hrun, hleft, hent⟩
    · have HK := Lib.hid hk
      have HKU := Lib.hid hku
      have hln : (mapL v s0).length = s0.m.length := by simp [mapL, HH.out.kbs]
      have HF := Lib.hid (hsh.finish fun i hi => hall i (by rw [hln]; exact hi))
      clear hk hku hra hns hsh hlt hml hmap hall hln hrg
      go_wp2
      go_ret
      exact ⟨rfl, v, S1, _, HF.out, HK.out, HKU.out⟩
    · obtain ⟨y, hy, hkb, hxy⟩ := mapL_at (by rw [hml]; exact hi : (mapL v { s0 with m := m', blind := bl })[i]? = some x)
      obtain ⟨xk, kb⟩ := x
      simp only at hkb hxy hrun hent
      obtain ⟨w2, hw2⟩ : ∃ w2, w2 = setBlock W1 W.heap.size (.mapIter (some v.mb) (mapL v s0).length (seen.push i) (mapL v s0).length) := ⟨_, rfl⟩
      rw [← hw2] at hrun
      have hsz1 : W1.heap.size = wr.heap.size := by rcases hal with rfl | rfl <;> rfl
      have hh1 : ∀ k : Nat, W1.heap[k]? = wr.heap[k]? := fun k => by rcases hal with rfl | rfl <;> rfl
      have hh2 : ∀ k : Nat, k ≠ W.heap.size → w2.heap[k]? = wr.heap[k]? := fun k hk => by rw [hw2]; exact (setBlock_other _ _ _ hk).trans (hh1 k)
      have hra2 : RangeAt w2 W.heap.size v.mb (mapL v s0) (seen.push i) := by rw [RangeAt, hw2]; exact setBlock_same _ _ _ (by rw [hsz1]; exact hrb)
      have hsz2 : w2.heap.size = wr.heap.size := by rw [hw2]; simp [setBlock, hsz1]
      have hu2 : Upd S S1 w w2 := hku.more (x := W.heap.size) ⟨by rw [hw2]; rcases hal with rfl | rfl <;> rfl, by rw [hw2]; rcases hal with rfl | rfl <;> rfl, by rw [hw2]; rcases hal with rfl | rfl <;> rfl, by rw [hsz2]; exact Nat.le_refl _, fun k _ hn => hh2 k hn, fun k hk => .inl hk⟩ HU.out.size
      have h0W : 0 < W.heap.size := HH.out.glob.pos
      have hk2 : WAt w2 b v { s0 with m := m', blind := bl } S1 := hk.keep (fun k hs => hh2 k fun e => hns (by rw [← e]; exact hs)) (by
        obtain ⟨mm, hm⟩ := hk.glob
        exact ⟨mm, (World.cell?_of_block (hh2 0 (by omega))).trans hm⟩)
      have hmap2 := hk2.map
      rw [hml] at hmap2
      have hen := hent w2 hmap2 hra2
      have hrb2 : W.heap.size < w2.heap.size := by rw [hsz2]; exact hrb
      have q4 := hk2.blk.cell 4
      have q7 := hk2.blk.cell 7
      have hltb := hk2.blk.lt
      simp only [WatchS.cells, List.getElem?_cons_succ, List.getElem?_cons_zero] at q4 q7
      have HK2 := Lib.hid hk2
      have HU2 := Lib.hid hu2
      have HRA2 := Lib.hid hra2
      have HNS := Lib.hid hns
      have HLE := Lib.hid (by omega : leftM (mapL v s0) (seen.push i) < gk - 1 ∧ gk - 1 < gk)
      have HYI := Lib.hid hy
      have HKB := Lib.hid hkb
      have HSN := Lib.hid hs
      have HSH := Lib.hid hsh
      clear hk hku hra hns hsh hlt hml hmap hleft hent hk2 hu2 hra2 hmap2 hh1 hh2 hsz1 hsz2 hw2 hal hi hy hkb hs h0W
      cases bl with
      | true =>
        go_wp2
        go_roundg (gk - 1)
        case measure => exact HLE.out.2
        case rel => exact ⟨seen.push i, m', true, S1, HK2.out, HU2.out, HRA2.out, HNS.out, HSH.out.skip i, HLE.out.1, hrb2⟩
      | false =>
        have hyw : Go.Proofs.YthmfifcogokpoaaDoor.W y.2.window := HSH.out.same.2 _ (List.mem_of_getElem? HYI.out)
        have hwb : -9223372036854775808 ≤ y.2.window ∧ y.2.window ≤ 9223372036854775807 := by unfold Go.Proofs.YthmfifcogokpoaaDoor.W at hyw; omega
        have HG := Lib.hid (fun W1 => shift_any (cutW y.2.window) (cutW 0) by_ W1 (cutW_W _) (cutW_W _) HBY.out)
        have HGW := Lib.hid (shiftS_W (cutW y.2.window) (cutW 0) by_)
        have HST := Lib.hid (HSH.out.step HWW.out HYI.out HSN.out)
        obtain ⟨kb', S3, y1, ⟨A, c, S2, k1, k2, k3, k4⟩, -, -⟩ := HK2.out.stream HYI.out
        obtain rfl : kb = kb' := by have := HKB.out; rw [y1] at this; simpa using this.symm
        have d0 := k1.cell 0
        simp only [List.getElem?_cons_zero] at d0
        have hltk := k1.lt
        have hkb : kb ≠ b := k1.ne HK2.out.blk (by decide)
        generalize shiftS (cutW y.2.window) (cutW 0) by_ = g at *
        obtain ⟨g1, g2, g3, g4, g5⟩ := g
        simp only at HG HGW HST
        obtain ⟨yn, yw, yb, ye, yr, yd⟩ := y
        simp only at d0 hwb HST
        clear hyw y1 k1 k2 k3 k4 hrg e7 hxy
        go_wp2_with (first | (go_at_call 47; refine (windows_any yw 0 _ hwb.1 hwb.2 (by omega) (by omega)).mono ?_; rintro e w3 ⟨rfl, rfl⟩) | (go_at_call 51; refine (HG.out _).mono ?_; rintro e w3 ⟨rfl, hb⟩; obtain ⟨hc1, hf1⟩ := bcell hb; have hz := hb.size; have HB := Lib.hid hb; clear hb))
        have hx1 : (w3.alloc (.cells #[.bool g3, .bool g4, .int .i64 g5] 84)).cell? ⟨w3.heap.size, 0, none⟩ = some (.bool g3) := (Blk.new w3 84 [.bool g3, .bool g4, .int .i64 g5]).cell 0
        have hne : w3.heap.size ≠ b := by omega
        have hne2 : b ≠ w3.heap.size := by omega
        have hne3 : w3.heap.size ≠ kb := by omega
        have hne4 : kb ≠ w3.heap.size := by omega
        have kW := (HK2.out.below HB.out).alloc (.cells #[.bool g3, .bool g4, .int .i64 g5] 84)
        have uW := ((Upd.of_below HB.out fun _ h => .inl h : Upd S1 S1 w2 w3)).alloc (.cells #[.bool g3, .bool g4, .int .i64 g5] 84)
        have HUW := Lib.hid uW
        have p4 := kW.blk.cell 4
        have pf4 := kW.blk.frozen 4
        obtain ⟨kb', S3, y1, ⟨A3, c3, S4, k1, k2, k3, k4⟩, y3, y4⟩ := kW.stream HYI.out
        obtain rfl : kb = kb' := by have := HKB.out; rw [y1] at this; simpa using this.symm
        have p0 := k1.cell 0
        have pf0 := k1.frozen 0
        simp only [WatchS.cells, List.getElem?_cons_succ, List.getElem?_cons_zero] at p4 p0
        have HSQ := Lib.hid (y4 _ S3 ⟨g1, yb, ye, yr, yd⟩ ⟨A3, c3, S4, k1.set 0 (.int .i64 g1), k2.loc fun k hk => heap_set_other (a := ⟨kb, 0, none⟩) _ (fun h => k3 (by rw [← show k = kb from h]; exact hk)), k3, k4⟩ ((Upd.refl S3 _).setCell (.inl ((k4 kb).2 (.inl rfl))) _))
        clear hc1 hf1 q4 q7 d0 hz hltk hltb HB HG kW uW y1 y3 y4 k1 k2 k3 k4
        generalize w3.alloc (.cells #[.bool g3, .bool g4, .int .i64 g5] 84) = W4 at *
        generalize w3.heap.size = fb at *
        have hkb2 : b ≠ kb := fun h => hkb h.symm
        refine wp_region_S (fun W => W.cell? ⟨fb, 0, none⟩ = some (.bool g3)) 12 (by kernel_rfl) (hx1) (fun hHeld => ?_)
        refine AnyS_take (i := 0) (v := ?_) rfl (by kernel_rfl) (by kernel_rfl) (by kernel_rfl) (by kernel_rfl) (by kernel_rfl) (fun _ _ _ h => h) (Or.inl ⟨by rfl, ?_⟩) hHeld ?_
        rotate_left
        · intro w' hSw
          (try dsimp only at hSw)
          go_simp
          try with_reducible rfl
        try simp only [Act.put, List.setIfInBounds_toArray, List.set_cons_zero, List.set_cons_succ]
        refine AnyS_take (i := 1) (v := ?_) rfl (by kernel_rfl) (by kernel_rfl) (by kernel_rfl) (by kernel_rfl) (by kernel_rfl) (fun _ _ _ h => h) (Or.inl ⟨by rfl, ?_⟩) hHeld ?_
        rotate_left
        · intro w' hSw
          (try dsimp only at hSw)
          go_simp
          try with_reducible rfl
        try simp only [Act.put, List.setIfInBounds_toArray, List.set_cons_zero, List.set_cons_succ]
        refine AnyS_take (i := 2) (v := ?_) rfl (by kernel_rfl) (by kernel_rfl) (by kernel_rfl) (by kernel_rfl) (by kernel_rfl) (fun _ _ _ h => h) (Or.inl ⟨by rfl, ?_⟩) hHeld ?_
        rotate_left
        · intro w' hSw
          (try dsimp only at hSw)
          go_simp
          try with_reducible rfl
        try simp only [Act.put, List.setIfInBounds_toArray, List.set_cons_zero, List.set_cons_succ]
        refine AnyS_take (i := 4) (v := ?_) rfl (by kernel_rfl) (by kernel_rfl) (by kernel_rfl) (by kernel_rfl) (by kernel_rfl) (fun _ _ _ h => h) (Or.inl ⟨by rfl, ?_⟩) hHeld ?_
        rotate_left
        · intro w' hSw
          (try dsimp only at hSw)
          go_simp
          try with_reducible rfl
        try simp only [Act.put, List.setIfInBounds_toArray, List.set_cons_zero, List.set_cons_succ]
        refine AnyS_take (i := 5) (v := ?_) rfl (by kernel_rfl) (by kernel_rfl) (by kernel_rfl) (by kernel_rfl) (by kernel_rfl) (fun _ _ _ h => h) (Or.inl ⟨by rfl, ?_⟩) hHeld ?_
        rotate_left
        · intro w' hSw
          (try dsimp only at hSw)
          go_simp
          try with_reducible rfl
        try simp only [Act.put, List.setIfInBounds_toArray, List.set_cons_zero, List.set_cons_succ]
        refine AnyS_step (i := 3) rfl (by kernel_rfl) rfl (fun K hK => ?_)
        go_simp
        refine (stream_any g1 g2 _ HGW.out.1 HGW.out.2).mono ?_
        rintro e w5 ⟨rfl, rfl⟩
        refine hK.out _ _ (hHeld) (fun hHeld => ?_)
        clear hK K
        try simp only [Act.put, List.setIfInBounds_toArray, List.set_cons_zero, List.set_cons_succ]
        refine AnyS_take (i := 6) (v := ?_) rfl (by kernel_rfl) (by kernel_rfl) (by kernel_rfl) (by kernel_rfl) (by kernel_rfl) (fun _ _ _ h => h) (Or.inl ⟨by rfl, ?_⟩) hHeld ?_
        rotate_left
        · intro w' hSw
          (try dsimp only at hSw)
          go_simp
          try with_reducible rfl
        try simp only [Act.put, List.setIfInBounds_toArray, List.set_cons_zero, List.set_cons_succ]
        refine AnyS_take (i := 7) (v := ?_) rfl (by kernel_rfl) (by kernel_rfl) (by kernel_rfl) (by kernel_rfl) (by kernel_rfl) (fun _ _ _ h => h) (Or.inl ⟨by rfl, ?_⟩) hHeld ?_
        rotate_left
        · intro w' hSw
          (try dsimp only at hSw)
          go_simp
          try with_reducible rfl
        try simp only [Act.put, List.setIfInBounds_toArray, List.set_cons_zero, List.set_cons_succ]
        refine AnyS_step (i := 8) rfl (by kernel_rfl) rfl (fun K hK => ?_)
        go_simp
        refine hK.out _ _ ((World.cell?_of_block (heap_set_other (a := ⟨kb, 0, none⟩) _ hne3)).trans hHeld) (fun hHeld => ?_)
        clear hK K
        try simp only [Act.put, List.setIfInBounds_toArray, List.set_cons_zero, List.set_cons_succ]
        refine AnyS_take (i := 9) (v := ?_) rfl (by kernel_rfl) (by kernel_rfl) (by kernel_rfl) (by kernel_rfl) (by kernel_rfl) (fun _ _ _ h => h) (Or.inl ⟨by rfl, ?_⟩) hHeld ?_
        rotate_left
        · intro w' hSw
          (try dsimp only at hSw)
          go_simp
          try with_reducible rfl
        try simp only [Act.put, List.setIfInBounds_toArray, List.set_cons_zero, List.set_cons_succ]
        refine AnyS_take (i := 10) (v := ?_) rfl (by kernel_rfl) (by kernel_rfl) (by kernel_rfl) (by kernel_rfl) (by kernel_rfl) (fun _ _ _ h => h) (Or.inl ⟨by rfl, ?_⟩) hHeld ?_
        rotate_left
        · intro w' hSw
          (try dsimp only at hSw)
          go_simp
          try with_reducible rfl
        try simp only [Act.put, List.setIfInBounds_toArray, List.set_cons_zero, List.set_cons_succ]
        refine AnyS_step (i := 11) rfl (by kernel_rfl) rfl (fun K hK => ?_)
        go_simp
        refine hK.out _ _ ((World.cell?_of_block (heap_set_other (a := ⟨b, 4, none⟩) _ hne)).trans hHeld) (fun hHeld => ?_)
        clear hK K
        try simp only [Act.put, List.setIfInBounds_toArray, List.set_cons_zero, List.set_cons_succ]
        refine AnyS_done (by kernel_rfl) (NoPanic.normal ?_) _
        try simp only [Act.put, List.setIfInBounds_toArray, List.set_cons_zero, List.set_cons_succ]
        go_wp2
        obtain ⟨S5, j1, u5⟩ := HSQ.out
        obtain ⟨S6, j2, u6⟩ := j1.drew.set 4 (.bool g3) { s0 with m := m'.set i (yn, ⟨g1, yb, ye, yr, yd⟩), blind := g3 } rfl rfl rfl
        have hu6 := HUW.out.trans (u5.drew.trans u6)
        go_roundg (gk - 1)
        case measure => exact HLE.out.2
        case rel =>
          exact ⟨seen.push i, _, g3, S6, j2, HU2.out.trans hu6, (hu6.block _ hrb2 HNS.out).trans HRA2.out, fun hk => (hu6.own _ hk).elim HNS.out (fun h => by omega), HST.out, HLE.out.1, Nat.lt_of_lt_of_le hrb2 hu6.size⟩
end Go.Proofs.YthmfifcogokpoaaDoor
