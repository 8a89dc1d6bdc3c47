/- What is proved here: contracts of the program's functions and plain lemmas that the claim's last text uses, in parts: package watch: Out; the reference's num: the lowest bytes of a number; the reference's Put: a frame's bytes; the reference's Put, whole. -/
import Derived.Test.YthmfifcogokpoaaDoorM27
import Derived.Deep.LoopGhost
import Derived.Test.YthmfifcogokpoaaDoorM02
import Derived.Test.YthmfifcogokpoaaDoorM09
import Derived.Test.YthmfifcogokpoaaDoorM04
set_option linter.unusedVariables false
set_option linter.unusedSimpArgs false
namespace Go.Proofs.YthmfifcogokpoaaDoor
open Go.RowKit

theorem Sim.outB {s s' : WatchS} (h : Sim s s') : s'.outB = s.outB := by rcases h with rfl | ⟨h, m', hm, rfl⟩ <;> rfl
theorem Sim.dead {s s' : WatchS} (h : Sim s s') : s'.dead = s.dead := by rcases h with rfl | ⟨h, m', hm, rfl⟩ <;> rfl
theorem appliesS_dead (s : WatchS) : (appliesS s).2.dead = s.dead := by
  unfold appliesS shiftAll
  repeat' split
  all_goals rfl
theorem answersS_dead (s : WatchS) (f : FrameS) (p : PartS) (h : (answersS s f p).1 = true) : (answersS s f p).2.dead = s.dead := by
  revert h
  unfold answersS
  repeat' split
  all_goals first | (intro h; rfl) | (intro h; cases h)
theorem sendsS_dead (s : WatchS) (f : FrameS) (p : PartS) : (sendsS s f p).2.dead = s.dead := by
  unfold sendsS sentTo
  repeat' split
  all_goals rfl
theorem rightS_dead (s : WatchS) (f : FrameS) (h : (rightS s f).1 = true) : (rightS s f).2.dead = s.dead := by
  revert h
  unfold rightS
  repeat' split
  all_goals first | (intro h; rfl) | (intro h; exact appliesS_dead s) | (intro h; exact answersS_dead s _ _ h) | (intro h; exact sendsS_dead s _ _)
theorem judged_dead {s : WatchS} {f : FrameS} (h : s.dead = false) : (judged (rightS s f)).dead = true → (judged (rightS s f)).bad = true := by
  unfold judged
  split
  · rename_i h1
    intro h2
    have h3 := rightS_dead s f h1
    simp only at h2
    rw [h2, h] at h3
    cases h3
  · intro _; rfl
theorem outLoop_dead : ∀ (n : Nat) {s : WatchS}, (s.dead = true → s.bad = true) → (outLoop n s).dead = true → (outLoop n s).bad = true
  | 0, _, h => h
  | n + 1, s, h => by
    unfold outLoop
    split
    · exact h
    rename_i h1
    split
    · exact h
    split
    · refine outLoop_dead n (judged_dead ?_)
      simp only
      cases hd : s.dead with
      | false => rfl
      | true => simp [h hd] at h1
    · intro _; rfl
theorem outS_dead {s : WatchS} (h : s.dead = true → s.bad = true) (l : List UInt8) : (outS s l).dead = true → (outS s l).bad = true := outLoop_dead _ h

def OutM (w : World) (b : Nat) (S : Own) (B : Nat) (fin : WatchS) (g : Nat) (wr : World) : Prop :=
  ∃ s v S1, WAt wr b v s S1 ∧ Upd S S1 w wr ∧ WOk B s ∧ (s.bad = true ∨ s.outB.length < g) ∧ Sim fin (outLoop g s) ∧ (s.dead = true → s.bad = true)
def OutQ (b : Nat) (fin : WatchS) (S : Own) (w : World) (e : Ending) (w' : World) : Prop :=
  e = .returned (.int .i64 (if fin.bad then 2 else 0)) ∧ ∃ v' S' s', Sim fin s' ∧ WAt w' b v' s' S' ∧ Upd S S' w w'

set_option maxRecDepth 100000 in
set_option maxHeartbeats 1000000 in
theorem out_any (w : World) (b : Nat) (v : Locs) (s : WatchS) (S : Own) (h : WAt w b v s S) (B : Nat) (hok : WOk B s) (hdead : s.dead = true → s.bad = true) (A : Option Addr) (c : Nat) (l : List UInt8) (hrd : Rd w 1 A l.length c (bys l)) (hA : ∀ k, blockOf A = some k → k < w.heap.size ∧ ¬ S k) (hB : B + l.length ≤ 1000000000) :
    Calls Tryd.prog 12 #[.pointer (some ⟨b, 0, none⟩), .slice A l.length c] w (OutQ b (outS s l) S w) := by
  obtain ⟨P1, hpar, hsub, hPb, hfin⟩ := h.focus1 1 rfl
  have e2 := h.blk.cell 2
  have hltb := h.blk.lt
  simp only [WatchS.cells, List.getElem?_cons_succ, List.getElem?_cons_zero] at e2
  have houtB := hok.outB
  have HOK2 := Lib.hid (outFed_ok hok l)
  have HFIN := Lib.hid (show outLoop ((s.outB ++ l).length + 1) { s with outB := s.outB ++ l } = outS s l from rfl)
  have HFE := Lib.hid (feed_any v.ob 16384 s.outB l P1 A c w hpar (hrd) (by omega))
  have HFO := Lib.hid hfin
  have HKB := Lib.hid h.kbs
  unfold FeedQ at HFE
  have HDE := Lib.hid hdead
  clear h hok hpar hrd hA hsub hfin hdead
  go_enter Tryd.func12, Tryd.ntmps12
  go_wp2_with (go_at_call 24; refine HFE.out.mono ?_; rintro e w2 ⟨rfl, P2, hp2, hu2⟩; obtain ⟨S2, k2, u2⟩ := HFO.out w2 P2 (parP v.ob 16384 (s.outB ++ l)) v { s with outB := s.outB ++ l } hp2 hu2 rfl HKB.out; have HK2 := Lib.hid k2; have HU2 := Lib.hid u2; clear k2 u2 hp2 hu2)
  clear HFE HFO HKB e2
  go_loopg [] (s.outB.length + l.length + 1) (fun g wr => OutM w b S (B + l.length) (outS s l) g wr)
  case atStart =>
    exact ⟨_, v, S2, HK2.out, HU2.out, HOK2.out, .inr (by simp), by rw [← HFIN.out, List.length_append]; exact Sim.refl _, HDE.out⟩
  case round =>
    obtain ⟨s1, v1, S3, hw, hu, hok, hlt, hfn, hde⟩ := hrel
    have HDE1 := Lib.hid hde
    clear hde HDE
    have r2 := hw.blk.cell 2
    have r4 := hw.blk.cell 4
    have r5 := hw.blk.cell 5
    have rf5 := hw.blk.frozen 5
    have hltb := hw.blk.lt
    simp only [WatchS.cells, List.getElem?_cons_succ, List.getElem?_cons_zero] at r2 r4 r5
    have HW := Lib.hid hw
    have HUU := Lib.hid hu
    have HOK := Lib.hid hok
    clear HOK2 HFIN HK2 HU2 hw hu
    cases hbad : s1.bad with
    | true =>
      rw [hbad] at r5
      have hf : Sim (outS s l) s1 := by
        cases gk with
        | zero => exact hfn
        | succ n => simpa [outLoop, hbad] using hfn
      have hb2 : (outS s l).bad = true := by rw [← hf.bad]; exact hbad
      have HF := Lib.hid hf
      have HB2 := Lib.hid hb2
      clear hok hlt hfn hf hb2
      go_wp2
      go_ret
      exact ⟨by rw [HB2.out]; rfl, v1, S3, s1, HF.out, HW.out, HUU.out⟩
    | false =>
      rw [hbad] at r5 hlt
      simp only [Bool.false_eq_true, false_or] at hlt
      obtain ⟨gn, hgn⟩ : ∃ gn, gk = gn + 1 := ⟨gk - 1, by omega⟩
      subst hgn
      cases hblind : s1.blind with
      | true =>
        rw [hblind] at r4
        have hf : Sim (outS s l) s1 := by simpa [outLoop, hbad, hblind] using hfn
        have hb2 : (outS s l).bad = false := by rw [← hf.bad]; exact hbad
        have HF := Lib.hid hf
        have HB2 := Lib.hid hb2
        clear hok hlt hfn hf hb2
        go_wp2
        go_ret
        exact ⟨by rw [HB2.out]; rfl, v1, S3, s1, HF.out, HW.out, HUU.out⟩
      | false =>
        rw [hblind] at r4
        have hbl : s1.outB.length ≤ 1000000000 := by have := hok.outB; omega
        have hfr : s1.frames ≤ 1000000000 := by have := hok.outB; omega
        obtain ⟨Q1, hpar1, hsub1, hQb, hfoc⟩ := HW.out.focus1 1 rfl
        have HN := Lib.hid (next_any v1.ob 16384 s1.outB Q1 wr hpar1 (by omega))
        have HFO := Lib.hid hfoc
        have HTK := Lib.hid (fun h0 => taken_ok hok hB (by simpa using h0))
        have HWI := Lib.hid (show outLoop (gn + 1) s1 = (if (nextS 16384 s1.outB).2.1 = 4 then s1 else if (nextS 16384 s1.outB).2.1 = 0 then outLoop gn (judged (rightS { s1 with outB := (nextS 16384 s1.outB).2.2 } (nextS 16384 s1.outB).1)) else { s1 with bad := true }) from by rw [outLoop, hbad, hblind]; simp)
        have hcases := nextS_cases s1.outB 16384 (by omega)
        have HFN := Lib.hid hfn
        unfold NextQ FrameS.v at HN
        clear hfn hpar1 hfoc
        generalize nextS 16384 s1.outB = r at *
        obtain ⟨f, e, rest⟩ := r
        simp only at HN HWI hcases HTK
        rcases hcases with ⟨rfl, rfl⟩ | ⟨rfl, rfl⟩ | ⟨rfl, hc1, hc2, hc3, hc4⟩
        · rw [if_pos rfl] at HWI
          have hf : Sim (outS s l) s1 := by have := HFN.out; rwa [HWI.out] at this
          have hb2 : (outS s l).bad = false := by rw [← hf.bad]; exact hbad
          have HF := Lib.hid hf
          have HB2 := Lib.hid hb2
          clear hok hlt hf hb2 HFN HWI HTK
          go_wp2_with (go_at_call 25; refine HN.out.mono ?_; rintro e w3 ⟨A3, c3, Sb, Sp, rfl, hrb, hpp, hsp, hup⟩; obtain ⟨S4, k4, u4⟩ := HFO.out w3 Sp (parP v1.ob 16384 s1.outB) v1 s1 hpp (hup.holds fun k hk => hup.own k (.inr hk)) rfl HW.out.kbs; have HK4 := Lib.hid k4; have HU4 := Lib.hid u4; have r5b := k4.blk.cell 5; have hltb2 := k4.blk.lt; simp only [WatchS.cells, List.getElem?_cons_succ, List.getElem?_cons_zero] at r5b; rw [hbad] at r5b; clear hup hpp hsp hrb k4 u4)
          go_ret
          exact ⟨by rw [HB2.out]; rfl, v1, S4, s1, HF.out, HK4.out.alloc _, (HUU.out.trans HU4.out).alloc _⟩
        · rw [if_neg (by decide), if_neg (by decide)] at HWI
          have hf : Sim (outS s l) { s1 with bad := true } := by have := HFN.out; rwa [HWI.out] at this
          have HF := Lib.hid hf
          clear hok hlt hf HFN HWI HTK
          go_wp2_with (go_at_call 25; refine HN.out.mono ?_; rintro e w3 ⟨A3, c3, Sb, Sp, rfl, hrb, hpp, hsp, hup⟩; obtain ⟨S4, k4, u4⟩ := HFO.out w3 Sp (parP v1.ob 16384 s1.outB) v1 { s1 with outB := s1.outB } hpp (hup.holds fun k hk => hup.own k (.inr hk)) rfl HW.out.kbs; obtain ⟨S5, k5, u5⟩ := k4.set 5 (.bool true) { s1 with outB := s1.outB, bad := true } rfl rfl rfl; have HK5 := Lib.hid (k5.alloc (.cells #[.int .i64 f.kind, .int .i64 f.flags, .int .i64 f.stream, .slice A3 f.body.length c3] 29)); have HU5 := Lib.hid (((HUU.out.trans u4).trans u5).alloc (.cells #[.int .i64 f.kind, .int .i64 f.flags, .int .i64 f.stream, .slice A3 f.body.length c3] 29)); have r5b := k4.blk.cell 5; have rf5b := k4.blk.frozen 5; have hltb2 := k4.blk.lt; simp only [WatchS.cells, List.getElem?_cons_succ, List.getElem?_cons_zero] at r5b; rw [hbad] at r5b; clear hup hpp hsp hrb k4 u4 k5 u5)
          go_roundg gn
          case measure => omega
          case rel =>
            refine ⟨{ s1 with bad := true }, v1, S5, HK5.out, HU5.out, ?_, .inl rfl, ?_, fun _ => rfl⟩
            · exact ⟨HOK.out.head, HOK.out.inB, HOK.out.outB, HOK.out.data, HOK.out.keys, HOK.out.wins, HOK.out.win, HOK.out.sets⟩
            · cases gn with
              | zero => exact HF.out
              | succ n => simpa [outLoop] using HF.out
        · rw [if_neg (by decide), if_pos rfl] at HWI
          have hd1 : s1.dead = false := by
            cases hd : s1.dead with
            | false => rfl
            | true => have := HDE1.out hd; rw [hbad] at this; cases this
          have houtB1 := hok.outB
          have hok2 : WOk (B + l.length) { s1 with outB := rest } := ⟨hok.head, hok.inB, by simp only; omega, fun x hx => by have := hok.data x hx; simp only; omega, hok.keys, hok.wins, hok.win, hok.sets⟩
          have HRI := Lib.hid (fun W S4 (k4 : WAt W b v1 { s1 with outB := rest } S4) A3 c3 hrb => right_any W b v1 _ S4 k4 hok2 hB hd1 f hc2 (by omega) (fun x hx => by have := hok.data x hx; omega) A3 c3 hrb)
          have hsim0 : Sim (outS s l) (outLoop gn (judged (rightS { s1 with outB := rest } f))) := by have := HFN.out; rwa [HWI.out] at this
          have hjok := HTK.out rfl
          have hjd := judged_dead (f := f) (show ({ s1 with outB := rest } : WatchS).dead = false from hd1)
          have hro := rightS_outB { s1 with outB := rest } f
          have hrf := rightS_frames { s1 with outB := rest } f
          have hrlt : rest.length < gn := by omega
          have hfb : s1.frames ≤ 1000000000 := by omega
          simp only at hro hrf
          generalize rightS { s1 with outB := rest } f = res at *
          obtain ⟨x, s2⟩ := res
          simp only at hro hrf
          unfold RightQ FrameS.v at HRI
          simp only at HRI
          have HS0 := Lib.hid hsim0
          have HJO := Lib.hid hjok
          have HJD := Lib.hid hjd
          have HRO := Lib.hid hro
          have HRF := Lib.hid hrf
          have HRL := Lib.hid hrlt
          clear hok hlt HFN HWI HTK hok2 hsim0 hjok hjd hro hrf hrlt hc1 hc2 hc3 hc4 houtB1 hd1
          cases x with
          | false =>
            go_wp2_with (first
              | (go_at_call 25; refine HN.out.mono ?_; rintro e w3 ⟨A3, c3, Sb, Sp, rfl, hrb, hpp, hsp, hup⟩; obtain ⟨S4, k4, u4⟩ := HFO.out w3 Sp (parP v1.ob 16384 rest) v1 { s1 with outB := rest } hpp (hup.holds fun k hk => hup.own k (.inr hk)) rfl HW.out.kbs; have HK5 := Lib.hid (k4.alloc (.cells #[.int .i64 f.kind, .int .i64 f.flags, .int .i64 f.stream, .slice A3 f.body.length c3] 29)); have HU5 := Lib.hid ((HUU.out.trans u4).alloc (.cells #[.int .i64 f.kind, .int .i64 f.flags, .int .i64 f.stream, .slice A3 f.body.length c3] 29)); have HRB := Lib.hid (hrb.rd.alloc (by omega) (.cells #[.int .i64 f.kind, .int .i64 f.flags, .int .i64 f.stream, .slice A3 f.body.length c3] 29)); have hltb2 := k4.blk.lt; clear hup hpp hsp hrb k4 u4)
              | (go_at_call 28; refine (HRI.out _ S4 HK5.out A3 c3 HRB.out).mono ?_; rintro e w5 ⟨rfl, v6, S6, s6, hsim, hk6, hu6⟩; have c5 := hk6.blk.cell 5; have fz5 := hk6.blk.frozen 5; have c17 := hk6.blk.cell 17; have fz17 := hk6.blk.frozen 17; have hltb3 := hk6.blk.lt; simp only [WatchS.cells, List.getElem?_cons_succ, List.getElem?_cons_zero] at c5 c17; rw [hsim.frames, HRF.out] at c17; have HSM := Lib.hid hsim; have HK6 := Lib.hid hk6; have HU6 := Lib.hid hu6; clear hsim hk6 hu6))
            go_roundg gn
            case measure => omega
            case rel =>
              obtain ⟨S7, k7, u7⟩ := HK6.out.set 5 (.bool true) { s6 with bad := true } rfl rfl rfl
              refine ⟨{ s6 with bad := true }, v6, S7, k7, (HU5.out.trans HU6.out).trans u7, ?_, .inl rfl, ?_, fun _ => rfl⟩
              · exact Sim.ok HJO.out (Sim.judged (x := false) HSM.out)
              · exact HS0.out.trans (Sim.loop (Sim.judged (x := false) HSM.out) gn)
          | true =>
            go_wp2_with (first
              | (go_at_call 25; refine HN.out.mono ?_; rintro e w3 ⟨A3, c3, Sb, Sp, rfl, hrb, hpp, hsp, hup⟩; obtain ⟨S4, k4, u4⟩ := HFO.out w3 Sp (parP v1.ob 16384 rest) v1 { s1 with outB := rest } hpp (hup.holds fun k hk => hup.own k (.inr hk)) rfl HW.out.kbs; have HK5 := Lib.hid (k4.alloc (.cells #[.int .i64 f.kind, .int .i64 f.flags, .int .i64 f.stream, .slice A3 f.body.length c3] 29)); have HU5 := Lib.hid ((HUU.out.trans u4).alloc (.cells #[.int .i64 f.kind, .int .i64 f.flags, .int .i64 f.stream, .slice A3 f.body.length c3] 29)); have HRB := Lib.hid (hrb.rd.alloc (by omega) (.cells #[.int .i64 f.kind, .int .i64 f.flags, .int .i64 f.stream, .slice A3 f.body.length c3] 29)); have hltb2 := k4.blk.lt; clear hup hpp hsp hrb k4 u4)
              | (go_at_call 28; refine (HRI.out _ S4 HK5.out A3 c3 HRB.out).mono ?_; rintro e w5 ⟨rfl, v6, S6, s6, hsim, hk6, hu6⟩; have c5 := hk6.blk.cell 5; have fz5 := hk6.blk.frozen 5; have c17 := hk6.blk.cell 17; have fz17 := hk6.blk.frozen 17; have hltb3 := hk6.blk.lt; simp only [WatchS.cells, List.getElem?_cons_succ, List.getElem?_cons_zero] at c5 c17; rw [hsim.frames, HRF.out] at c17; have HSM := Lib.hid hsim; have HK6 := Lib.hid hk6; have HU6 := Lib.hid hu6; clear hsim hk6 hu6))
            go_roundg gn
            case measure => omega
            case rel =>
              have e6 : s6.frames = s1.frames := HSM.out.frames.trans HRF.out
              obtain ⟨S7, k7, u7⟩ := HK6.out.set 5 (.bool false) { s6 with bad := false } rfl rfl rfl
              obtain ⟨S8, k8, u8⟩ := k7.set 17 (.int .i64 ((s6.frames + 1 : Nat) : Int)) { s6 with bad := false, frames := s6.frames + 1 } rfl rfl rfl
              rw [e6] at k8 u8
              refine ⟨{ s6 with bad := false, frames := s1.frames + 1 }, v6, S8, k8, ((HU5.out.trans HU6.out).trans u7).trans u8, ?_, .inr ?_, ?_, ?_⟩
              · have := Sim.ok HJO.out (Sim.judged (x := true) HSM.out)
                simpa [judged, e6] using this
              · show s6.outB.length < gn
                rw [HSM.out.outB, HRO.out]; exact HRL.out
              · have := HS0.out.trans (Sim.loop (Sim.judged (x := true) HSM.out) gn)
                simpa [judged, e6] using this
              · intro h1
                have h2 := HJD.out
                have h3 : s2.dead = true := by rw [← HSM.out.dead]; exact h1
                have h4 := h2 (by simpa [judged] using h3)
                simp [judged] at h4
end Go.Proofs.YthmfifcogokpoaaDoor
namespace Go.Proofs.YthmfifcogokpoaaDoor
open Go.RowKit

/-- The lowest n bytes of v, the greatest first. -/
def numB (v : Nat) : Nat → List UInt8
  | 0 => []
  | n + 1 => UInt8.ofNat (v / 2 ^ (8 * n)) :: numB v n
theorem numB_length (v n : Nat) : (numB v n).length = n := by
  induction n with
  | zero => rfl
  | succ n ih => simp [numB, ih]

set_option maxRecDepth 100000 in
theorem refNum_any (v n : Nat) (hv : v < 4294967296) (hn : n ≤ 8) (w : World) :
    Calls Tryd.prog 27 #[.int .i64 v, .int .i64 n] w fun e w' => ∃ A c S, e = .returned (.slice A (numB v n).length c) ∧ Row 5 1 A (numB v n).length c (bys (numB v n)) S w' ∧ Upd none_ S w w' := by
  go_enter Tryd.func27, Tryd.ntmps27
  go_wp2
  go_loopw [5, 6] (fun o i wr => ∃ (j : Nat) (l : List UInt8) (A : Option Addr) (c : Nat) (S : Own), j ≤ n ∧ i = .int .i64 ((j : Int) - 1) ∧ o = .slice A l.length c ∧ l ++ numB v j = numB v n ∧ Row 5 1 A l.length c (bys l) S wr ∧ Upd none_ S w wr) (fun o i _ => (intOf i + 1).toNat)
  case atStart =>
    exact ⟨n, [], none, 0, none_, Nat.le_refl _, rfl, rfl, rfl, Row.nil _ _ _, Upd.refl _ _⟩
  case round =>
    obtain ⟨j, l, A, c, S, hj, rfl, rfl, hl, hr, hu⟩ := hrel
    have hlen : l.length + j = n := by
      have := congrArg List.length hl
      rw [List.length_append, numB_length, numB_length] at this
      exact this
    cases j with
    | zero =>
      have HL := Lib.hid hl
      clear hl hlen
      go_wp2
      go_ret
      have h1 : l = numB v n := by have := HL.out; rwa [numB, List.append_nil] at this
      subst h1
      exact ⟨A, c, S, rfl, hr, hu⟩
    | succ j =>
      have HL := Lib.hid hl
      have HLEN := Lib.hid hlen
      have hx : by8 (UInt8.ofNat (v / 2 ^ (8 * j))) = .int .u8 ((v : Int) / 2 ^ (8 * j) % 256) := by
        simp [by8]
      have hrow : Row 5 1 A l.length c (bys l) S (wr.alloc (.cells #[.int .u8 ((v : Int) / 2 ^ (8 * j) % 256)] 5)) := hr.loc fun k hk => Below.heap_alloc wr _ k (hr.lt k hk)
      have hsrc : Src Tryd.prog (wr.alloc (.cells #[.int .u8 ((v : Int) / 2 ^ (8 * j) % 256)] 5)) 1 (.slice (some ⟨wr.heap.size, 0, none⟩) 1 1) 1 [.int .u8 ((v : Int) / 2 ^ (8 * j) % 256)] := Src.one_new wr _ _ rfl
      have HROW := Lib.hid hrow
      have HSRC := Lib.hid hsrc
      have HX := Lib.hid hx
      have HU := Lib.hid hu
      have h63 : l.length + 1 ≤ maxLen := by simp only [maxLen]; omega
      have hbb : (l.length + 1) * 1 ≤ big := by simp only [big]; omega
      clear hl hlen hx hrow hsrc hr hu
      go_wp2_with (at_builtin; refine wpList_append (by rfl) _ _ _ _ (by rfl) 5 1 1 tyBytes tyBytes.src A l.length c (bys l) S (.slice (some ⟨wr.heap.size, 0, none⟩) 1 1) 1 [.int .u8 ((v : Int) / 2 ^ (8 * j) % 256)] (by rfl) (by rfl) HROW.out HSRC.out h63 hbb ?_; intro A' c' w' S' hr2 hu2 ha2; clear ha2)
      go_roundw
      case rel =>
        refine ⟨j, l ++ [UInt8.ofNat (v / 2 ^ (8 * j))], A', c', S', by omega, ?_, by simp, ?_, ?_, ?_⟩
        · simp
        · rw [← HL.out]; simp [numB]
        · rw [bys_append, show bys [UInt8.ofNat (v / 2 ^ (8 * j))] = [.int .u8 ((v : Int) / 2 ^ (8 * j) % 256)] from by simp only [bys, List.map_cons, List.map_nil, HX.out], List.length_append]
          exact hr2
        · exact (HU.out.alloc _).trans hu2
      case measure => simp [intOf]
end Go.Proofs.YthmfifcogokpoaaDoor
namespace Go.Proofs.YthmfifcogokpoaaDoor
open Go.RowKit

/-- A frame's bytes. -/
def putB (f : FrameS) : List UInt8 := numB f.body.length 3 ++ [UInt8.ofNat f.kind, UInt8.ofNat f.flags] ++ numB f.stream 4 ++ f.body
def PutQ (l : List UInt8) (w : World) (e : Ending) (w' : World) : Prop := ∃ A c S, e = .returned (.tuple #[.slice A l.length c, .int .i64 0]) ∧ Row 5 1 A l.length c (bys l) S w' ∧ Upd none_ S w w'
noncomputable def putBody : Code := Tryd.f20.body.getD .skip
abbrev PutP (l : List UInt8) (w : World) : Exit → Act → World → Prop := bodyPost Tryd.prog Tryd.f20 (PutQ l w)
/-- A frame that can be written. -/
structure FrameS.Fits (f : FrameS) : Prop where
  kind : f.kind ≤ 255
  flags : f.flags ≤ 255
  stream : f.stream ≤ 2147483647
  body : f.body.length < 16777216

theorem bys_cells (l : List UInt8) : ∀ u ∈ bys l, u.oneCell' = true := bys_one l

set_option maxRecDepth 100000 in
theorem put_fin (f : FrameS) (hf : f.Fits) (A : Option Addr) (c : Nat) (w W : World) (fb : Nat) (hb : Blk W fb 29 [.int .i64 f.kind, .int .i64 f.flags, .int .i64 f.stream, .slice A f.body.length c]) (hrd : Rd W 1 A f.body.length c (bys f.body)) (hA : ∀ k, blockOf A = some k → k < W.heap.size)
    (o : List UInt8) (ho : o.length = 5) (A0 : Option Addr) (c0 : Nat) (S0 : Own) (hr : Row 5 1 A0 o.length c0 (bys o) S0 W) (hu : Upd none_ S0 w W) (hw : w.heap.size ≤ fb) (hS : ¬ S0 fb) (hSA : ∀ k, blockOf A = some k → ¬ S0 k) (u0 u2 u3 u5 u6 u7 u8 u9 u10 u11 u12 u13 u14 u15 u16 u17 u18 u19 u20 u21 u22 u23 u24 u25 u26 u27 u28 u29 u30 u31 u32 u33 u34 u35 u36 u37 u38 u39 u40 u41 u42 u43 u44 u45 u46 u47 u48 u49 u50 u51 u52 u53 u54 u55 u56 : Value) :
    tailW Tryd.prog 4 putBody (PutP (o ++ numB f.stream 4 ++ f.body) w) ⟨#[u0, .pointer (some ⟨fb, 0, none⟩), u2, u3, .slice A0 o.length c0, u5, u6, u7, u8, u9, u10, u11, u12, u13, u14, u15, u16, u17, u18, u19, u20, u21, u22, u23, u24, u25, u26, u27, u28, u29, u30, u31, u32, u33, u34, u35, u36, u37, u38, u39, u40, u41, u42, u43, u44, u45, u46, u47, u48, u49, u50, u51, u52, u53, u54, u55, u56], []⟩ W := by
  have f2 := hb.cell 2
  have f3 := hb.cell 3
  simp only [List.getElem?_cons_succ, List.getElem?_cons_zero] at f2 f3
  have hlt := hb.lt
  have HNUM := Lib.hid (fun W1 => refNum_any f.stream 4 (by have := hf.stream; omega) (by omega) W1)
  rw [numB_length] at HNUM
  have HKS := Lib.hid (show ∀ (W' : World) (S' : Own), Upd S0 S' W W' → W'.cell? ⟨fb, 2, none⟩ = some (.int .i64 f.stream) ∧ W'.cell? ⟨fb, 3, none⟩ = some (.slice A f.body.length c) from
    fun W' S' hu => ⟨(hu.cell (a := ⟨fb, 2, none⟩) hlt hS).trans f2, (hu.cell (a := ⟨fb, 3, none⟩) hlt hS).trans f3⟩)
  have HR := Lib.hid hr
  have HU := Lib.hid hu
  have HRD := Lib.hid hrd
  have HA := Lib.hid hA
  have HSA := Lib.hid hSA
  have hbl := hf.body
  have h631 : o.length + 4 ≤ maxLen := by simp only [maxLen]; omega
  have hbb1 : (o.length + 4) * 1 ≤ big := by simp only [big]; omega
  have h632 : o.length + 4 + f.body.length ≤ maxLen := by simp only [maxLen]; omega
  have hbb2 : (o.length + 4 + f.body.length) * 1 ≤ big := by simp only [big]; omega
  clear hr hu hrd hA hSA hb hf hw ho
  refine tail_step 4 putBody ?_
  show Code.wp _ _ _ _ _
  refine wp_region_S (fun W' => W'.cell? ⟨fb, 2, none⟩ = some (.int .i64 f.stream) ∧ W'.cell? ⟨fb, 3, none⟩ = some (.slice A f.body.length c)) 10 (by kernel_rfl) (⟨f2, f3⟩) (fun hHeld => ?_)
  refine AnyS_take (i := 0) (v := ?_) rfl (by kernel_rfl) (by kernel_rfl) (by kernel_rfl) (by kernel_rfl) (by kernel_rfl) (fun _ _ _ h => h) (Or.inl ⟨by rfl, ?_⟩) hHeld ?_
  rotate_left
  · intro w' hSw
    (try dsimp only at hSw)
    go_simp
    try with_reducible rfl
  try simp only [Act.put, List.setIfInBounds_toArray, List.set_cons_zero, List.set_cons_succ]
  refine AnyS_take (i := 1) (v := ?_) rfl (by kernel_rfl) (by kernel_rfl) (by kernel_rfl) (by kernel_rfl) (by kernel_rfl) (fun _ _ _ h => h) (Or.inl ⟨by rfl, ?_⟩) hHeld ?_
  rotate_left
  · intro w' hSw
    (try dsimp only at hSw)
    go_simp
    try with_reducible rfl
  try simp only [Act.put, List.setIfInBounds_toArray, List.set_cons_zero, List.set_cons_succ]
  refine AnyS_take (i := 2) (v := ?_) rfl (by kernel_rfl) (by kernel_rfl) (by kernel_rfl) (by kernel_rfl) (by kernel_rfl) (fun _ _ _ h => h) (Or.inl ⟨by rfl, ?_⟩) hHeld ?_
  rotate_left
  · intro w' hSw
    (try dsimp only at hSw)
    go_simp
    try with_reducible rfl
  try simp only [Act.put, List.setIfInBounds_toArray, List.set_cons_zero, List.set_cons_succ]
  refine AnyS_take (i := 5) (v := ?_) rfl (by kernel_rfl) (by kernel_rfl) (by kernel_rfl) (by kernel_rfl) (by kernel_rfl) (fun _ _ _ h => h) (Or.inl ⟨by rfl, ?_⟩) hHeld ?_
  rotate_left
  · intro w' hSw
    (try dsimp only at hSw)
    go_simp
    try with_reducible rfl
  try simp only [Act.put, List.setIfInBounds_toArray, List.set_cons_zero, List.set_cons_succ]
  refine AnyS_take (i := 6) (v := ?_) rfl (by kernel_rfl) (by kernel_rfl) (by kernel_rfl) (by kernel_rfl) (by kernel_rfl) (fun _ _ _ h => h) (Or.inl ⟨by rfl, ?_⟩) hHeld ?_
  rotate_left
  · intro w' hSw
    (try dsimp only at hSw)
    go_simp
    try with_reducible rfl
  try simp only [Act.put, List.setIfInBounds_toArray, List.set_cons_zero, List.set_cons_succ]
  refine AnyS_step (i := 3) rfl (by kernel_rfl) rfl (fun K hK => ?_)
  go_simp
  refine (HNUM.out _).mono ?_
  rintro e w1 ⟨A1, c1, S1, rfl, hr1, hu1⟩
  have hud : Upd S0 (or_ S0 S1) W w1 := (((Upd.refl S0 W).drew.trans (hu1.wider (R := S0) (fun _ h => h.elim))).holds fun k hk => by
    rcases hk with hk | hk
    · exact .inl hk
    · exact (hu1.own k hk).imp (fun h => h.elim) id)
  have hr2 : Row 5 1 A0 o.length c0 (bys o) S0 w1 := HR.out.loc fun k hk => hu1.block k (HR.out.lt k hk) (fun h => h)
  have HR1 := Lib.hid hr1
  have HR2 := Lib.hid hr2
  have HUD := Lib.hid hud
  clear hr1 hr2 hu1
  refine hK.out _ _ (HKS.out _ _ hud) (fun hHeld => ?_)
  clear hK K
  try simp only [Act.put, List.setIfInBounds_toArray, List.set_cons_zero, List.set_cons_succ]
  clear hud
  refine AnyS_step (i := 4) rfl (by kernel_rfl) rfl (fun K hK => ?_)
  refine wp_append _ _ _ _ (by rfl) 5 1 1 tyBytes tyBytes.src A0 o.length c0 (bys o) S0 (.slice A1 4 c1) 4 (bys (numB f.stream 4)) (by rfl) (by rfl) HR2.out (Src.of_rd HR1.out.rd (bys_one _)) h631 hbb1 ?_
  intro A5 c5 w5 S5 hr5 hu5 ha5
  have hud2 : Upd S0 S5 W w5 := (HUD.out.holds fun k hk => .inl hk).trans hu5
  have HR5 := Lib.hid hr5
  have HUD2 := Lib.hid hud2
  clear hr5 hu5 ha5
  refine hK.out _ _ (HKS.out _ _ hud2) (fun hHeld => ?_)
  clear hK K
  try simp only [Act.put, List.setIfInBounds_toArray, List.set_cons_zero, List.set_cons_succ]
  clear hud2
  refine AnyS_step (i := 7) rfl (by kernel_rfl) rfl (fun K hK => ?_)
  refine wp_append _ _ _ _ (by rfl) 5 1 1 tyBytes tyBytes.src A5 (o.length + 4) c5 (bys o ++ bys (numB f.stream 4)) S5 (.slice A f.body.length c) f.body.length (bys f.body) (by rfl) (by rfl) HR5.out (Src.of_rd (HRD.out.upd HUD2.out fun k hk => ⟨HA.out k hk, HSA.out k hk⟩) (bys_one _)) h632 hbb2 ?_
  intro A6 c6 w6 S6 hr6 hu6 ha6
  have HR6 := Lib.hid hr6
  have HUD3 := Lib.hid (HUD2.out.trans hu6)
  have hud3 := HUD2.out.trans hu6
  clear hr6 hu6 ha6
  refine hK.out _ _ (HKS.out _ _ hud3) (fun hHeld => ?_)
  clear hK K
  try simp only [Act.put, List.setIfInBounds_toArray, List.set_cons_zero, List.set_cons_succ]
  clear hud3
  refine AnyS_take (i := 8) (v := ?_) rfl (by kernel_rfl) (by kernel_rfl) (by kernel_rfl) (by kernel_rfl) (by kernel_rfl) (fun _ _ _ h => h) (Or.inl ⟨by rfl, ?_⟩) hHeld ?_
  rotate_left
  · intro w' hSw
    (try dsimp only at hSw)
    go_simp
    try with_reducible rfl
  try simp only [Act.put, List.setIfInBounds_toArray, List.set_cons_zero, List.set_cons_succ]
  refine AnyS_take (i := 9) (v := ?_) rfl (by kernel_rfl) (by kernel_rfl) (by kernel_rfl) (by kernel_rfl) (by kernel_rfl) (fun _ _ _ h => h) (Or.inl ⟨by rfl, ?_⟩) hHeld ?_
  rotate_left
  · intro w' hSw
    (try dsimp only at hSw)
    go_simp
    try with_reducible rfl
  try simp only [Act.put, List.setIfInBounds_toArray, List.set_cons_zero, List.set_cons_succ]
  refine AnyS_done (by kernel_rfl) (NoPanic.normal ?_) _
  try simp only [Act.put, List.setIfInBounds_toArray, List.set_cons_zero, List.set_cons_succ]
  show tailW _ _ _ _ _ _
  show Code.wp _ _ _ _ _
  go_wp2
  go_ret2
  refine ⟨A6, c6, S6, ?_, ?_, HU.out.trans HUD3.out⟩
  · simp [numB_length, Nat.add_assoc]
  · have := HR6.out
    rw [← bys_append, ← bys_append] at this
    simpa [numB_length, Nat.add_assoc] using this
end Go.Proofs.YthmfifcogokpoaaDoor
namespace Go.Proofs.YthmfifcogokpoaaDoor
open Go.RowKit

set_option maxRecDepth 100000 in
set_option maxHeartbeats 1000000 in
theorem refPut_any (f : FrameS) (hf : f.Fits) (A : Option Addr) (c : Nat) (w : World) (hrd : Rd w 1 A f.body.length c (bys f.body)) (hA : ∀ k, blockOf A = some k → k < w.heap.size) :
    Calls Tryd.prog 20 #[f.v A c] w (PutQ (putB f) w) := by
  have h1 := hf.kind
  have h2 := hf.flags
  have h3 := hf.stream
  have h4 := hf.body
  have t1 : decide ((255 : Int) < f.kind) = false := decide_eq_false (by omega)
  have t2 : decide ((255 : Int) < f.flags) = false := decide_eq_false (by omega)
  have t3 : decide ((2147483647 : Int) < f.stream) = false := decide_eq_false (by omega)
  have t4 : decide ((16777216 : Int) ≤ f.body.length) = false := decide_eq_false (by omega)
  have k1 : IntKind.u8.wrap (f.kind : Int) = f.kind := IntWalk.u8_in _ (by omega)
  have k2 : IntKind.u8.wrap (f.flags : Int) = f.flags := IntWalk.u8_in _ (by omega)
  have hx : bys (numB f.body.length 3) ++ [Value.int .u8 f.kind, Value.int .u8 f.flags] = bys (numB f.body.length 3 ++ [UInt8.ofNat f.kind, UInt8.ofNat f.flags]) := by
    rw [bys_append]
    congr 1
    simp only [bys, List.map_cons, List.map_nil, by8, UInt8.toNat_ofNat', Nat.reducePow]
    rw [Nat.mod_eq_of_lt (by omega), Nat.mod_eq_of_lt (by omega)]
  have h63 : 3 + 2 ≤ maxLen := by simp [maxLen]
  have hbb : (3 + 2) * 1 ≤ big := by simp [big]
  have HNUM := Lib.hid (fun W1 => refNum_any f.body.length 3 (by omega) (by omega) W1)
  rw [numB_length] at HNUM
  have HFIN := Lib.hid (show ∀ (W5 : World) (A0 : Option Addr) (c0 : Nat) (S0 : Own), Row 5 1 A0 (3 + 2) c0 (bys (numB f.body.length 3) ++ [Value.int .u8 f.kind, Value.int .u8 f.flags]) S0 W5 →
      Upd none_ S0 (w.alloc (.cells #[.int .i64 f.kind, .int .i64 f.flags, .int .i64 f.stream, .slice A f.body.length c] 29)) W5 → ∀ (u0 u2 u3 u5 u6 u7 u8 u9 u10 u11 u12 u13 u14 u15 u16 u17 u18 u19 u20 u21 u22 u23 u24 u25 u26 u27 u28 u29 u30 u31 u32 u33 u34 u35 u36 u37 u38 u39 u40 u41 u42 u43 u44 u45 u46 u47 u48 u49 u50 u51 u52 u53 u54 u55 u56 : Value),
      tailW Tryd.prog 4 putBody (PutP (putB f) w) ⟨#[u0, .pointer (some ⟨w.heap.size, 0, none⟩), u2, u3, .slice A0 (3 + 2) c0, u5, u6, u7, u8, u9, u10, u11, u12, u13, u14, u15, u16, u17, u18, u19, u20, u21, u22, u23, u24, u25, u26, u27, u28, u29, u30, u31, u32, u33, u34, u35, u36, u37, u38, u39, u40, u41, u42, u43, u44, u45, u46, u47, u48, u49, u50, u51, u52, u53, u54, u55, u56], []⟩ W5 from by
    intro W5 A0 c0 S0 hr hu
    intro u0 u2 u3 u5 u6 u7 u8 u9 u10 u11 u12 u13 u14 u15 u16 u17 u18 u19 u20 u21 u22 u23 u24 u25 u26 u27 u28 u29 u30 u31 u32 u33 u34 u35 u36 u37 u38 u39 u40 u41 u42 u43 u44 u45 u46 u47 u48 u49 u50 u51 u52 u53 u54 u55 u56
    rw [hx] at hr
    have hl : (numB f.body.length 3 ++ [UInt8.ofNat f.kind, UInt8.ofNat f.flags]).length = 3 + 2 := by simp [numB_length]
    have hS : ∀ k, S0 k → w.heap.size + 1 ≤ k := fun k hk => by
      rcases hu.own k hk with h | h
      · exact h.elim
      · simpa using h
    have hu2 : Upd none_ S0 w W5 := ((Upd.refl none_ w).alloc _).trans hu
    have key := put_fin f hf A c w W5 w.heap.size ((Blk.new w _ [.int .i64 f.kind, .int .i64 f.flags, .int .i64 f.stream, .slice A f.body.length c]).upd hu (fun h => h))
      (hrd.upd hu2 fun k hk => ⟨hA k hk, fun h => h⟩) (fun k hk => Nat.lt_of_lt_of_le (hA k hk) hu2.size) (numB f.body.length 3 ++ [UInt8.ofNat f.kind, UInt8.ofNat f.flags]) (by simp [numB_length]) A0 c0 S0 (by rw [hl]; exact hr) hu2 (Nat.le_refl _) (fun h => by have := hS _ h; omega) (fun k hk h => by have := hS _ h; have := hA k hk; omega) u0 u2 u3 u5 u6 u7 u8 u9 u10 u11 u12 u13 u14 u15 u16 u17 u18 u19 u20 u21 u22 u23 u24 u25 u26 u27 u28 u29 u30 u31 u32 u33 u34 u35 u36 u37 u38 u39 u40 u41 u42 u43 u44 u45 u46 u47 u48 u49 u50 u51 u52 u53 u54 u55 u56
    rw [hl] at key
    exact key)
  have hb := Blk.new w 29 [.int .i64 f.kind, .int .i64 f.flags, .int .i64 f.stream, .slice A f.body.length c]
  have f0 := hb.cell 0
  have f1 := hb.cell 1
  have f3 := hb.cell 3
  have hlt := hb.lt
  simp only [List.getElem?_cons_succ, List.getElem?_cons_zero] at f0 f1 f3
  have HKS := Lib.hid (show ∀ (W' : World) (S' : Own), Upd none_ S' (w.alloc (.cells #[.int .i64 f.kind, .int .i64 f.flags, .int .i64 f.stream, .slice A f.body.length c] 29)) W' → W'.cell? ⟨w.heap.size, 0, none⟩ = some (.int .i64 f.kind) ∧ W'.cell? ⟨w.heap.size, 1, none⟩ = some (.int .i64 f.flags) ∧ W'.cell? ⟨w.heap.size, 3, none⟩ = some (.slice A f.body.length c) from
    fun W' S' hu => ⟨(hu.cell (a := ⟨w.heap.size, 0, none⟩) hlt (fun h => h)).trans f0, (hu.cell (a := ⟨w.heap.size, 1, none⟩) hlt (fun h => h)).trans f1, (hu.cell (a := ⟨w.heap.size, 3, none⟩) hlt (fun h => h)).trans f3⟩)
  have HU0 := Lib.hid (show Upd none_ none_ (w.alloc (.cells #[.int .i64 f.kind, .int .i64 f.flags, .int .i64 f.stream, .slice A f.body.length c] 29)) (w.alloc (.cells #[.int .i64 f.kind, .int .i64 f.flags, .int .i64 f.stream, .slice A f.body.length c] 29)) from Upd.refl _ _)
  clear hf hrd hA hx hb hlt f0 f1 f3
  go_enter Tryd.func20, Tryd.ntmps20
  unfold FrameS.v
  refine wp_cut_as putBody (by kernel_rfl) 3 ?_
  show Code.wp _ _ _ _ _
  go_wp2
  show Code.wp _ _ _ _ _
  go_wp2
  show Code.wp _ _ _ _ _
  go_wp2
  show tailW _ _ _ _ _ _
  refine tail_step 3 putBody ?_
  show Code.wp _ _ _ _ _
  generalize w.alloc (.cells #[.int .i64 f.kind, .int .i64 f.flags, .int .i64 f.stream, .slice A f.body.length c] 29) = W0 at *
  refine wp_region_S (fun W' => W'.cell? ⟨w.heap.size, 0, none⟩ = some (.int .i64 f.kind) ∧ W'.cell? ⟨w.heap.size, 1, none⟩ = some (.int .i64 f.flags) ∧ W'.cell? ⟨w.heap.size, 3, none⟩ = some (.slice A f.body.length c)) 13 (by kernel_rfl) ((HKS.out _ _ HU0.out.drew)) (fun hHeld => ?_)
  refine AnyS_take (i := 0) (v := ?_) rfl (by kernel_rfl) (by kernel_rfl) (by kernel_rfl) (by kernel_rfl) (by kernel_rfl) (fun _ _ _ h => h) (Or.inl ⟨by rfl, ?_⟩) hHeld ?_
  rotate_left
  · intro w' hSw
    (try dsimp only at hSw)
    go_simp
    try with_reducible rfl
  try simp only [Act.put, List.setIfInBounds_toArray, List.set_cons_zero, List.set_cons_succ]
  refine AnyS_take (i := 1) (v := ?_) rfl (by kernel_rfl) (by kernel_rfl) (by kernel_rfl) (by kernel_rfl) (by kernel_rfl) (fun _ _ _ h => h) (Or.inl ⟨by rfl, ?_⟩) hHeld ?_
  rotate_left
  · intro w' hSw
    (try dsimp only at hSw)
    go_simp
    try with_reducible rfl
  try simp only [Act.put, List.setIfInBounds_toArray, List.set_cons_zero, List.set_cons_succ]
  refine AnyS_take (i := 2) (v := ?_) rfl (by kernel_rfl) (by kernel_rfl) (by kernel_rfl) (by kernel_rfl) (by kernel_rfl) (fun _ _ _ h => h) (Or.inl ⟨by rfl, ?_⟩) hHeld ?_
  rotate_left
  · intro w' hSw
    (try dsimp only at hSw)
    go_simp
    try with_reducible rfl
  try simp only [Act.put, List.setIfInBounds_toArray, List.set_cons_zero, List.set_cons_succ]
  refine AnyS_take (i := 4) (v := ?_) rfl (by kernel_rfl) (by kernel_rfl) (by kernel_rfl) (by kernel_rfl) (by kernel_rfl) (fun _ _ _ h => h) (Or.inl ⟨by rfl, ?_⟩) hHeld ?_
  rotate_left
  · intro w' hSw
    (try dsimp only at hSw)
    go_simp
    try with_reducible rfl
  try simp only [Act.put, List.setIfInBounds_toArray, List.set_cons_zero, List.set_cons_succ]
  refine AnyS_take (i := 5) (v := ?_) rfl (by kernel_rfl) (by kernel_rfl) (by kernel_rfl) (by kernel_rfl) (by kernel_rfl) (fun _ _ _ h => h) (Or.inl ⟨by rfl, ?_⟩) hHeld ?_
  rotate_left
  · intro w' hSw
    (try dsimp only at hSw)
    go_simp
    try with_reducible rfl
  try simp only [Act.put, List.setIfInBounds_toArray, List.set_cons_zero, List.set_cons_succ]
  refine AnyS_take (i := 6) (v := ?_) rfl (by kernel_rfl) (by kernel_rfl) (by kernel_rfl) (by kernel_rfl) (by kernel_rfl) (fun _ _ _ h => h) (Or.inl ⟨by rfl, ?_⟩) hHeld ?_
  rotate_left
  · intro w' hSw
    (try dsimp only at hSw)
    go_simp
    try with_reducible rfl
  try simp only [Act.put, List.setIfInBounds_toArray, List.set_cons_zero, List.set_cons_succ]
  refine AnyS_take (i := 7) (v := ?_) rfl (by kernel_rfl) (by kernel_rfl) (by kernel_rfl) (by kernel_rfl) (by kernel_rfl) (fun _ _ _ h => h) (Or.inl ⟨by rfl, ?_⟩) hHeld ?_
  rotate_left
  · intro w' hSw
    (try dsimp only at hSw)
    go_simp
    try with_reducible rfl
  try simp only [Act.put, List.setIfInBounds_toArray, List.set_cons_zero, List.set_cons_succ]
  refine AnyS_take (i := 8) (v := ?_) rfl (by kernel_rfl) (by kernel_rfl) (by kernel_rfl) (by kernel_rfl) (by kernel_rfl) (fun _ _ _ h => h) (Or.inl ⟨by rfl, ?_⟩) hHeld ?_
  rotate_left
  · intro w' hSw
    (try dsimp only at hSw)
    go_simp
    try with_reducible rfl
  try simp only [Act.put, List.setIfInBounds_toArray, List.set_cons_zero, List.set_cons_succ]
  refine AnyS_take (i := 9) (v := ?_) rfl (by kernel_rfl) (by kernel_rfl) (by kernel_rfl) (by kernel_rfl) (by kernel_rfl) (fun _ _ _ h => h) (Or.inl ⟨by rfl, ?_⟩) hHeld ?_
  rotate_left
  · intro w' hSw
    (try dsimp only at hSw)
    go_simp
    try with_reducible rfl
  try simp only [Act.put, List.setIfInBounds_toArray, List.set_cons_zero, List.set_cons_succ]
  refine AnyS_two (i := 3) (j := 10) rfl rfl (by kernel_rfl) rfl rfl (fun K hK => ?_) (fun K hK => ?_)
  · go_simp
    refine (HNUM.out _).mono ?_
    rintro e w1 ⟨A1, c1, S1, rfl, hr1, hu1⟩
    have HR1 := Lib.hid hr1
    have HUD1 := Lib.hid (HU0.out.drew.trans hu1)
    clear hr1 hu1
    refine hK.out _ _ (HKS.out _ _ HUD1.out) (fun hHeld => ?_)
    clear hK K
    try simp only [Act.put, List.setIfInBounds_toArray, List.set_cons_zero, List.set_cons_succ]
    refine AnyS_step (i := 10) rfl (by kernel_rfl) rfl (fun K hK => ?_)
    go_simp
    have HB2 := Lib.hid (Blk.new w1 5 [.int .u8 f.kind, .int .u8 f.flags])
    have HR2 := Lib.hid (HR1.out.loc fun k hk => Below.heap_alloc w1 (.cells #[.int .u8 f.kind, .int .u8 f.flags] 5) k (HR1.out.lt k hk))
    have HUD2 := Lib.hid (HUD1.out.alloc (.cells #[.int .u8 f.kind, .int .u8 f.flags] 5))
    refine hK.out _ _ (HKS.out _ _ HUD2.out) (fun hHeld => ?_)
    clear hK K
    try simp only [Act.put, List.setIfInBounds_toArray, List.set_cons_zero, List.set_cons_succ]
    clear hHeld
    have hHeld := HKS.out _ _ HUD2.out
    refine AnyS_step (i := 11) rfl (by kernel_rfl) rfl (fun K hK => ?_)
    refine wp_append _ _ _ _ (by rfl) 5 1 1 tyBytes tyBytes.src A1 3 c1 (bys (numB f.body.length 3)) S1 (.slice (some ⟨w1.heap.size, 0, none⟩) 2 2) 2 [.int .u8 f.kind, .int .u8 f.flags] (by rfl) (by rfl) HR2.out (Src.of_rd (Row.made (e := 5) (cs := [.int .u8 f.kind, .int .u8 f.flags]) HB2.out (Nat.le_refl _) (by simp [maxLen]) (by simp) rfl).rd (by simp [Value.oneCell'])) h63 hbb ?_
    intro A5 c5 w5 S5 hr5 hu5 ha5
    have HR5 := Lib.hid hr5
    have HUD5 := Lib.hid (HUD2.out.trans hu5)
    clear hr5 hu5 ha5
    refine hK.out _ _ (HKS.out _ _ HUD5.out) (fun hHeld => ?_)
    clear hK K
    try simp only [Act.put, List.setIfInBounds_toArray, List.set_cons_zero, List.set_cons_succ]
    refine AnyS_take (i := 12) (v := ?_) rfl (by kernel_rfl) (by kernel_rfl) (by kernel_rfl) (by kernel_rfl) (by kernel_rfl) (fun _ _ _ h => h) (Or.inl ⟨by rfl, ?_⟩) hHeld ?_
    rotate_left
    · intro w' hSw
      (try dsimp only at hSw)
      go_simp
      try with_reducible rfl
    try simp only [Act.put, List.setIfInBounds_toArray, List.set_cons_zero, List.set_cons_succ]
    refine AnyS_done (by kernel_rfl) (NoPanic.normal ?_) _
    try simp only [Act.put, List.setIfInBounds_toArray, List.set_cons_zero, List.set_cons_succ]
    show tailW _ _ _ _ _ _
    exact HFIN.out w5 A5 c5 S5 HR5.out HUD5.out _ _ _ _ _ _ _ _ _ _ _ _ _ _ _ _ _ _ _ _ _ _ _ _ _ _ _ _ _ _ _ _ _ _ _ _ _ _ _ _ _ _ _ _ _ _ _ _ _ _ _ _ _ _ _
  · go_simp
    have HB1 := Lib.hid (Blk.new W0.drew 5 [.int .u8 f.kind, .int .u8 f.flags])
    have HUD1 := Lib.hid (HU0.out.drew.alloc (.cells #[.int .u8 f.kind, .int .u8 f.flags] 5))
    refine hK.out _ _ (HKS.out _ _ HUD1.out) (fun hHeld => ?_)
    clear hK K
    try simp only [Act.put, List.setIfInBounds_toArray, List.set_cons_zero, List.set_cons_succ]
    refine AnyS_step (i := 3) rfl (by kernel_rfl) rfl (fun K hK => ?_)
    go_simp
    refine (HNUM.out _).mono ?_
    rintro e w1 ⟨A1, c1, S1, rfl, hr1, hu1⟩
    have HB2 := Lib.hid (HB1.out.upd hu1 (fun h => h))
    have HR2 := Lib.hid hr1
    have HUD2 := Lib.hid (HUD1.out.trans hu1)
    clear hr1 hu1
    refine hK.out _ _ (HKS.out _ _ HUD2.out) (fun hHeld => ?_)
    clear hK K
    try simp only [Act.put, List.setIfInBounds_toArray, List.set_cons_zero, List.set_cons_succ]
    clear hHeld
    have hHeld := HKS.out _ _ HUD2.out
    refine AnyS_step (i := 11) rfl (by kernel_rfl) rfl (fun K hK => ?_)
    refine wp_append _ _ _ _ (by rfl) 5 1 1 tyBytes tyBytes.src A1 3 c1 (bys (numB f.body.length 3)) S1 (.slice (some ⟨W0.heap.size, 0, none⟩) 2 2) 2 [.int .u8 f.kind, .int .u8 f.flags] (by rfl) (by rfl) HR2.out (Src.of_rd (Row.made (e := 5) (cs := [.int .u8 f.kind, .int .u8 f.flags]) HB2.out (Nat.le_refl _) (by simp [maxLen]) (by simp) rfl).rd (by simp [Value.oneCell'])) h63 hbb ?_
    intro A5 c5 w5 S5 hr5 hu5 ha5
    have HR5 := Lib.hid hr5
    have HUD5 := Lib.hid (HUD2.out.trans hu5)
    clear hr5 hu5 ha5
    refine hK.out _ _ (HKS.out _ _ HUD5.out) (fun hHeld => ?_)
    clear hK K
    try simp only [Act.put, List.setIfInBounds_toArray, List.set_cons_zero, List.set_cons_succ]
    refine AnyS_take (i := 12) (v := ?_) rfl (by kernel_rfl) (by kernel_rfl) (by kernel_rfl) (by kernel_rfl) (by kernel_rfl) (fun _ _ _ h => h) (Or.inl ⟨by rfl, ?_⟩) hHeld ?_
    rotate_left
    · intro w' hSw
      (try dsimp only at hSw)
      go_simp
      try with_reducible rfl
    try simp only [Act.put, List.setIfInBounds_toArray, List.set_cons_zero, List.set_cons_succ]
    refine AnyS_done (by kernel_rfl) (NoPanic.normal ?_) _
    try simp only [Act.put, List.setIfInBounds_toArray, List.set_cons_zero, List.set_cons_succ]
    show tailW _ _ _ _ _ _
    exact HFIN.out w5 A5 c5 S5 HR5.out HUD5.out _ _ _ _ _ _ _ _ _ _ _ _ _ _ _ _ _ _ _ _ _ _ _ _ _ _ _ _ _ _ _ _ _ _ _ _ _ _ _ _ _ _ _ _ _ _ _ _ _ _ _ _ _ _ _
end Go.Proofs.YthmfifcogokpoaaDoor
