/- What is proved here: contracts of the program's functions and plain lemmas that the claim's last text uses, in parts: In, with bytes that may be none. -/
import Derived.Test.YthmfifcogokpoaaDoorM30
set_option linter.unusedVariables false
set_option linter.unusedSimpArgs false
namespace Go.Proofs.YthmfifcogokpoaaDoor
open Go.RowKit

theorem rd_upd0 {S S' : Own} {w w' : World} {A : Option Addr} {n c : Nat} {xs : List Value} (h : Rd w 1 A n c xs) (hu : Upd S S' w w') (hn : 0 < n → ∀ b, blockOf A = some b → b < w.heap.size ∧ ¬ S b) : Rd w' 1 A n c xs := by
  by_cases h0 : 0 < n
  · exact h.upd hu (hn h0)
  · have h1 : n = 0 := by omega
    subst h1
    have hx : xs = [] := List.eq_nil_of_length_eq_zero (by simpa using h.len)
    subst hx
    exact ⟨h.le, h.cap, h.len, h.nil, fun ad ha => ⟨(h.at_ ad ha).1, fun j u hu => by cases hu⟩⟩

set_option maxRecDepth 100000 in
set_option maxHeartbeats 1000000 in
theorem in_any0 (w : World) (b : Nat) (v : Locs) (s : WatchS) (S : Own) (h : WAt w b v s S) (B : Nat) (hok : WOk B s) (A : Option Addr) (c : Nat) (l : List UInt8) (hrd : Rd w 1 A l.length c (bys l)) (hA : 0 < l.length → ∀ k, blockOf A = some k → k < w.heap.size ∧ ¬ S k) (hB : B + l.length ≤ 1000000000) :
    Calls Tryd.prog 9 #[.pointer (some ⟨b, 0, none⟩), .slice A l.length c] w (HearsQ b (inS s l) S w) := by
  have e0 := h.blk.cell 0
  have f0 := h.blk.frozen 0
  simp only [WatchS.cells, List.getElem?_cons_zero] at e0
  have hhead := hok.head
  have hlen := hrd.le
  generalize hn : min (24 - s.head) l.length = n at *
  have hmin : min (24 - (s.head : Int)) (l.length : Int) = (n : Int) := by omega
  obtain ⟨m, hm⟩ : ∃ m, s.head + n = m := ⟨_, rfl⟩
  obtain ⟨S1, k1, u1⟩ := h.set 0 (.int .i64 m) { s with head := m } rfl rfl rfl
  obtain ⟨A1, c1, hsl, hr1⟩ := (rd_upd0 hrd u1 hA).cut n (by omega)
  obtain ⟨d, hd⟩ : ∃ d, l.drop n = d := ⟨_, rfl⟩
  have hdl : d.length ≤ l.length := by rw [← hd, List.length_drop]; omega
  have hinB := hok.inB
  rw [hd] at hsl hr1
  have hHD : (s.head : Int) + (n : Int) = (m : Int) := by omega
  have HTK := Lib.hid (show takeS s l = { s with head := m, inB := s.inB ++ d } from by simp only [takeS, hn, hm, hd])
  have HOK2 := Lib.hid (takeS_ok hok l)
  have HFIN := Lib.hid (show inLoop ((takeS s l).inB.length + 1) (takeS s l) = inS s l from rfl)
  have HU := Lib.hid u1
  have HK := Lib.hid k1
  have hn1 : n ≤ 24 := by omega
  have hn2 : m ≤ 24 := by omega
  have HNL := Lib.hid (show n ≤ l.length from by omega)
  clear h hok u1 k1 hn hm hd
  go_enter Tryd.func9, Tryd.ntmps9
  go_wp2
  obtain ⟨P1, hpar, hsub, hPb, hfin⟩ := HK.out.focus1 0 rfl
  have w1 := HK.out.blk.cell 1
  have hltb := HK.out.blk.lt
  simp only [WatchS.cells, List.getElem?_cons_succ, List.getElem?_cons_zero] at w1
  clear hmin hHD e0 f0 hrd hA
  generalize w.setCell ⟨b, 0, none⟩ (.int .i64 m) = W1 at *
  refine wp_region_S (fun W => W.cell? ⟨b, 1, none⟩ = some (.pointer (some ⟨v.ib, 0, none⟩))) 8 (by kernel_rfl) (w1) (fun hHeld => ?_)
  refine AnyS_take (i := 0) (v := ?_) rfl (by kernel_rfl) (by kernel_rfl) (by kernel_rfl) (by kernel_rfl) (by kernel_rfl) (fun _ _ _ h => h) (Or.inl ⟨by rfl, ?_⟩) hHeld ?_
  rotate_left
  · intro w' hSw
    (try dsimp only at hSw)
    go_simp
    try with_reducible rfl
  try simp only [Act.put, List.setIfInBounds_toArray, List.set_cons_zero, List.set_cons_succ]
  refine AnyS_take (i := 1) (v := ?_) rfl (by kernel_rfl) (by kernel_rfl) (by kernel_rfl) (by kernel_rfl) (by kernel_rfl) (fun _ _ _ h => h) (Or.inl ⟨by rfl, ?_⟩) hHeld ?_
  rotate_left
  · intro w' hSw
    (try dsimp only at hSw)
    go_simp
    try with_reducible rfl
  try simp only [Act.put, List.setIfInBounds_toArray, List.set_cons_zero, List.set_cons_succ]
  refine AnyS_take (i := 2) (v := ?_) rfl (by kernel_rfl) (by kernel_rfl) (by kernel_rfl) (by kernel_rfl) (by kernel_rfl) (fun _ _ _ h => h) (Or.inl ⟨by rfl, ?_⟩) hHeld ?_
  rotate_left
  · intro w' hSw
    (try dsimp only at hSw)
    go_simp
    try with_reducible rfl
  try simp only [Act.put, List.setIfInBounds_toArray, List.set_cons_zero, List.set_cons_succ]
  refine AnyS_take (i := 3) (v := ?_) rfl (by kernel_rfl) (by kernel_rfl) (by kernel_rfl) (by kernel_rfl) (by kernel_rfl) (fun _ _ _ h => h) (Or.inl ⟨by rfl, ?_⟩) hHeld ?_
  rotate_left
  · intro w' hSw
    (try dsimp only at hSw)
    go_simp
    try with_reducible rfl
  try simp only [Act.put, List.setIfInBounds_toArray, List.set_cons_zero, List.set_cons_succ]
  refine AnyS_take (i := 4) (v := ?_) rfl (by kernel_rfl) (by kernel_rfl) (by kernel_rfl) (by kernel_rfl) (by kernel_rfl) (fun _ _ _ h => h) (Or.inl ⟨by rfl, ?_⟩) hHeld ?_
  rotate_left
  · intro w' hSw
    (try dsimp only at hSw)
    go_simp
    try with_reducible rfl
  try simp only [Act.put, List.setIfInBounds_toArray, List.set_cons_zero, List.set_cons_succ]
  refine AnyS_take (i := 5) (v := ?_) rfl (by kernel_rfl) (by kernel_rfl) (by kernel_rfl) (by kernel_rfl) (by kernel_rfl) (fun _ _ _ h => h) (Or.inl ⟨by rfl, ?_⟩) hHeld ?_
  rotate_left
  · intro w' hSw
    (try dsimp only at hSw)
    go_simp
    try with_reducible rfl
  try simp only [Act.put, List.setIfInBounds_toArray, List.set_cons_zero, List.set_cons_succ]
  refine AnyS_take (i := 6) (v := ?_) rfl (by kernel_rfl) (by kernel_rfl) (by kernel_rfl) (by kernel_rfl) (by kernel_rfl) (fun _ _ _ h => h) (Or.inl ⟨by rfl, ?_⟩) hHeld ?_
  rotate_left
  · intro w' hSw
    (try dsimp only at hSw)
    go_simp
    try with_reducible rfl
  try simp only [Act.put, List.setIfInBounds_toArray, List.set_cons_zero, List.set_cons_succ]
  refine AnyS_step (i := 7) rfl (by kernel_rfl) rfl (fun K hK => ?_)
  go_simp
  refine (feed_any v.ib 16384 s.inB d P1 A1 c1 W1.drew (ParserAt.loc hpar fun _ _ => rfl) (hr1.keep fun _ _ => rfl) (by omega)).mono ?_
  rintro e w2 ⟨rfl, P2, hp2, hu2⟩
  obtain ⟨S2, k2, u2⟩ := hfin w2 P2 (parP v.ib 16384 (s.inB ++ d)) v { s with head := m, inB := s.inB ++ d } hp2 (((Upd.refl P1 W1).drew).trans hu2) rfl HK.out.kbs
  refine hK.out _ _ ((hu2.cell (a := ⟨b, 1, none⟩) hltb hPb).trans hHeld) (fun hHeld => ?_)
  clear hK K
  try simp only [Act.put, List.setIfInBounds_toArray, List.set_cons_zero, List.set_cons_succ]
  refine AnyS_done (by kernel_rfl) (NoPanic.normal ?_) _
  try simp only [Act.put, List.setIfInBounds_toArray, List.set_cons_zero, List.set_cons_succ]
  have HK2 := Lib.hid k2
  have HU2 := Lib.hid (HU.out.trans u2)
  clear k2 u2 hfin hp2 hu2 hpar hsub hHeld w1 hltb hr1 HK HU
  rw [HTK.out] at HOK2 HFIN
  clear HTK
  go_wp2
  go_loopg [] (s.inB.length + d.length + 1) (fun g wr => InM w b S (B + l.length) (inS s l) g wr)
  case atStart =>
    exact ⟨_, v, S2, HK2.out, HU2.out, HOK2.out, .inr (by simp), by simpa using HFIN.out⟩
  case round =>
    obtain ⟨s1, v1, S3, hw, hu, hok, hlt, hfn⟩ := hrel
    have r1 := hw.blk.cell 1
    have r3 := hw.blk.cell 3
    have r4 := hw.blk.cell 4
    have rf3 := hw.blk.frozen 3
    have hltb := hw.blk.lt
    simp only [WatchS.cells, List.getElem?_cons_succ, List.getElem?_cons_zero] at r1 r3 r4
    have HW := Lib.hid hw
    have HUU := Lib.hid hu
    have HOK := Lib.hid hok
    clear HOK2 HFIN HK2 HU2 hw hu
    cases hdeaf : s1.deaf with
    | true =>
      rw [hdeaf] at r3
      have hf : s1 = inS s l := by
        rw [← hfn]
        cases gk with
        | zero => rfl
        | succ n => simp [inLoop, hdeaf]
      have HF := Lib.hid hf
      clear hok hlt hfn hf
      go_wp2
      go_end0
      rw [← HF.out]
      exact ⟨rfl, v1, S3, HW.out, HUU.out⟩
    | false =>
      rw [hdeaf] at r3 hlt
      simp only [Bool.false_eq_true, false_or] at hlt
      obtain ⟨gn, hgn⟩ : ∃ gn, gk = gn + 1 := ⟨gk - 1, by omega⟩
      subst hgn
      cases hblind : s1.blind with
      | true =>
        rw [hblind] at r4
        have hf : s1 = inS s l := by
          rw [← hfn]
          simp [inLoop, hdeaf, hblind]
        have HF := Lib.hid hf
        clear hok hlt hfn hf
        go_wp2
        go_end0
        rw [← HF.out]
        exact ⟨rfl, v1, S3, HW.out, HUU.out⟩
      | false =>
        rw [hblind] at r4
        have hbl : s1.inB.length ≤ 1000000000 := by have := hok.inB; omega
        obtain ⟨Q1, hpar1, hsub1, hQb, hfoc⟩ := HW.out.focus1 0 rfl
        have HN := Lib.hid (next_any v1.ib 16384 s1.inB Q1 wr hpar1 (by omega))
        have HFO := Lib.hid hfoc
        have HWI := Lib.hid (show inLoop (gn + 1) s1 = (if (nextS 16384 s1.inB).2.1 = 4 then s1 else if (nextS 16384 s1.inB).2.1 = 0 then inLoop gn (hearsS { s1 with inB := (nextS 16384 s1.inB).2.2, deaf := false } (nextS 16384 s1.inB).1) else { s1 with deaf := true }) from by simp [inLoop, hdeaf, hblind])
        have hcases := nextS_cases s1.inB 16384 (by omega)
        rw [hfn] at HWI
        unfold NextQ FrameS.v at HN
        clear hfn hpar1 hfoc
        generalize nextS 16384 s1.inB = r at *
        obtain ⟨f, e, rest⟩ := r
        simp only at HN HWI hcases
        rcases hcases with ⟨rfl, rfl⟩ | ⟨rfl, rfl⟩ | ⟨rfl, hc1, hc2, hc3, hc4⟩
        · rw [if_pos rfl] at HWI
          clear hok hlt
          go_wp2_with (go_at_call 25; refine HN.out.mono ?_; rintro e w3 ⟨A3, c3, Sb, Sp, rfl, hrb, hpp, hsp, hup⟩; have HUP := Lib.hid hup; have HPP := Lib.hid hpp; have HRB := Lib.hid hrb; skip; clear hup hpp hsp hrb)
          refine bodyPost_ret (results_none rfl _ _ _) rfl ?_
          obtain ⟨S4, k4, u4⟩ := HFO.out w3 Sp (parP v1.ib 16384 s1.inB) v1 s1 HPP.out (HUP.out.holds fun k hk => HUP.out.own k (.inr hk)) rfl HW.out.kbs
          rw [HWI.out]
          exact ⟨rfl, v1, S4, k4.alloc _, (HUU.out.trans u4).alloc _⟩
        · rw [if_neg (by decide), if_neg (by decide)] at HWI
          clear hok hlt
          go_wp2_with (go_at_call 25; refine HN.out.mono ?_; rintro e w3 ⟨A3, c3, Sb, Sp, rfl, hrb, hpp, hsp, hup⟩; obtain ⟨S4, k4, u4⟩ := HFO.out w3 Sp (parP v1.ib 16384 s1.inB) v1 { s1 with inB := s1.inB } hpp (hup.holds fun k hk => hup.own k (.inr hk)) rfl HW.out.kbs; obtain ⟨S5, k5, u5⟩ := k4.set 3 (.bool true) { s1 with inB := s1.inB, deaf := true } rfl rfl rfl; have HK5 := Lib.hid (k5.alloc (.cells #[.int .i64 f.kind, .int .i64 f.flags, .int .i64 f.stream, .slice A3 f.body.length c3] 29)); have HU5 := Lib.hid (((HUU.out.trans u4).trans u5).alloc (.cells #[.int .i64 f.kind, .int .i64 f.flags, .int .i64 f.stream, .slice A3 f.body.length c3] 29)); have hnb : ¬ Sb b := (fun h => (hup.own b (.inl h)).elim hQb (fun h2 => Nat.lt_irrefl _ (Nat.lt_of_lt_of_le hltb h2))); have HRB := Lib.hid (show Rd ((w3.setCell ⟨b, 3, none⟩ (.bool true)).alloc (.cells #[.int .i64 f.kind, .int .i64 f.flags, .int .i64 f.stream, .slice A3 f.body.length c3] 29)) 1 A3 f.body.length c3 (bys f.body) from ((hrb.loc (w' := w3.setCell ⟨b, 3, none⟩ (.bool true)) fun k hk => heap_set_other _ (fun h => hnb (by rw [← show k = b from h]; exact hk))).rd).alloc (by omega) _); have r3b := k4.blk.cell 3; have r3c := k5.blk.cell 3; have rf3b := k4.blk.frozen 3; have hltb2 := k4.blk.lt; simp only [WatchS.cells, List.getElem?_cons_succ, List.getElem?_cons_zero] at r3b r3c; clear k4 u4 k5 u5 hup hpp hsp hrb hnb)
          go_roundg gn
          case measure => omega
          case rel =>
            refine ⟨{ s1 with deaf := true }, v1, S5, HK5.out, HU5.out, ?_, .inl rfl, ?_⟩
            · exact ⟨HOK.out.head, HOK.out.inB, HOK.out.outB, HOK.out.data, HOK.out.keys, HOK.out.wins, HOK.out.win, HOK.out.sets⟩
            · rw [HWI.out]
              cases gn <;> simp [inLoop]
        · rw [if_neg (by decide), if_pos rfl] at HWI
          have hok2 : WOk (B + l.length) { s1 with inB := rest, deaf := false } := ⟨hok.head, by have := hok.inB; simp only; omega, hok.outB, hok.data, hok.keys, hok.wins, hok.win, hok.sets⟩
          have hok3 := hearsS_ok hok2 (by have := hok.inB; simp only; omega) f
          have hlen3 : rest.length < gn := by omega
          have HL3 := Lib.hid hlen3
          have HOK3 := Lib.hid hok3
          have HHE := Lib.hid (fun W S4 (k4 : WAt W b v1 { s1 with inB := rest, deaf := false } S4) A3 c3 hrb => hears_any W b v1 _ S4 k4 hok2.win hok2.wins hok2.keys (by have := hok2.inB; simp only at this ⊢; omega) f hc2 A3 c3 hrb)
          unfold FrameS.v HearsQ at HHE
          clear hok hlt hok2 hok3 hlen3 hc1 hc2 hc3 hc4
          go_wp2_with (first | (go_at_call 25; refine HN.out.mono ?_; rintro e w3 ⟨A3, c3, Sb, Sp, rfl, hrb, hpp, hsp, hup⟩; obtain ⟨S4, k4, u4⟩ := HFO.out w3 Sp (parP v1.ib 16384 rest) v1 { s1 with inB := rest } hpp (hup.holds fun k hk => hup.own k (.inr hk)) rfl HW.out.kbs; obtain ⟨S5, k5, u5⟩ := k4.set 3 (.bool false) { s1 with inB := rest, deaf := false } rfl rfl rfl; have HK5 := Lib.hid (k5.alloc (.cells #[.int .i64 f.kind, .int .i64 f.flags, .int .i64 f.stream, .slice A3 f.body.length c3] 29)); have HU5 := Lib.hid (((HUU.out.trans u4).trans u5).alloc (.cells #[.int .i64 f.kind, .int .i64 f.flags, .int .i64 f.stream, .slice A3 f.body.length c3] 29)); have hnb : ¬ Sb b := (fun h => (hup.own b (.inl h)).elim hQb (fun h2 => Nat.lt_irrefl _ (Nat.lt_of_lt_of_le hltb h2))); have HRB := Lib.hid (show Rd ((w3.setCell ⟨b, 3, none⟩ (.bool false)).alloc (.cells #[.int .i64 f.kind, .int .i64 f.flags, .int .i64 f.stream, .slice A3 f.body.length c3] 29)) 1 A3 f.body.length c3 (bys f.body) from ((hrb.loc (w' := w3.setCell ⟨b, 3, none⟩ (.bool false)) fun k hk => heap_set_other _ (fun h => hnb (by rw [← show k = b from h]; exact hk))).rd).alloc (by omega) _); have r3b := k4.blk.cell 3; have r3c := k5.blk.cell 3; have rf3b := k4.blk.frozen 3; have hltb2 := k4.blk.lt; simp only [WatchS.cells, List.getElem?_cons_succ, List.getElem?_cons_zero] at r3b r3c; clear k4 u4 k5 u5 hup hpp hsp hrb hnb) | (go_at_call 26; refine (HHE.out _ S5 HK5.out A3 c3 HRB.out).mono ?_; rintro e w5 ⟨rfl, v6, S6, hk6, hu6⟩; have HK6 := Lib.hid hk6; have HU6 := Lib.hid hu6; clear hk6 hu6))
          go_roundg gn
          case measure => omega
          case rel =>
            exact ⟨_, v6, S6, HK6.out, HU5.out.trans HU6.out, HOK3.out, .inr (by rw [hearsS_inB]; exact HL3.out), HWI.out.symm⟩

set_option maxRecDepth 100000 in
set_option maxHeartbeats 1000000 in
theorem out_any0 (w : World) (b : Nat) (v : Locs) (s : WatchS) (S : Own) (h : WAt w b v s S) (B : Nat) (hok : WOk B s) (hdead : s.dead = true → s.bad = true) (A : Option Addr) (c : Nat) (l : List UInt8) (hrd : Rd w 1 A l.length c (bys l)) (hB : B + l.length ≤ 1000000000) :
    Calls Tryd.prog 12 #[.pointer (some ⟨b, 0, none⟩), .slice A l.length c] w (OutQ b (outS s l) S w) := by
  obtain ⟨P1, hpar, hsub, hPb, hfin⟩ := h.focus1 1 rfl
  have e2 := h.blk.cell 2
  have hltb := h.blk.lt
  simp only [WatchS.cells, List.getElem?_cons_succ, List.getElem?_cons_zero] at e2
  have houtB := hok.outB
  have HOK2 := Lib.hid (outFed_ok hok l)
  have HFIN := Lib.hid (show outLoop ((s.outB ++ l).length + 1) { s with outB := s.outB ++ l } = outS s l from rfl)
  have HFE := Lib.hid (feed_any v.ob 16384 s.outB l P1 A c w hpar (hrd) (by omega))
  have HFO := Lib.hid hfin
  have HKB := Lib.hid h.kbs
  unfold FeedQ at HFE
  have HDE := Lib.hid hdead
  clear h hok hpar hrd hsub hfin hdead
  go_enter Tryd.func12, Tryd.ntmps12
  go_wp2_with (go_at_call 24; refine HFE.out.mono ?_; rintro e w2 ⟨rfl, P2, hp2, hu2⟩; obtain ⟨S2, k2, u2⟩ := HFO.out w2 P2 (parP v.ob 16384 (s.outB ++ l)) v { s with outB := s.outB ++ l } hp2 hu2 rfl HKB.out; have HK2 := Lib.hid k2; have HU2 := Lib.hid u2; clear k2 u2 hp2 hu2)
  clear HFE HFO HKB e2
  go_loopg [] (s.outB.length + l.length + 1) (fun g wr => OutM w b S (B + l.length) (outS s l) g wr)
  case atStart =>
    exact ⟨_, v, S2, HK2.out, HU2.out, HOK2.out, .inr (by simp), by rw [← HFIN.out, List.length_append]; exact Sim.refl _, HDE.out⟩
  case round =>
    obtain ⟨s1, v1, S3, hw, hu, hok, hlt, hfn, hde⟩ := hrel
    have HDE1 := Lib.hid hde
    clear hde HDE
    have r2 := hw.blk.cell 2
    have r4 := hw.blk.cell 4
    have r5 := hw.blk.cell 5
    have rf5 := hw.blk.frozen 5
    have hltb := hw.blk.lt
    simp only [WatchS.cells, List.getElem?_cons_succ, List.getElem?_cons_zero] at r2 r4 r5
    have HW := Lib.hid hw
    have HUU := Lib.hid hu
    have HOK := Lib.hid hok
    clear HOK2 HFIN HK2 HU2 hw hu
    cases hbad : s1.bad with
    | true =>
      rw [hbad] at r5
      have hf : Sim (outS s l) s1 := by
        cases gk with
        | zero => exact hfn
        | succ n => simpa [outLoop, hbad] using hfn
      have hb2 : (outS s l).bad = true := by rw [← hf.bad]; exact hbad
      have HF := Lib.hid hf
      have HB2 := Lib.hid hb2
      clear hok hlt hfn hf hb2
      go_wp2
      go_ret
      exact ⟨by rw [HB2.out]; rfl, v1, S3, s1, HF.out, HW.out, HUU.out⟩
    | false =>
      rw [hbad] at r5 hlt
      simp only [Bool.false_eq_true, false_or] at hlt
      obtain ⟨gn, hgn⟩ : ∃ gn, gk = gn + 1 := ⟨gk - 1, by omega⟩
      subst hgn
      cases hblind : s1.blind with
      | true =>
        rw [hblind] at r4
        have hf : Sim (outS s l) s1 := by simpa [outLoop, hbad, hblind] using hfn
        have hb2 : (outS s l).bad = false := by rw [← hf.bad]; exact hbad
        have HF := Lib.hid hf
        have HB2 := Lib.hid hb2
        clear hok hlt hfn hf hb2
        go_wp2
        go_ret
        exact ⟨by rw [HB2.out]; rfl, v1, S3, s1, HF.out, HW.out, HUU.out⟩
      | false =>
        rw [hblind] at r4
        have hbl : s1.outB.length ≤ 1000000000 := by have := hok.outB; omega
        have hfr : s1.frames ≤ 1000000000 := by have := hok.outB; omega
        obtain ⟨Q1, hpar1, hsub1, hQb, hfoc⟩ := HW.out.focus1 1 rfl
        have HN := Lib.hid (next_any v1.ob 16384 s1.outB Q1 wr hpar1 (by omega))
        have HFO := Lib.hid hfoc
        have HTK := Lib.hid (fun h0 => taken_ok hok hB (by simpa using h0))
        have HWI := Lib.hid (show outLoop (gn + 1) s1 = (if (nextS 16384 s1.outB).2.1 = 4 then s1 else if (nextS 16384 s1.outB).2.1 = 0 then outLoop gn (judged (rightS { s1 with outB := (nextS 16384 s1.outB).2.2 } (nextS 16384 s1.outB).1)) else { s1 with bad := true }) from by rw [outLoop, hbad, hblind]; simp)
        have hcases := nextS_cases s1.outB 16384 (by omega)
        have HFN := Lib.hid hfn
        unfold NextQ FrameS.v at HN
        clear hfn hpar1 hfoc
        generalize nextS 16384 s1.outB = r at *
        obtain ⟨f, e, rest⟩ := r
        simp only at HN HWI hcases HTK
        rcases hcases with ⟨rfl, rfl⟩ | ⟨rfl, rfl⟩ | ⟨rfl, hc1, hc2, hc3, hc4⟩
        · rw [if_pos rfl] at HWI
          have hf : Sim (outS s l) s1 := by have := HFN.out; rwa [HWI.out] at this
          have hb2 : (outS s l).bad = false := by rw [← hf.bad]; exact hbad
          have HF := Lib.hid hf
          have HB2 := Lib.hid hb2
          clear hok hlt hf hb2 HFN HWI HTK
          go_wp2_with (go_at_call 25; refine HN.out.mono ?_; rintro e w3 ⟨A3, c3, Sb, Sp, rfl, hrb, hpp, hsp, hup⟩; obtain ⟨S4, k4, u4⟩ := HFO.out w3 Sp (parP v1.ob 16384 s1.outB) v1 s1 hpp (hup.holds fun k hk => hup.own k (.inr hk)) rfl HW.out.kbs; have HK4 := Lib.hid k4; have HU4 := Lib.hid u4; have r5b := k4.blk.cell 5; have hltb2 := k4.blk.lt; simp only [WatchS.cells, List.getElem?_cons_succ, List.getElem?_cons_zero] at r5b; rw [hbad] at r5b; clear hup hpp hsp hrb k4 u4)
          go_ret
          exact ⟨by rw [HB2.out]; rfl, v1, S4, s1, HF.out, HK4.out.alloc _, (HUU.out.trans HU4.out).alloc _⟩
        · rw [if_neg (by decide), if_neg (by decide)] at HWI
          have hf : Sim (outS s l) { s1 with bad := true } := by have := HFN.out; rwa [HWI.out] at this
          have HF := Lib.hid hf
          clear hok hlt hf HFN HWI HTK
          go_wp2_with (go_at_call 25; refine HN.out.mono ?_; rintro e w3 ⟨A3, c3, Sb, Sp, rfl, hrb, hpp, hsp, hup⟩; obtain ⟨S4, k4, u4⟩ := HFO.out w3 Sp (parP v1.ob 16384 s1.outB) v1 { s1 with outB := s1.outB } hpp (hup.holds fun k hk => hup.own k (.inr hk)) rfl HW.out.kbs; obtain ⟨S5, k5, u5⟩ := k4.set 5 (.bool true) { s1 with outB := s1.outB, bad := true } rfl rfl rfl; have HK5 := Lib.hid (k5.alloc (.cells #[.int .i64 f.kind, .int .i64 f.flags, .int .i64 f.stream, .slice A3 f.body.length c3] 29)); have HU5 := Lib.hid (((HUU.out.trans u4).trans u5).alloc (.cells #[.int .i64 f.kind, .int .i64 f.flags, .int .i64 f.stream, .slice A3 f.body.length c3] 29)); have r5b := k4.blk.cell 5; have rf5b := k4.blk.frozen 5; have hltb2 := k4.blk.lt; simp only [WatchS.cells, List.getElem?_cons_succ, List.getElem?_cons_zero] at r5b; rw [hbad] at r5b; clear hup hpp hsp hrb k4 u4 k5 u5)
          go_roundg gn
          case measure => omega
          case rel =>
            refine ⟨{ s1 with bad := true }, v1, S5, HK5.out, HU5.out, ?_, .inl rfl, ?_, fun _ => rfl⟩
            · exact ⟨HOK.out.head, HOK.out.inB, HOK.out.outB, HOK.out.data, HOK.out.keys, HOK.out.wins, HOK.out.win, HOK.out.sets⟩
            · cases gn with
              | zero => exact HF.out
              | succ n => simpa [outLoop] using HF.out
        · rw [if_neg (by decide), if_pos rfl] at HWI
          have hd1 : s1.dead = false := by
            cases hd : s1.dead with
            | false => rfl
            | true => have := HDE1.out hd; rw [hbad] at this; cases this
          have houtB1 := hok.outB
          have hok2 : WOk (B + l.length) { s1 with outB := rest } := ⟨hok.head, hok.inB, by simp only; omega, fun x hx => by have := hok.data x hx; simp only; omega, hok.keys, hok.wins, hok.win, hok.sets⟩
          have HRI := Lib.hid (fun W S4 (k4 : WAt W b v1 { s1 with outB := rest } S4) A3 c3 hrb => right_any W b v1 _ S4 k4 hok2 hB hd1 f hc2 (by omega) (fun x hx => by have := hok.data x hx; omega) A3 c3 hrb)
          have hsim0 : Sim (outS s l) (outLoop gn (judged (rightS { s1 with outB := rest } f))) := by have := HFN.out; rwa [HWI.out] at this
          have hjok := HTK.out rfl
          have hjd := judged_dead (f := f) (show ({ s1 with outB := rest } : WatchS).dead = false from hd1)
          have hro := rightS_outB { s1 with outB := rest } f
          have hrf := rightS_frames { s1 with outB := rest } f
          have hrlt : rest.length < gn := by omega
          have hfb : s1.frames ≤ 1000000000 := by omega
          simp only at hro hrf
          generalize rightS { s1 with outB := rest } f = res at *
          obtain ⟨x, s2⟩ := res
          simp only at hro hrf
          unfold RightQ FrameS.v at HRI
          simp only at HRI
          have HS0 := Lib.hid hsim0
          have HJO := Lib.hid hjok
          have HJD := Lib.hid hjd
          have HRO := Lib.hid hro
          have HRF := Lib.hid hrf
          have HRL := Lib.hid hrlt
          clear hok hlt HFN HWI HTK hok2 hsim0 hjok hjd hro hrf hrlt hc1 hc2 hc3 hc4 houtB1 hd1
          cases x with
          | false =>
            go_wp2_with (first
              | (go_at_call 25; refine HN.out.mono ?_; rintro e w3 ⟨A3, c3, Sb, Sp, rfl, hrb, hpp, hsp, hup⟩; obtain ⟨S4, k4, u4⟩ := HFO.out w3 Sp (parP v1.ob 16384 rest) v1 { s1 with outB := rest } hpp (hup.holds fun k hk => hup.own k (.inr hk)) rfl HW.out.kbs; have HK5 := Lib.hid (k4.alloc (.cells #[.int .i64 f.kind, .int .i64 f.flags, .int .i64 f.stream, .slice A3 f.body.length c3] 29)); have HU5 := Lib.hid ((HUU.out.trans u4).alloc (.cells #[.int .i64 f.kind, .int .i64 f.flags, .int .i64 f.stream, .slice A3 f.body.length c3] 29)); have HRB := Lib.hid (hrb.rd.alloc (by omega) (.cells #[.int .i64 f.kind, .int .i64 f.flags, .int .i64 f.stream, .slice A3 f.body.length c3] 29)); have hltb2 := k4.blk.lt; clear hup hpp hsp hrb k4 u4)
              | (go_at_call 28; refine (HRI.out _ S4 HK5.out A3 c3 HRB.out).mono ?_; rintro e w5 ⟨rfl, v6, S6, s6, hsim, hk6, hu6⟩; have c5 := hk6.blk.cell 5; have fz5 := hk6.blk.frozen 5; have c17 := hk6.blk.cell 17; have fz17 := hk6.blk.frozen 17; have hltb3 := hk6.blk.lt; simp only [WatchS.cells, List.getElem?_cons_succ, List.getElem?_cons_zero] at c5 c17; rw [hsim.frames, HRF.out] at c17; have HSM := Lib.hid hsim; have HK6 := Lib.hid hk6; have HU6 := Lib.hid hu6; clear hsim hk6 hu6))
            go_roundg gn
            case measure => omega
            case rel =>
              obtain ⟨S7, k7, u7⟩ := HK6.out.set 5 (.bool true) { s6 with bad := true } rfl rfl rfl
              refine ⟨{ s6 with bad := true }, v6, S7, k7, (HU5.out.trans HU6.out).trans u7, ?_, .inl rfl, ?_, fun _ => rfl⟩
              · exact Sim.ok HJO.out (Sim.judged (x := false) HSM.out)
              · exact HS0.out.trans (Sim.loop (Sim.judged (x := false) HSM.out) gn)
          | true =>
            go_wp2_with (first
              | (go_at_call 25; refine HN.out.mono ?_; rintro e w3 ⟨A3, c3, Sb, Sp, rfl, hrb, hpp, hsp, hup⟩; obtain ⟨S4, k4, u4⟩ := HFO.out w3 Sp (parP v1.ob 16384 rest) v1 { s1 with outB := rest } hpp (hup.holds fun k hk => hup.own k (.inr hk)) rfl HW.out.kbs; have HK5 := Lib.hid (k4.alloc (.cells #[.int .i64 f.kind, .int .i64 f.flags, .int .i64 f.stream, .slice A3 f.body.length c3] 29)); have HU5 := Lib.hid ((HUU.out.trans u4).alloc (.cells #[.int .i64 f.kind, .int .i64 f.flags, .int .i64 f.stream, .slice A3 f.body.length c3] 29)); have HRB := Lib.hid (hrb.rd.alloc (by omega) (.cells #[.int .i64 f.kind, .int .i64 f.flags, .int .i64 f.stream, .slice A3 f.body.length c3] 29)); have hltb2 := k4.blk.lt; clear hup hpp hsp hrb k4 u4)
              | (go_at_call 28; refine (HRI.out _ S4 HK5.out A3 c3 HRB.out).mono ?_; rintro e w5 ⟨rfl, v6, S6, s6, hsim, hk6, hu6⟩; have c5 := hk6.blk.cell 5; have fz5 := hk6.blk.frozen 5; have c17 := hk6.blk.cell 17; have fz17 := hk6.blk.frozen 17; have hltb3 := hk6.blk.lt; simp only [WatchS.cells, List.getElem?_cons_succ, List.getElem?_cons_zero] at c5 c17; rw [hsim.frames, HRF.out] at c17; have HSM := Lib.hid hsim; have HK6 := Lib.hid hk6; have HU6 := Lib.hid hu6; clear hsim hk6 hu6))
            go_roundg gn
            case measure => omega
            case rel =>
              have e6 : s6.frames = s1.frames := HSM.out.frames.trans HRF.out
              obtain ⟨S7, k7, u7⟩ := HK6.out.set 5 (.bool false) { s6 with bad := false } rfl rfl rfl
              obtain ⟨S8, k8, u8⟩ := k7.set 17 (.int .i64 ((s6.frames + 1 : Nat) : Int)) { s6 with bad := false, frames := s6.frames + 1 } rfl rfl rfl
              rw [e6] at k8 u8
              refine ⟨{ s6 with bad := false, frames := s1.frames + 1 }, v6, S8, k8, ((HU5.out.trans HU6.out).trans u7).trans u8, ?_, .inr ?_, ?_, ?_⟩
              · have := Sim.ok HJO.out (Sim.judged (x := true) HSM.out)
                simpa [judged, e6] using this
              · show s6.outB.length < gn
                rw [HSM.out.outB, HRO.out]; exact HRL.out
              · have := HS0.out.trans (Sim.loop (Sim.judged (x := true) HSM.out) gn)
                simpa [judged, e6] using this
              · intro h1
                have h2 := HJD.out
                have h3 : s2.dead = true := by rw [← HSM.out.dead]; exact h1
                have h4 := h2 (by simpa [judged] using h3)
                simp [judged] at h4

theorem in_h0 {W : World} {b : Nat} {s : WatchS} {S : Own} (h : HAt W b s S) {B : Nat} (hok : WOk B s) {A : Option Addr} {c : Nat} {l : List UInt8} (hrd : Rd W 1 A l.length c (bys l)) (hA : 0 < l.length → ∀ k, blockOf A = some k → k < W.heap.size ∧ ¬ S k) (hB : B + l.length ≤ 1000000000) :
    Calls Tryd.prog 9 #[.pointer (some ⟨b, 0, none⟩), .slice A l.length c] W (InQ b (inS s l) S W) := by
  obtain ⟨v, s', h1, h2⟩ := h
  exact (in_any0 W b v s' S h2 B (Sim.ok hok h1) A c l hrd hA hB).mono fun _ _ ⟨h3, v', S', h4, h5⟩ => ⟨h3, S', ⟨v', _, h1.inS l, h4⟩, h5⟩
theorem out_h0 {W : World} {b : Nat} {s : WatchS} {S : Own} (h : HAt W b s S) {B : Nat} (hok : WOk B s) (hd : s.dead = true → s.bad = true) {A : Option Addr} {c : Nat} {l : List UInt8} (hrd : Rd W 1 A l.length c (bys l)) (hB : B + l.length ≤ 1000000000) :
    Calls Tryd.prog 12 #[.pointer (some ⟨b, 0, none⟩), .slice A l.length c] W (OutR b (outS s l) (if (outS s l).bad then 2 else 0) S W) := by
  obtain ⟨v, s', h1, h2⟩ := h
  have hs := h1.outS l
  refine (out_any0 W b v s' S h2 B (Sim.ok hok h1) (by rw [h1.dead, h1.bad]; exact hd) A c l hrd hB).mono fun _ _ ⟨h3, v', S', s2, h4, h5, h6⟩ => ⟨?_, S', ⟨v', s2, hs.trans h4, h5⟩, h6⟩
  rw [h3, hs.bad]
end Go.Proofs.YthmfifcogokpoaaDoor
