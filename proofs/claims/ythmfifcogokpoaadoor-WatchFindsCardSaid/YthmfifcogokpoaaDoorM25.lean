/- What is proved here: contracts of the program's functions and plain lemmas that the claim's last text uses, in parts: package watch: answers, the block; package watch: answers, Decode; package watch: answers, the name; package watch: answers, its last tests and its end. -/
import Derived.Test.YthmfifcogokpoaaDoorM24
set_option linter.unusedVariables false
set_option linter.unusedSimpArgs false
namespace Go.Proofs.YthmfifcogokpoaaDoor
open Go.RowKit
open Go.ChangeMaps (setBlock)

set_option maxRecDepth 100000 in
theorem an_bad (w W : World) (b : Nat) (v : Locs) (s s1 : WatchS) (S S0 : Own) (h : WAt W b v s1 S0) (hu : Upd S S0 w W) (code : Int) (hc : code ≠ 0) (u1 u2 u3 u4 u5 u6 u7 u8 u10 u11 u12 u13 u14 u15 u16 u17 u18 u19 u20 u21 u22 u23 u24 u25 u26 u27 u28 u29 u30 u31 u32 u33 u34 u35 u36 u37 u38 u39 u40 u41 u42 u43 u44 u45 u46 u47 u48 u49 u50 u51 u52 u53 u54 u55 u56 u57 u58 u59 u60 u61 u62 u63 u64 u65 u66 u67 u68 u69 u70 u71 u72 : Value) :
    tailW Tryd.prog 4 anBody (AnP b (false, s1) S w) ⟨#[.pointer (some ⟨b, 0, none⟩), u1, u2, u3, u4, u5, u6, u7, u8, .int .i64 code, u10, u11, u12, u13, u14, u15, u16, u17, u18, u19, u20, u21, u22, u23, u24, u25, u26, u27, u28, u29, u30, u31, u32, u33, u34, u35, u36, u37, u38, u39, u40, u41, u42, u43, u44, u45, u46, u47, u48, u49, u50, u51, u52, u53, u54, u55, u56, u57, u58, u59, u60, u61, u62, u63, u64, u65, u66, u67, u68, u69, u70, u71, u72], []⟩ W := by
  have H := Lib.hid h
  have HU := Lib.hid hu
  have t1 : (code != 0) = true := bne_iff_ne.2 hc
  clear h hu hc
  show Code.wp _ _ _ _ _
  go_wp2
  go_quiet (fail)
  go_wp2
  go_ret
  exact ⟨rfl, v, S0, s1, Sim.refl s1, H.out.drewN _, HU.out.drewN _⟩

set_option maxRecDepth 100000 in
theorem an_empty (w W : World) (b : Nat) (v : Locs) (s s1 : WatchS) (S S0 : Own) (h : WAt W b v s1 S0) (hu : Upd S S0 w W) (A : Option Addr) (c : Nat) (u1 u2 u3 u4 u5 u6 u7 u10 u11 u12 u13 u14 u15 u16 u17 u18 u19 u20 u21 u22 u23 u24 u25 u26 u27 u28 u29 u30 u31 u32 u33 u34 u35 u36 u37 u38 u39 u40 u41 u42 u43 u44 u45 u46 u47 u48 u49 u50 u51 u52 u53 u54 u55 u56 u57 u58 u59 u60 u61 u62 u63 u64 u65 u66 u67 u68 u69 u70 u71 u72 : Value) :
    tailW Tryd.prog 4 anBody (AnP b (false, s1) S w) ⟨#[.pointer (some ⟨b, 0, none⟩), u1, u2, u3, u4, u5, u6, u7, .slice A 0 c, .int .i64 0, u10, u11, u12, u13, u14, u15, u16, u17, u18, u19, u20, u21, u22, u23, u24, u25, u26, u27, u28, u29, u30, u31, u32, u33, u34, u35, u36, u37, u38, u39, u40, u41, u42, u43, u44, u45, u46, u47, u48, u49, u50, u51, u52, u53, u54, u55, u56, u57, u58, u59, u60, u61, u62, u63, u64, u65, u66, u67, u68, u69, u70, u71, u72], []⟩ W := by
  have H := Lib.hid h
  have HU := Lib.hid hu
  clear h hu
  show Code.wp _ _ _ _ _
  go_wp2
  go_quiet (fail)
  go_wp2
  go_ret
  exact ⟨rfl, v, S0, s1, Sim.refl s1, H.out.drewN _, HU.out.drewN _⟩
end Go.Proofs.YthmfifcogokpoaaDoor
namespace Go.Proofs.YthmfifcogokpoaaDoor
open Go.RowKit
open Go.ChangeMaps (setBlock)

set_option maxRecDepth 100000 in
set_option maxHeartbeats 1000000 in
theorem an_dead (w W : World) (b : Nat) (v : Locs) (s : WatchS) (S S0 : Own) (h : WAt W b v s S0) (hu : Upd S S0 w W) (hd : s.dead = false) (pb : Nat) (p : PartS) (A1 : Option Addr) (c1 : Nat) (A2 : Option Addr) (c2 : Nat)
    (hp : Blk W pb 82 (p.cells A1 c1 A2 c2)) (hpS : ¬ S0 pb) (hrd : Rd W 1 A1 p.data.length c1 (bys p.data)) (hbig : p.data.length ≤ 1000000) (hr : blockS 2147483647 s.tab s.most p.data = none) (u1 u2 u3 u4 u6 u7 u8 u9 u10 u11 u12 u13 u14 u15 u16 u17 u18 u19 u20 u21 u22 u23 u24 u25 u26 u27 u28 u29 u30 u31 u32 u33 u34 u35 u36 u37 u38 u39 u40 u41 u42 u43 u44 u45 u46 u47 u48 u49 u50 u51 u52 u53 u54 u55 u56 u57 u58 u59 u60 u61 u62 u63 u64 u65 u66 u67 u68 u69 u70 u71 u72 : Value) :
    tailW Tryd.prog 3 anBody (AnP b (false, { s with dead := true }) S w) ⟨#[.pointer (some ⟨b, 0, none⟩), u1, u2, u3, u4, .pointer (some ⟨pb, 0, none⟩), u6, u7, u8, u9, u10, u11, u12, u13, u14, u15, u16, u17, u18, u19, u20, u21, u22, u23, u24, u25, u26, u27, u28, u29, u30, u31, u32, u33, u34, u35, u36, u37, u38, u39, u40, u41, u42, u43, u44, u45, u46, u47, u48, u49, u50, u51, u52, u53, u54, u55, u56, u57, u58, u59, u60, u61, u62, u63, u64, u65, u66, u67, u68, u69, u70, u71, u72], []⟩ W := by
  have b16 := h.blk.cell 16
  have p0 := hp.cell 0
  simp only [WatchS.cells, PartS.cells, List.getElem?_cons_succ, List.getElem?_cons_zero] at b16 p0
  have hltb := h.blk.lt
  have hltp := hp.lt
  obtain ⟨T, hdec, hsub, hTb, hfin⟩ := h.focus1 5 rfl
  rw [decP, hd, if_neg (by decide)] at hdec
  have hTp : ¬ T pb := fun e => hpS (hsub pb e)
  have hT0 : ¬ T 0 := fun e => h.g0 (hsub 0 e)
  have HD := Lib.hid (decode_any W.drew v.db 2147483647 s.tab s.most T (DecAt.loc hdec fun _ _ => rfl) h.drew.glob hT0 A1 c1 p.data (hrd.keep fun _ _ => rfl) hbig)
  have HF := Lib.hid hfin
  have HH := Lib.hid h
  have HU := Lib.hid hu
  · rw [hr] at HD
    have HN := Lib.hid (fun W1 S1 h1 hu1 => an_bad w W1 b v s { s with dead := true } S S1 h1 hu1 2 (by decide))
    clear h hu hfin hp hrd hdec
    refine tail_step 3 anBody ?_
    show Code.wp _ _ _ _ _
    refine wp_region_S (fun W' => W'.cell? ⟨b, 16, none⟩ = some (.pointer (some ⟨v.db, 0, none⟩)) ∧ W'.cell? ⟨pb, 0, none⟩ = some (.slice A1 p.data.length c1)) 12 (by kernel_rfl) (⟨b16, p0⟩) (fun hHeld => ?_)
    refine AnyS_take (i := 0) (v := ?_) rfl (by kernel_rfl) (by kernel_rfl) (by kernel_rfl) (by kernel_rfl) (by kernel_rfl) (fun _ _ _ h => h) (Or.inl ⟨by rfl, ?_⟩) hHeld ?_
    rotate_left
    · intro w' hSw
      (try dsimp only at hSw)
      go_simp
      try with_reducible rfl
    try simp only [Act.put, List.setIfInBounds_toArray, List.set_cons_zero, List.set_cons_succ]
    refine AnyS_take (i := 1) (v := ?_) rfl (by kernel_rfl) (by kernel_rfl) (by kernel_rfl) (by kernel_rfl) (by kernel_rfl) (fun _ _ _ h => h) (Or.inl ⟨by rfl, ?_⟩) hHeld ?_
    rotate_left
    · intro w' hSw
      (try dsimp only at hSw)
      go_simp
      try with_reducible rfl
    try simp only [Act.put, List.setIfInBounds_toArray, List.set_cons_zero, List.set_cons_succ]
    refine AnyS_take (i := 2) (v := ?_) rfl (by kernel_rfl) (by kernel_rfl) (by kernel_rfl) (by kernel_rfl) (by kernel_rfl) (fun _ _ _ h => h) (Or.inl ⟨by rfl, ?_⟩) hHeld ?_
    rotate_left
    · intro w' hSw
      (try dsimp only at hSw)
      go_simp
      try with_reducible rfl
    try simp only [Act.put, List.setIfInBounds_toArray, List.set_cons_zero, List.set_cons_succ]
    refine AnyS_take (i := 3) (v := ?_) rfl (by kernel_rfl) (by kernel_rfl) (by kernel_rfl) (by kernel_rfl) (by kernel_rfl) (fun _ _ _ h => h) (Or.inl ⟨by rfl, ?_⟩) hHeld ?_
    rotate_left
    · intro w' hSw
      (try dsimp only at hSw)
      go_simp
      try with_reducible rfl
    try simp only [Act.put, List.setIfInBounds_toArray, List.set_cons_zero, List.set_cons_succ]
    refine AnyS_take (i := 4) (v := ?_) rfl (by kernel_rfl) (by kernel_rfl) (by kernel_rfl) (by kernel_rfl) (by kernel_rfl) (fun _ _ _ h => h) (Or.inl ⟨by rfl, ?_⟩) hHeld ?_
    rotate_left
    · intro w' hSw
      (try dsimp only at hSw)
      go_simp
      try with_reducible rfl
    try simp only [Act.put, List.setIfInBounds_toArray, List.set_cons_zero, List.set_cons_succ]
    refine AnyS_take (i := 5) (v := ?_) rfl (by kernel_rfl) (by kernel_rfl) (by kernel_rfl) (by kernel_rfl) (by kernel_rfl) (fun _ _ _ h => h) (Or.inl ⟨by rfl, ?_⟩) hHeld ?_
    rotate_left
    · intro w' hSw
      (try dsimp only at hSw)
      go_simp
      try with_reducible rfl
    try simp only [Act.put, List.setIfInBounds_toArray, List.set_cons_zero, List.set_cons_succ]
    refine AnyS_step (i := 6) rfl (by kernel_rfl) rfl (fun K hK => ?_)
    go_simp
    refine HD.out.mono ?_
    rintro e w1 ⟨rfl, hu1⟩
    have HU1 := Lib.hid hu1
    refine hK.out _ _ (⟨(hu1.cell (a := ⟨b, 16, none⟩) hltb hTb).trans b16, (hu1.cell (a := ⟨pb, 0, none⟩) hltp hTp).trans p0⟩) (fun hHeld => ?_)
    clear hK K
    try simp only [Act.put, List.setIfInBounds_toArray, List.set_cons_zero, List.set_cons_succ]
    refine AnyS_take (i := 7) (v := ?_) rfl (by kernel_rfl) (by kernel_rfl) (by kernel_rfl) (by kernel_rfl) (by kernel_rfl) (fun _ _ _ h => h) (Or.inl ⟨by rfl, ?_⟩) hHeld ?_
    rotate_left
    · intro w' hSw
      (try dsimp only at hSw)
      go_simp
      try with_reducible rfl
    try simp only [Act.put, List.setIfInBounds_toArray, List.set_cons_zero, List.set_cons_succ]
    refine AnyS_take (i := 8) (v := ?_) rfl (by kernel_rfl) (by kernel_rfl) (by kernel_rfl) (by kernel_rfl) (by kernel_rfl) (fun _ _ _ h => h) (Or.inl ⟨by rfl, ?_⟩) hHeld ?_
    rotate_left
    · intro w' hSw
      (try dsimp only at hSw)
      go_simp
      try with_reducible rfl
    try simp only [Act.put, List.setIfInBounds_toArray, List.set_cons_zero, List.set_cons_succ]
    refine AnyS_take (i := 9) (v := ?_) rfl (by kernel_rfl) (by kernel_rfl) (by kernel_rfl) (by kernel_rfl) (by kernel_rfl) (fun _ _ _ h => h) (Or.inl ⟨by rfl, ?_⟩) hHeld ?_
    rotate_left
    · intro w' hSw
      (try dsimp only at hSw)
      go_simp
      try with_reducible rfl
    try simp only [Act.put, List.setIfInBounds_toArray, List.set_cons_zero, List.set_cons_succ]
    refine AnyS_take (i := 10) (v := ?_) rfl (by kernel_rfl) (by kernel_rfl) (by kernel_rfl) (by kernel_rfl) (by kernel_rfl) (fun _ _ _ h => h) (Or.inl ⟨by rfl, ?_⟩) hHeld ?_
    rotate_left
    · intro w' hSw
      (try dsimp only at hSw)
      go_simp
      try with_reducible rfl
    try simp only [Act.put, List.setIfInBounds_toArray, List.set_cons_zero, List.set_cons_succ]
    refine AnyS_take (i := 11) (v := ?_) rfl (by kernel_rfl) (by kernel_rfl) (by kernel_rfl) (by kernel_rfl) (by kernel_rfl) (fun _ _ _ h => h) (Or.inl ⟨by rfl, ?_⟩) hHeld ?_
    rotate_left
    · intro w' hSw
      (try dsimp only at hSw)
      go_simp
      try with_reducible rfl
    try simp only [Act.put, List.setIfInBounds_toArray, List.set_cons_zero, List.set_cons_succ]
    refine AnyS_done (by kernel_rfl) (NoPanic.normal ?_) _
    try simp only [Act.put, List.setIfInBounds_toArray, List.set_cons_zero, List.set_cons_succ]
    show tailW _ _ _ _ _ _
    have hu2 : Upd T T W w1 := ((Upd.refl T W).drew).trans HU1.out
    obtain ⟨S3, h3, u3⟩ := HF.out w1 T (decP true v.db s.tab s.most) v { s with dead := true } (by
      rw [decP, if_pos rfl]
      exact fun k hk => Nat.lt_of_lt_of_le (HH.out.lt k (hsub k hk)) hu2.size) hu2 rfl HH.out.kbs
    exact HN.out w1 S3 h3 (HU.out.trans u3) _ _ _ _ _ _ _ _ _ _ _ _ _ _ _ _ _ _ _ _ _ _ _ _ _ _ _ _ _ _ _ _ _ _ _ _ _ _ _ _ _ _ _ _ _ _ _ _ _ _ _ _ _ _ _ _ _ _ _ _ _ _ _ _ _ _ _ _ _ _ _

set_option maxRecDepth 100000 in
set_option maxHeartbeats 1000000 in
theorem an_over (w W : World) (b : Nat) (v : Locs) (s : WatchS) (S S0 : Own) (h : WAt W b v s S0) (hu : Upd S S0 w W) (hd : s.dead = false) (pb : Nat) (p : PartS) (A1 : Option Addr) (c1 : Nat) (A2 : Option Addr) (c2 : Nat)
    (hp : Blk W pb 82 (p.cells A1 c1 A2 c2)) (hpS : ¬ S0 pb) (hrd : Rd W 1 A1 p.data.length c1 (bys p.data)) (hbig : p.data.length ≤ 1000000) (r : RdS) (hr : blockS 2147483647 s.tab s.most p.data = some r) (hov : (2147483647 : Int) < r.total) (u1 u2 u3 u4 u6 u7 u8 u9 u10 u11 u12 u13 u14 u15 u16 u17 u18 u19 u20 u21 u22 u23 u24 u25 u26 u27 u28 u29 u30 u31 u32 u33 u34 u35 u36 u37 u38 u39 u40 u41 u42 u43 u44 u45 u46 u47 u48 u49 u50 u51 u52 u53 u54 u55 u56 u57 u58 u59 u60 u61 u62 u63 u64 u65 u66 u67 u68 u69 u70 u71 u72 : Value) :
    tailW Tryd.prog 3 anBody (AnP b (false, { s with tab := r.tab, most := r.most }) S w) ⟨#[.pointer (some ⟨b, 0, none⟩), u1, u2, u3, u4, .pointer (some ⟨pb, 0, none⟩), u6, u7, u8, u9, u10, u11, u12, u13, u14, u15, u16, u17, u18, u19, u20, u21, u22, u23, u24, u25, u26, u27, u28, u29, u30, u31, u32, u33, u34, u35, u36, u37, u38, u39, u40, u41, u42, u43, u44, u45, u46, u47, u48, u49, u50, u51, u52, u53, u54, u55, u56, u57, u58, u59, u60, u61, u62, u63, u64, u65, u66, u67, u68, u69, u70, u71, u72], []⟩ W := by
  have b16 := h.blk.cell 16
  have p0 := hp.cell 0
  simp only [WatchS.cells, PartS.cells, List.getElem?_cons_succ, List.getElem?_cons_zero] at b16 p0
  have hltb := h.blk.lt
  have hltp := hp.lt
  obtain ⟨T, hdec, hsub, hTb, hfin⟩ := h.focus1 5 rfl
  rw [decP, hd, if_neg (by decide)] at hdec
  have hTp : ¬ T pb := fun e => hpS (hsub pb e)
  have hT0 : ¬ T 0 := fun e => h.g0 (hsub 0 e)
  have HD := Lib.hid (decode_any W.drew v.db 2147483647 s.tab s.most T (DecAt.loc hdec fun _ _ => rfl) h.drew.glob hT0 A1 c1 p.data (hrd.keep fun _ _ => rfl) hbig)
  have HF := Lib.hid hfin
  have HH := Lib.hid h
  have HU := Lib.hid hu
  · rw [hr] at HD
    have HN := Lib.hid (fun W1 S1 h1 hu1 => an_bad w W1 b v s { s with tab := r.tab, most := r.most } S S1 h1 hu1 3 (by decide))
    clear h hu hfin hp hrd hdec
    refine tail_step 3 anBody ?_
    show Code.wp _ _ _ _ _
    refine wp_region_S (fun W' => W'.cell? ⟨b, 16, none⟩ = some (.pointer (some ⟨v.db, 0, none⟩)) ∧ W'.cell? ⟨pb, 0, none⟩ = some (.slice A1 p.data.length c1)) 12 (by kernel_rfl) (⟨b16, p0⟩) (fun hHeld => ?_)
    refine AnyS_take (i := 0) (v := ?_) rfl (by kernel_rfl) (by kernel_rfl) (by kernel_rfl) (by kernel_rfl) (by kernel_rfl) (fun _ _ _ h => h) (Or.inl ⟨by rfl, ?_⟩) hHeld ?_
    rotate_left
    · intro w' hSw
      (try dsimp only at hSw)
      go_simp
      try with_reducible rfl
    try simp only [Act.put, List.setIfInBounds_toArray, List.set_cons_zero, List.set_cons_succ]
    refine AnyS_take (i := 1) (v := ?_) rfl (by kernel_rfl) (by kernel_rfl) (by kernel_rfl) (by kernel_rfl) (by kernel_rfl) (fun _ _ _ h => h) (Or.inl ⟨by rfl, ?_⟩) hHeld ?_
    rotate_left
    · intro w' hSw
      (try dsimp only at hSw)
      go_simp
      try with_reducible rfl
    try simp only [Act.put, List.setIfInBounds_toArray, List.set_cons_zero, List.set_cons_succ]
    refine AnyS_take (i := 2) (v := ?_) rfl (by kernel_rfl) (by kernel_rfl) (by kernel_rfl) (by kernel_rfl) (by kernel_rfl) (fun _ _ _ h => h) (Or.inl ⟨by rfl, ?_⟩) hHeld ?_
    rotate_left
    · intro w' hSw
      (try dsimp only at hSw)
      go_simp
      try with_reducible rfl
    try simp only [Act.put, List.setIfInBounds_toArray, List.set_cons_zero, List.set_cons_succ]
    refine AnyS_take (i := 3) (v := ?_) rfl (by kernel_rfl) (by kernel_rfl) (by kernel_rfl) (by kernel_rfl) (by kernel_rfl) (fun _ _ _ h => h) (Or.inl ⟨by rfl, ?_⟩) hHeld ?_
    rotate_left
    · intro w' hSw
      (try dsimp only at hSw)
      go_simp
      try with_reducible rfl
    try simp only [Act.put, List.setIfInBounds_toArray, List.set_cons_zero, List.set_cons_succ]
    refine AnyS_take (i := 4) (v := ?_) rfl (by kernel_rfl) (by kernel_rfl) (by kernel_rfl) (by kernel_rfl) (by kernel_rfl) (fun _ _ _ h => h) (Or.inl ⟨by rfl, ?_⟩) hHeld ?_
    rotate_left
    · intro w' hSw
      (try dsimp only at hSw)
      go_simp
      try with_reducible rfl
    try simp only [Act.put, List.setIfInBounds_toArray, List.set_cons_zero, List.set_cons_succ]
    refine AnyS_take (i := 5) (v := ?_) rfl (by kernel_rfl) (by kernel_rfl) (by kernel_rfl) (by kernel_rfl) (by kernel_rfl) (fun _ _ _ h => h) (Or.inl ⟨by rfl, ?_⟩) hHeld ?_
    rotate_left
    · intro w' hSw
      (try dsimp only at hSw)
      go_simp
      try with_reducible rfl
    try simp only [Act.put, List.setIfInBounds_toArray, List.set_cons_zero, List.set_cons_succ]
    refine AnyS_step (i := 6) rfl (by kernel_rfl) rfl (fun K hK => ?_)
    go_simp
    refine HD.out.mono ?_
    intro e w1 hq
    simp only [DecodeQ, if_pos hov] at hq
    obtain ⟨rfl, T2, hd2, hu1⟩ := hq
    have HD2 := Lib.hid hd2
    have HU1 := Lib.hid hu1
    refine hK.out _ _ (⟨(hu1.cell (a := ⟨b, 16, none⟩) hltb hTb).trans b16, (hu1.cell (a := ⟨pb, 0, none⟩) hltp hTp).trans p0⟩) (fun hHeld => ?_)
    clear hK K
    try simp only [Act.put, List.setIfInBounds_toArray, List.set_cons_zero, List.set_cons_succ]
    refine AnyS_take (i := 7) (v := ?_) rfl (by kernel_rfl) (by kernel_rfl) (by kernel_rfl) (by kernel_rfl) (by kernel_rfl) (fun _ _ _ h => h) (Or.inl ⟨by rfl, ?_⟩) hHeld ?_
    rotate_left
    · intro w' hSw
      (try dsimp only at hSw)
      go_simp
      try with_reducible rfl
    try simp only [Act.put, List.setIfInBounds_toArray, List.set_cons_zero, List.set_cons_succ]
    refine AnyS_take (i := 8) (v := ?_) rfl (by kernel_rfl) (by kernel_rfl) (by kernel_rfl) (by kernel_rfl) (by kernel_rfl) (fun _ _ _ h => h) (Or.inl ⟨by rfl, ?_⟩) hHeld ?_
    rotate_left
    · intro w' hSw
      (try dsimp only at hSw)
      go_simp
      try with_reducible rfl
    try simp only [Act.put, List.setIfInBounds_toArray, List.set_cons_zero, List.set_cons_succ]
    refine AnyS_take (i := 9) (v := ?_) rfl (by kernel_rfl) (by kernel_rfl) (by kernel_rfl) (by kernel_rfl) (by kernel_rfl) (fun _ _ _ h => h) (Or.inl ⟨by rfl, ?_⟩) hHeld ?_
    rotate_left
    · intro w' hSw
      (try dsimp only at hSw)
      go_simp
      try with_reducible rfl
    try simp only [Act.put, List.setIfInBounds_toArray, List.set_cons_zero, List.set_cons_succ]
    refine AnyS_take (i := 10) (v := ?_) rfl (by kernel_rfl) (by kernel_rfl) (by kernel_rfl) (by kernel_rfl) (by kernel_rfl) (fun _ _ _ h => h) (Or.inl ⟨by rfl, ?_⟩) hHeld ?_
    rotate_left
    · intro w' hSw
      (try dsimp only at hSw)
      go_simp
      try with_reducible rfl
    try simp only [Act.put, List.setIfInBounds_toArray, List.set_cons_zero, List.set_cons_succ]
    refine AnyS_take (i := 11) (v := ?_) rfl (by kernel_rfl) (by kernel_rfl) (by kernel_rfl) (by kernel_rfl) (by kernel_rfl) (fun _ _ _ h => h) (Or.inl ⟨by rfl, ?_⟩) hHeld ?_
    rotate_left
    · intro w' hSw
      (try dsimp only at hSw)
      go_simp
      try with_reducible rfl
    try simp only [Act.put, List.setIfInBounds_toArray, List.set_cons_zero, List.set_cons_succ]
    refine AnyS_done (by kernel_rfl) (NoPanic.normal ?_) _
    try simp only [Act.put, List.setIfInBounds_toArray, List.set_cons_zero, List.set_cons_succ]
    show tailW _ _ _ _ _ _
    have hu2 : Upd T T2 W w1 := ((Upd.refl T W).drew).trans HU1.out
    obtain ⟨S3, h3, u3⟩ := HF.out w1 T2 (decP false v.db r.tab r.most) v { s with tab := r.tab, most := r.most } (by
      rw [decP, if_neg (by decide)]
      exact HD2.out) hu2 (by rw [← hd]; rfl) HH.out.kbs
    exact HN.out w1 S3 h3 (HU.out.trans u3) _ _ _ _ _ _ _ _ _ _ _ _ _ _ _ _ _ _ _ _ _ _ _ _ _ _ _ _ _ _ _ _ _ _ _ _ _ _ _ _ _ _ _ _ _ _ _ _ _ _ _ _ _ _ _ _ _ _ _ _ _ _ _ _ _ _ _ _ _ _ _

set_option maxRecDepth 100000 in
set_option maxHeartbeats 1000000 in
theorem an_got (w W : World) (b : Nat) (v : Locs) (s : WatchS) (S S0 : Own) (h : WAt W b v s S0) (hu : Upd S S0 w W) (hd : s.dead = false) (pb : Nat) (p : PartS) (A1 : Option Addr) (c1 : Nat) (A2 : Option Addr) (c2 : Nat)
    (hp : Blk W pb 82 (p.cells A1 c1 A2 c2)) (hpS : ¬ S0 pb) (hrd : Rd W 1 A1 p.data.length c1 (bys p.data)) (hbig : p.data.length ≤ 1000000) (r : RdS) (hr : blockS 2147483647 s.tab s.most p.data = some r) (hov : ¬ (2147483647 : Int) < r.total) (t7 : Value) (res : Bool × WatchS)
    (HK : ∀ W1 S1 A c Sf, WAt W1 b v { s with tab := r.tab, most := r.most } S1 → Upd S S1 w W1 → Row 109 3 A r.fs.length c (fieldCells r.fs) Sf W1 → Blk W1 pb 82 (p.cells A1 c1 A2 c2) → ∀ (u1 u2 u3 u4 u6 u10 u11 u12 u13 u14 u15 u16 u17 u18 u19 u20 u21 u22 u23 u24 u25 u26 u27 u28 u29 u30 u31 u32 u33 u34 u35 u36 u37 u38 u39 u40 u41 u42 u43 u44 u45 u46 u47 u48 u49 u50 u51 u52 u53 u54 u55 u56 u57 u58 u59 u60 u61 u62 u63 u64 u65 u66 u67 u68 u69 u70 u71 u72 : Value), tailW Tryd.prog 4 anBody (AnP b res S w) ⟨#[.pointer (some ⟨b, 0, none⟩), u1, u2, u3, u4, .pointer (some ⟨pb, 0, none⟩), u6, t7, .slice A r.fs.length c, .int .i64 0, u10, u11, u12, u13, u14, u15, u16, u17, u18, u19, u20, u21, u22, u23, u24, u25, u26, u27, u28, u29, u30, u31, u32, u33, u34, u35, u36, u37, u38, u39, u40, u41, u42, u43, u44, u45, u46, u47, u48, u49, u50, u51, u52, u53, u54, u55, u56, u57, u58, u59, u60, u61, u62, u63, u64, u65, u66, u67, u68, u69, u70, u71, u72], []⟩ W1) (u1 u2 u3 u4 u6 u8 u9 u10 u11 u12 u13 u14 u15 u16 u17 u18 u19 u20 u21 u22 u23 u24 u25 u26 u27 u28 u29 u30 u31 u32 u33 u34 u35 u36 u37 u38 u39 u40 u41 u42 u43 u44 u45 u46 u47 u48 u49 u50 u51 u52 u53 u54 u55 u56 u57 u58 u59 u60 u61 u62 u63 u64 u65 u66 u67 u68 u69 u70 u71 u72 : Value) :
    tailW Tryd.prog 3 anBody (AnP b res S w) ⟨#[.pointer (some ⟨b, 0, none⟩), u1, u2, u3, u4, .pointer (some ⟨pb, 0, none⟩), u6, t7, u8, u9, u10, u11, u12, u13, u14, u15, u16, u17, u18, u19, u20, u21, u22, u23, u24, u25, u26, u27, u28, u29, u30, u31, u32, u33, u34, u35, u36, u37, u38, u39, u40, u41, u42, u43, u44, u45, u46, u47, u48, u49, u50, u51, u52, u53, u54, u55, u56, u57, u58, u59, u60, u61, u62, u63, u64, u65, u66, u67, u68, u69, u70, u71, u72], []⟩ W := by
  have b16 := h.blk.cell 16
  have p0 := hp.cell 0
  simp only [WatchS.cells, PartS.cells, List.getElem?_cons_succ, List.getElem?_cons_zero] at b16 p0
  have hltb := h.blk.lt
  have hltp := hp.lt
  obtain ⟨T, hdec, hsub, hTb, hfin⟩ := h.focus1 5 rfl
  rw [decP, hd, if_neg (by decide)] at hdec
  have hTp : ¬ T pb := fun e => hpS (hsub pb e)
  have hT0 : ¬ T 0 := fun e => h.g0 (hsub 0 e)
  have HD := Lib.hid (decode_any W.drew v.db 2147483647 s.tab s.most T (DecAt.loc hdec fun _ _ => rfl) h.drew.glob hT0 A1 c1 p.data (hrd.keep fun _ _ => rfl) hbig)
  have HF := Lib.hid hfin
  have HH := Lib.hid h
  have HU := Lib.hid hu
  · rw [hr] at HD
    have HN := Lib.hid HK
    have HPB := Lib.hid hp
    clear HK
    clear h hu hfin hp hrd hdec
    refine tail_step 3 anBody ?_
    show Code.wp _ _ _ _ _
    refine wp_region_S (fun W' => W'.cell? ⟨b, 16, none⟩ = some (.pointer (some ⟨v.db, 0, none⟩)) ∧ W'.cell? ⟨pb, 0, none⟩ = some (.slice A1 p.data.length c1)) 12 (by kernel_rfl) (⟨b16, p0⟩) (fun hHeld => ?_)
    refine AnyS_take (i := 0) (v := ?_) rfl (by kernel_rfl) (by kernel_rfl) (by kernel_rfl) (by kernel_rfl) (by kernel_rfl) (fun _ _ _ h => h) (Or.inl ⟨by rfl, ?_⟩) hHeld ?_
    rotate_left
    · intro w' hSw
      (try dsimp only at hSw)
      go_simp
      try with_reducible rfl
    try simp only [Act.put, List.setIfInBounds_toArray, List.set_cons_zero, List.set_cons_succ]
    refine AnyS_take (i := 1) (v := ?_) rfl (by kernel_rfl) (by kernel_rfl) (by kernel_rfl) (by kernel_rfl) (by kernel_rfl) (fun _ _ _ h => h) (Or.inl ⟨by rfl, ?_⟩) hHeld ?_
    rotate_left
    · intro w' hSw
      (try dsimp only at hSw)
      go_simp
      try with_reducible rfl
    try simp only [Act.put, List.setIfInBounds_toArray, List.set_cons_zero, List.set_cons_succ]
    refine AnyS_take (i := 2) (v := ?_) rfl (by kernel_rfl) (by kernel_rfl) (by kernel_rfl) (by kernel_rfl) (by kernel_rfl) (fun _ _ _ h => h) (Or.inl ⟨by rfl, ?_⟩) hHeld ?_
    rotate_left
    · intro w' hSw
      (try dsimp only at hSw)
      go_simp
      try with_reducible rfl
    try simp only [Act.put, List.setIfInBounds_toArray, List.set_cons_zero, List.set_cons_succ]
    refine AnyS_take (i := 3) (v := ?_) rfl (by kernel_rfl) (by kernel_rfl) (by kernel_rfl) (by kernel_rfl) (by kernel_rfl) (fun _ _ _ h => h) (Or.inl ⟨by rfl, ?_⟩) hHeld ?_
    rotate_left
    · intro w' hSw
      (try dsimp only at hSw)
      go_simp
      try with_reducible rfl
    try simp only [Act.put, List.setIfInBounds_toArray, List.set_cons_zero, List.set_cons_succ]
    refine AnyS_take (i := 4) (v := ?_) rfl (by kernel_rfl) (by kernel_rfl) (by kernel_rfl) (by kernel_rfl) (by kernel_rfl) (fun _ _ _ h => h) (Or.inl ⟨by rfl, ?_⟩) hHeld ?_
    rotate_left
    · intro w' hSw
      (try dsimp only at hSw)
      go_simp
      try with_reducible rfl
    try simp only [Act.put, List.setIfInBounds_toArray, List.set_cons_zero, List.set_cons_succ]
    refine AnyS_take (i := 5) (v := ?_) rfl (by kernel_rfl) (by kernel_rfl) (by kernel_rfl) (by kernel_rfl) (by kernel_rfl) (fun _ _ _ h => h) (Or.inl ⟨by rfl, ?_⟩) hHeld ?_
    rotate_left
    · intro w' hSw
      (try dsimp only at hSw)
      go_simp
      try with_reducible rfl
    try simp only [Act.put, List.setIfInBounds_toArray, List.set_cons_zero, List.set_cons_succ]
    refine AnyS_step (i := 6) rfl (by kernel_rfl) rfl (fun K hK => ?_)
    go_simp
    refine HD.out.mono ?_
    intro e w1 hq
    simp only [DecodeQ, if_neg hov] at hq
    obtain ⟨A9, c9, Sf, T2, rfl, hrow, hd2, hap, hu1⟩ := hq
    have HD2 := Lib.hid hd2
    have HROW := Lib.hid hrow
    have HU1 := Lib.hid hu1
    refine hK.out _ _ (⟨(hu1.cell (a := ⟨b, 16, none⟩) hltb hTb).trans b16, (hu1.cell (a := ⟨pb, 0, none⟩) hltp hTp).trans p0⟩) (fun hHeld => ?_)
    clear hK K
    try simp only [Act.put, List.setIfInBounds_toArray, List.set_cons_zero, List.set_cons_succ]
    refine AnyS_take (i := 7) (v := ?_) rfl (by kernel_rfl) (by kernel_rfl) (by kernel_rfl) (by kernel_rfl) (by kernel_rfl) (fun _ _ _ h => h) (Or.inl ⟨by rfl, ?_⟩) hHeld ?_
    rotate_left
    · intro w' hSw
      (try dsimp only at hSw)
      go_simp
      try with_reducible rfl
    try simp only [Act.put, List.setIfInBounds_toArray, List.set_cons_zero, List.set_cons_succ]
    refine AnyS_take (i := 8) (v := ?_) rfl (by kernel_rfl) (by kernel_rfl) (by kernel_rfl) (by kernel_rfl) (by kernel_rfl) (fun _ _ _ h => h) (Or.inl ⟨by rfl, ?_⟩) hHeld ?_
    rotate_left
    · intro w' hSw
      (try dsimp only at hSw)
      go_simp
      try with_reducible rfl
    try simp only [Act.put, List.setIfInBounds_toArray, List.set_cons_zero, List.set_cons_succ]
    refine AnyS_take (i := 9) (v := ?_) rfl (by kernel_rfl) (by kernel_rfl) (by kernel_rfl) (by kernel_rfl) (by kernel_rfl) (fun _ _ _ h => h) (Or.inl ⟨by rfl, ?_⟩) hHeld ?_
    rotate_left
    · intro w' hSw
      (try dsimp only at hSw)
      go_simp
      try with_reducible rfl
    try simp only [Act.put, List.setIfInBounds_toArray, List.set_cons_zero, List.set_cons_succ]
    refine AnyS_take (i := 10) (v := ?_) rfl (by kernel_rfl) (by kernel_rfl) (by kernel_rfl) (by kernel_rfl) (by kernel_rfl) (fun _ _ _ h => h) (Or.inl ⟨by rfl, ?_⟩) hHeld ?_
    rotate_left
    · intro w' hSw
      (try dsimp only at hSw)
      go_simp
      try with_reducible rfl
    try simp only [Act.put, List.setIfInBounds_toArray, List.set_cons_zero, List.set_cons_succ]
    refine AnyS_take (i := 11) (v := ?_) rfl (by kernel_rfl) (by kernel_rfl) (by kernel_rfl) (by kernel_rfl) (by kernel_rfl) (fun _ _ _ h => h) (Or.inl ⟨by rfl, ?_⟩) hHeld ?_
    rotate_left
    · intro w' hSw
      (try dsimp only at hSw)
      go_simp
      try with_reducible rfl
    try simp only [Act.put, List.setIfInBounds_toArray, List.set_cons_zero, List.set_cons_succ]
    refine AnyS_done (by kernel_rfl) (NoPanic.normal ?_) _
    try simp only [Act.put, List.setIfInBounds_toArray, List.set_cons_zero, List.set_cons_succ]
    show tailW _ _ _ _ _ _
    have hu2 : Upd T (or_ Sf T2) W w1 := ((Upd.refl T W).drew).trans HU1.out
    obtain ⟨S3, h3, u3⟩ := HF.out w1 T2 (decP false v.db r.tab r.most) v { s with tab := r.tab, most := r.most } (by
      rw [decP, if_neg (by decide)]
      exact HD2.out) (hu2.holds fun k hk => hu2.own k (.inr hk)) (by rw [← hd]; rfl) HH.out.kbs
    exact HN.out w1 S3 A9 c9 Sf h3 (HU.out.trans u3) HROW.out (HPB.out.upd hu2 hTp) _ _ _ _ _ _ _ _ _ _ _ _ _ _ _ _ _ _ _ _ _ _ _ _ _ _ _ _ _ _ _ _ _ _ _ _ _ _ _ _ _ _ _ _ _ _ _ _ _ _ _ _ _ _ _ _ _ _ _ _ _ _ _ _ _ _ _ _
end Go.Proofs.YthmfifcogokpoaaDoor
namespace Go.Proofs.YthmfifcogokpoaaDoor
open Go.RowKit
open Go.ChangeMaps (setBlock)

theorem status_ne {b : ByteArray} (h : b ≠ statusB) : (b.toList == [58, 115, 116, 97, 116, 117, 115]) = false := by
  refine beq_eq_false_iff_ne.2 fun e => h ?_
  have h2 : statusB.toList = [58, 115, 116, 97, 116, 117, 115] := by decide +kernel
  rw [← h2, Lib.toList_data, Lib.toList_data] at e
  exact ByteArray.ext (Array.toList_inj.1 e)
theorem status_eq {b : ByteArray} (h : b = statusB) : (b.toList == [58, 115, 116, 97, 116, 117, 115]) = true := by
  rw [h]; decide +kernel

set_option maxRecDepth 100000 in
theorem an_name (w W : World) (b : Nat) (v : Locs) (s1 : WatchS) (S S0 : Own) (h : WAt W b v s1 S0) (hu : Upd S S0 w W) (g : FieldS) (r : List FieldS) (A : Option Addr) (c : Nat) (Sf : Own) (hrow : Row 109 3 A (g :: r).length c (fieldCells (g :: r)) Sf W) (hn : g.name ≠ statusB) (u1 u2 u3 u4 u5 u6 u7 u10 u11 u12 u13 u14 u15 u16 u17 u18 u19 u20 u21 u22 u23 u24 u25 u26 u27 u28 u29 u30 u31 u32 u33 u34 u35 u36 u37 u38 u39 u40 u41 u42 u43 u44 u45 u46 u47 u48 u49 u50 u51 u52 u53 u54 u55 u56 u57 u58 u59 u60 u61 u62 u63 u64 u65 u66 u67 u68 u69 u70 u71 u72 : Value) :
    tailW Tryd.prog 4 anBody (AnP b (false, s1) S w) ⟨#[.pointer (some ⟨b, 0, none⟩), u1, u2, u3, u4, u5, u6, u7, .slice A (g :: r).length c, .int .i64 0, u10, u11, u12, u13, u14, u15, u16, u17, u18, u19, u20, u21, u22, u23, u24, u25, u26, u27, u28, u29, u30, u31, u32, u33, u34, u35, u36, u37, u38, u39, u40, u41, u42, u43, u44, u45, u46, u47, u48, u49, u50, u51, u52, u53, u54, u55, u56, u57, u58, u59, u60, u61, u62, u63, u64, u65, u66, u67, u68, u69, u70, u71, u72], []⟩ W := by
  have H := Lib.hid h
  have HU := Lib.hid hu
  obtain ⟨gb, o, hA, hcell⟩ := hrow.rd.form (by simp)
  have d0 := hcell 0 (.string g.name) (by simp [fieldCells])
  subst hA
  simp only [Nat.add_zero] at d0
  have t1 : ((r.length : Int) + 1 == 0) = false := beq_eq_false_iff_ne.2 (by omega)
  have t2 := status_ne hn
  clear h hu hrow hcell
  show Code.wp _ _ _ _ _
  go_wp2
  go_quiet (fail)
  go_wp2
  go_ret
  exact ⟨rfl, v, S0, s1, Sim.refl s1, H.out.drewN _, HU.out.drewN _⟩
end Go.Proofs.YthmfifcogokpoaaDoor
namespace Go.Proofs.YthmfifcogokpoaaDoor
open Go.RowKit
open Go.ChangeMaps (setBlock)

theorem decTable_at (w : World) (db tb : Nat) (hd : Blk w db 78 [.pointer (some ⟨tb, 0, none⟩), .bool false]) :
    Calls Tryd.prog 54 #[.pointer (some ⟨db, 0, none⟩)] w (fun e w' => e = .returned (.pointer (some ⟨tb, 0, none⟩)) ∧ w' = w) := by
  have e0 := hd.cell 0
  simp only [List.getElem?_cons_zero] at e0
  clear hd
  go_enter Tryd.func54, Tryd.ntmps54
  go_wp2
  go_ret
  exact ⟨rfl, rfl⟩

set_option maxRecDepth 100000 in
theorem an_tab (w W : World) (b : Nat) (v : Locs) (s1 : WatchS) (S S0 : Own) (h : WAt W b v s1 S0) (hu : Upd S S0 w W) (hd : s1.dead = false) (g : FieldS) (r : List FieldS) (A : Option Addr) (c : Nat) (Sf : Own) (hrow : Row 109 3 A (g :: r).length c (fieldCells (g :: r)) Sf W) (hn : g.name = statusB) (hm : s1.sets.table < s1.most) (u1 u2 u3 u4 u5 u6 u7 u10 u11 u12 u13 u14 u15 u16 u17 u18 u19 u20 u21 u22 u23 u24 u25 u26 u27 u28 u29 u30 u31 u32 u33 u34 u35 u36 u37 u38 u39 u40 u41 u42 u43 u44 u45 u46 u47 u48 u49 u50 u51 u52 u53 u54 u55 u56 u57 u58 u59 u60 u61 u62 u63 u64 u65 u66 u67 u68 u69 u70 u71 u72 : Value) :
    tailW Tryd.prog 4 anBody (AnP b (false, s1) S w) ⟨#[.pointer (some ⟨b, 0, none⟩), u1, u2, u3, u4, u5, u6, u7, .slice A (g :: r).length c, .int .i64 0, u10, u11, u12, u13, u14, u15, u16, u17, u18, u19, u20, u21, u22, u23, u24, u25, u26, u27, u28, u29, u30, u31, u32, u33, u34, u35, u36, u37, u38, u39, u40, u41, u42, u43, u44, u45, u46, u47, u48, u49, u50, u51, u52, u53, u54, u55, u56, u57, u58, u59, u60, u61, u62, u63, u64, u65, u66, u67, u68, u69, u70, u71, u72], []⟩ W := by
  have H := Lib.hid h
  have HU := Lib.hid hu
  obtain ⟨gb, o, hA, hcell⟩ := hrow.rd.form (by simp)
  have d0 := hcell 0 (.string g.name) (by simp [fieldCells])
  subst hA
  simp only [Nat.add_zero] at d0
  have t1 : ((r.length : Int) + 1 == 0) = false := beq_eq_false_iff_ne.2 (by omega)
  have t2 := status_eq hn
  have b10 := h.blk.cell 10
  have b16 := h.blk.cell 16
  simp only [WatchS.cells, List.getElem?_cons_succ, List.getElem?_cons_zero] at b10 b16
  obtain ⟨T, hdec, hsub, hTb, -⟩ := h.focus1 5 rfl
  rw [decP, hd, if_neg (by decide)] at hdec
  obtain ⟨tb, St, hdb, ht, -, -, -⟩ := hdec
  have HTB := Lib.hid (fun q => decTable_at (W.drewN q) v.db tb (hdb.drewN q))
  have HMO := Lib.hid (fun q => (most_any tb s1.tab s1.most St (W.drewN q) (ht.loc fun _ _ => rfl)).mono fun e w' h => (show e = .returned (.int .i64 s1.most) ∧ w' = W.drewN q from ⟨h.1, h.2.symm⟩))
  have t3 : decide (s1.sets.table < s1.most) = true := decide_eq_true hm
  clear h hu hrow hcell hdb ht hn hm hd hsub hTb
  show Code.wp _ _ _ _ _
  go_wp2
  go_quiet ((first | (go_at_call 54; exact Calls.quiet_of_same (HTB.out _)) | (go_at_call 55; exact Calls.quiet_of_same (HMO.out _))))
  go_wp2
  go_ret
  exact ⟨rfl, v, S0, s1, Sim.refl s1, H.out.drewN _, HU.out.drewN _⟩

set_option maxRecDepth 100000 in
set_option maxHeartbeats 1000000 in
theorem an_yes (w W : World) (b : Nat) (v : Locs) (s1 : WatchS) (S S0 : Own) (h : WAt W b v s1 S0) (hu : Upd S S0 w W) (hd : s1.dead = false) (g : FieldS) (r : List FieldS) (A : Option Addr) (c : Nat) (Sf : Own) (hrow : Row 109 3 A (g :: r).length c (fieldCells (g :: r)) Sf W) (hn : g.name = statusB) (hm : ¬ s1.sets.table < s1.most)
    (n i kb pb : Nat) (x : StrS) (hx : s1.m[i]? = some (n, x)) (hkb : v.kbs[i]? = some kb) (p : PartS) (A1 : Option Addr) (c1 : Nat) (A2 : Option Addr) (c2 : Nat) (hp : Blk W pb 82 (p.cells A1 c1 A2 c2)) (u1 u2 u3 u4 u6 u10 u11 u12 u13 u14 u15 u16 u17 u18 u19 u20 u21 u22 u23 u24 u25 u26 u27 u28 u29 u30 u31 u32 u33 u34 u35 u36 u37 u38 u39 u40 u41 u42 u43 u44 u45 u46 u47 u48 u49 u50 u51 u52 u53 u54 u55 u56 u57 u58 u59 u60 u61 u62 u63 u64 u65 u66 u67 u68 u69 u70 u71 u72 : Value) :
    tailW Tryd.prog 4 anBody (AnP b (true, { s1 with m := s1.m.set i (n, { x with begun := true, ended := p.fin }) }) S w) ⟨#[.pointer (some ⟨b, 0, none⟩), u1, u2, u3, u4, .pointer (some ⟨pb, 0, none⟩), u6, .pointer (some ⟨kb, 0, none⟩), .slice A (g :: r).length c, .int .i64 0, u10, u11, u12, u13, u14, u15, u16, u17, u18, u19, u20, u21, u22, u23, u24, u25, u26, u27, u28, u29, u30, u31, u32, u33, u34, u35, u36, u37, u38, u39, u40, u41, u42, u43, u44, u45, u46, u47, u48, u49, u50, u51, u52, u53, u54, u55, u56, u57, u58, u59, u60, u61, u62, u63, u64, u65, u66, u67, u68, u69, u70, u71, u72], []⟩ W := by
  have H := Lib.hid h
  have HU := Lib.hid hu
  obtain ⟨gb, o, hA, hcell⟩ := hrow.rd.form (by simp)
  have d0 := hcell 0 (.string g.name) (by simp [fieldCells])
  subst hA
  simp only [Nat.add_zero] at d0
  have t1 : ((r.length : Int) + 1 == 0) = false := beq_eq_false_iff_ne.2 (by omega)
  have t2 := status_eq hn
  have b10 := h.blk.cell 10
  have b16 := h.blk.cell 16
  simp only [WatchS.cells, List.getElem?_cons_succ, List.getElem?_cons_zero] at b10 b16
  obtain ⟨T, hdec, hsub, hTb, -⟩ := h.focus1 5 rfl
  rw [decP, hd, if_neg (by decide)] at hdec
  obtain ⟨tb, St, hdb, ht, -, -, -⟩ := hdec
  have HTB := Lib.hid (fun q => decTable_at (W.drewN q) v.db tb (hdb.drewN q))
  have HMO := Lib.hid (fun q => (most_any tb s1.tab s1.most St (W.drewN q) (ht.loc fun _ _ => rfl)).mono fun e w' h => (show e = .returned (.int .i64 s1.most) ∧ w' = W.drewN q from ⟨h.1, h.2.symm⟩))
  have t3 : decide (s1.sets.table < s1.most) = false := decide_eq_false hm
  have HX := Lib.hid hx
  have HKB := Lib.hid hkb
  have HP := Lib.hid hp
  clear h hu hrow hcell hdb ht hn hm hd hsub hTb hx hkb hp
  refine tail_step 4 anBody ?_
  show Code.wp _ _ _ _ _
  go_wp2
  go_quiet ((first | (go_at_call 54; exact Calls.quiet_of_same (HTB.out _)) | (go_at_call 55; exact Calls.quiet_of_same (HMO.out _))))
  go_wp2
  show tailW _ _ _ _ _ _
  clear HTB HMO b10 b16 d0 t1 t2 t3
  have H2 := Lib.hid (H.out.drewN nq)
  have HU2 := Lib.hid (HU.out.drewN nq)
  have HP2 := Lib.hid (HP.out.drewN nq)
  clear H HU HP
  generalize W.drewN nq = W2 at *
  obtain ⟨kb', S5, y1, ⟨A, cc, S6, k1, k2, k3, k4⟩, y3, y4⟩ := H2.out.stream HX.out
  obtain rfl : kb = kb' := by have := HKB.out; rw [y1] at this; simpa using this.symm
  simp only at k1 k2
  have hpk : pb ≠ kb := fun e => by
    have h1 := HP2.out
    rw [e] at h1
    exact absurd rfl (h1.ne k1 (by decide))
  have q1 := k1.cell 1
  have qf1 := k1.frozen 1
  have q2 := k1.cell 2
  have qf2 := k1.frozen 2
  have p6 := HP2.out.cell 6
  simp only [PartS.cells, List.getElem?_cons_succ, List.getElem?_cons_zero] at q1 q2 p6
  have HK1 := Lib.hid k1
  have HK2 := Lib.hid k2
  have HK3 := Lib.hid k3
  have HK4 := Lib.hid k4
  have HY4 := Lib.hid y4
  clear k1 k2 k3 k4 y1 y3 y4
  refine tail_step 5 anBody ?_
  show Code.wp _ _ _ _ _
  refine wp_region_S (fun W' => W'.cell? ⟨pb, 6, none⟩ = some (.bool p.fin)) 10 (by kernel_rfl) (p6) (fun hHeld => ?_)
  refine AnyS_take (i := 0) (v := ?_) rfl (by kernel_rfl) (by kernel_rfl) (by kernel_rfl) (by kernel_rfl) (by kernel_rfl) (fun _ _ _ h => h) (Or.inl ⟨by rfl, ?_⟩) hHeld ?_
  rotate_left
  · intro w' hSw
    (try dsimp only at hSw)
    go_simp
    try with_reducible rfl
  try simp only [Act.put, List.setIfInBounds_toArray, List.set_cons_zero, List.set_cons_succ]
  refine AnyS_take (i := 1) (v := ?_) rfl (by kernel_rfl) (by kernel_rfl) (by kernel_rfl) (by kernel_rfl) (by kernel_rfl) (fun _ _ _ h => h) (Or.inl ⟨by rfl, ?_⟩) hHeld ?_
  rotate_left
  · intro w' hSw
    (try dsimp only at hSw)
    go_simp
    try with_reducible rfl
  try simp only [Act.put, List.setIfInBounds_toArray, List.set_cons_zero, List.set_cons_succ]
  refine AnyS_take (i := 2) (v := ?_) rfl (by kernel_rfl) (by kernel_rfl) (by kernel_rfl) (by kernel_rfl) (by kernel_rfl) (fun _ _ _ h => h) (Or.inl ⟨by rfl, ?_⟩) hHeld ?_
  rotate_left
  · intro w' hSw
    (try dsimp only at hSw)
    go_simp
    try with_reducible rfl
  try simp only [Act.put, List.setIfInBounds_toArray, List.set_cons_zero, List.set_cons_succ]
  refine AnyS_take (i := 3) (v := ?_) rfl (by kernel_rfl) (by kernel_rfl) (by kernel_rfl) (by kernel_rfl) (by kernel_rfl) (fun _ _ _ h => h) (Or.inl ⟨by rfl, ?_⟩) hHeld ?_
  rotate_left
  · intro w' hSw
    (try dsimp only at hSw)
    go_simp
    try with_reducible rfl
  try simp only [Act.put, List.setIfInBounds_toArray, List.set_cons_zero, List.set_cons_succ]
  refine AnyS_take (i := 4) (v := ?_) rfl (by kernel_rfl) (by kernel_rfl) (by kernel_rfl) (by kernel_rfl) (by kernel_rfl) (fun _ _ _ h => h) (Or.inl ⟨by rfl, ?_⟩) hHeld ?_
  rotate_left
  · intro w' hSw
    (try dsimp only at hSw)
    go_simp
    try with_reducible rfl
  try simp only [Act.put, List.setIfInBounds_toArray, List.set_cons_zero, List.set_cons_succ]
  refine AnyS_take (i := 5) (v := ?_) rfl (by kernel_rfl) (by kernel_rfl) (by kernel_rfl) (by kernel_rfl) (by kernel_rfl) (fun _ _ _ h => h) (Or.inl ⟨by rfl, ?_⟩) hHeld ?_
  rotate_left
  · intro w' hSw
    (try dsimp only at hSw)
    go_simp
    try with_reducible rfl
  try simp only [Act.put, List.setIfInBounds_toArray, List.set_cons_zero, List.set_cons_succ]
  refine AnyS_step (i := 6) rfl (by kernel_rfl) rfl (fun K hK => ?_)
  go_simp
  refine hK.out _ _ (((World.cell?_of_block (heap_set_other (a := ⟨kb, 1, none⟩) _ hpk)).trans hHeld)) (fun hHeld => ?_)
  clear hK K
  try simp only [Act.put, List.setIfInBounds_toArray, List.set_cons_zero, List.set_cons_succ]
  refine AnyS_take (i := 7) (v := ?_) rfl (by kernel_rfl) (by kernel_rfl) (by kernel_rfl) (by kernel_rfl) (by kernel_rfl) (fun _ _ _ h => h) (Or.inl ⟨by rfl, ?_⟩) hHeld ?_
  rotate_left
  · intro w' hSw
    (try dsimp only at hSw)
    go_simp
    try with_reducible rfl
  try simp only [Act.put, List.setIfInBounds_toArray, List.set_cons_zero, List.set_cons_succ]
  refine AnyS_take (i := 8) (v := ?_) rfl (by kernel_rfl) (by kernel_rfl) (by kernel_rfl) (by kernel_rfl) (by kernel_rfl) (fun _ _ _ h => h) (Or.inl ⟨by rfl, ?_⟩) hHeld ?_
  rotate_left
  · intro w' hSw
    (try dsimp only at hSw)
    go_simp
    try with_reducible rfl
  try simp only [Act.put, List.setIfInBounds_toArray, List.set_cons_zero, List.set_cons_succ]
  refine AnyS_step (i := 9) rfl (by kernel_rfl) rfl (fun K hK => ?_)
  go_simp
  refine hK.out _ _ (((World.cell?_of_block (heap_set_other (a := ⟨kb, 2, none⟩) _ hpk)).trans hHeld)) (fun hHeld => ?_)
  clear hK K
  try simp only [Act.put, List.setIfInBounds_toArray, List.set_cons_zero, List.set_cons_succ]
  refine AnyS_done (by kernel_rfl) (NoPanic.normal ?_) _
  try simp only [Act.put, List.setIfInBounds_toArray, List.set_cons_zero, List.set_cons_succ]
  show Code.wp _ _ _ _ _
  go_wp2
  go_ret
  obtain ⟨S8, z1, z2⟩ := HY4.out ((W2.drew.setCell ⟨kb, 1, none⟩ (.bool true)).setCell ⟨kb, 2, none⟩ (.bool p.fin)) S5 { x with begun := true, ended := p.fin }
    ⟨A, cc, S6, ((HK1.out.drew.set 1 _).set 2 _), HK2.out.loc fun k hk => (heap_set_other (a := ⟨kb, 2, none⟩) _ (fun e => HK3.out (by rw [← show k = kb from e]; exact hk))).trans (heap_set_other (a := ⟨kb, 1, none⟩) _ (fun e => HK3.out (by rw [← show k = kb from e]; exact hk))), HK3.out, HK4.out⟩
    ((((Upd.refl S5 W2).drew).setCell (p := ⟨kb, 1, none⟩) (.inl ((HK4.out kb).2 (.inl rfl))) _).setCell (p := ⟨kb, 2, none⟩) (.inl ((HK4.out kb).2 (.inl rfl))) _)
  exact ⟨rfl, v, S8, _, Sim.refl _, z1, HU2.out.trans z2⟩
end Go.Proofs.YthmfifcogokpoaaDoor
