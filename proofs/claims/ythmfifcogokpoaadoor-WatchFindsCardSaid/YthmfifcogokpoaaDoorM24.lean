/- What is proved here: contracts of the program's functions and plain lemmas that the claim's last text uses, in parts: package watch: sends, whole; package watch: answers, in plain words; an operation under a guard that holds comes up alone; package watch: answers, its first tests. -/
import Derived.Test.YthmfifcogokpoaaDoorM23
set_option linter.unusedVariables false
set_option linter.unusedSimpArgs false
namespace Go.Proofs.YthmfifcogokpoaaDoor
open Go.RowKit
open Go.ChangeMaps (setBlock)

set_option maxRecDepth 100000 in
theorem se_none (w W : World) (b : Nat) (v : Locs) (s : WatchS) (S S0 : Own) (h : WAt W b v s S0) (hu : Upd S S0 w W) (n : Nat) (u1 u2 u3 u4 u5 u6 u9 u10 u11 u12 u13 u14 u15 u16 u17 u18 u19 u20 u21 u22 u23 u24 u25 u26 u27 u28 u29 u30 u31 u32 u33 u34 u35 u36 u37 u38 u39 u40 u41 u42 u43 u44 u45 u46 u47 u48 u49 u50 u51 u52 u53 u54 u55 u56 u57 u58 u59 u60 u61 u62 u63 u64 u65 u66 u67 u68 u69 u70 u71 u72 u73 u74 u75 u76 u77 u78 u79 u80 u81 : Value) :
    tailW Tryd.prog 2 seBody (SeP b (false, s) S w) ⟨#[.pointer (some ⟨b, 0, none⟩), u1, u2, u3, u4, u5, u6, .pointer none, .int .i64 n, u9, u10, u11, u12, u13, u14, u15, u16, u17, u18, u19, u20, u21, u22, u23, u24, u25, u26, u27, u28, u29, u30, u31, u32, u33, u34, u35, u36, u37, u38, u39, u40, u41, u42, u43, u44, u45, u46, u47, u48, u49, u50, u51, u52, u53, u54, u55, u56, u57, u58, u59, u60, u61, u62, u63, u64, u65, u66, u67, u68, u69, u70, u71, u72, u73, u74, u75, u76, u77, u78, u79, u80, u81], []⟩ W := by
  have H := Lib.hid h
  have HU := Lib.hid hu
  clear h hu
  show Code.wp _ _ _ _ _
  go_wp2
  go_ret
  exact ⟨rfl, v, S0, s, Sim.refl s, H.out, HU.out⟩

set_option maxRecDepth 100000 in
set_option maxHeartbeats 1000000 in
theorem se_some (w W : World) (b : Nat) (v : Locs) (s : WatchS) (S S0 : Own) (h : WAt W b v s S0) (hu : Upd S S0 w W) (n i kb pb m : Nat) (x : StrS) (hx : s.m[i]? = some (n, x)) (hkb : v.kbs[i]? = some kb) (hxw : Go.Proofs.YthmfifcogokpoaaDoor.W x.window) (hsw : Go.Proofs.YthmfifcogokpoaaDoor.W s.window) (p : PartS) (A1 : Option Addr) (c1 : Nat) (A2 : Option Addr) (c2 : Nat)
    (hp : Blk W pb 82 (p.cells A1 c1 A2 c2)) (hpS : ¬ S0 pb) (hrd : Rd W 1 A1 p.data.length c1 (bys p.data)) (hA1 : ∀ k, blockOf A1 = some k → k < W.heap.size ∧ ¬ S0 k) (hbig : x.data.length + p.data.length ≤ 1000000000) (hm : m ≤ 1000000000) (u1 u2 u3 u4 u6 u9 u10 u11 u12 u13 u14 u15 u16 u17 u18 u19 u20 u21 u22 u23 u24 u25 u26 u27 u28 u29 u30 u31 u32 u33 u34 u35 u36 u37 u38 u39 u40 u41 u42 u43 u44 u45 u46 u47 u48 u49 u50 u51 u52 u53 u54 u55 u56 u57 u58 u59 u60 u61 u62 u63 u64 u65 u66 u67 u68 u69 u70 u71 u72 u73 u74 u75 u76 u77 u78 u79 u80 u81 : Value) :
    tailW Tryd.prog 2 seBody (SeP b (if x.begun = false ∨ s.sets.frame < m then (false, s)
      else if m = 0 then (true, { s with window := cutW s.window, m := s.m.set i (n, { x with window := cutW x.window, data := x.data ++ p.data, ended := p.fin }) })
      else if (spendS (cutW x.window) (cutW s.window) m).2.2 ≠ 0 then (false, s)
      else (true, { s with window := (spendS (cutW x.window) (cutW s.window) m).2.1, m := s.m.set i (n, { x with window := (spendS (cutW x.window) (cutW s.window) m).1, data := x.data ++ p.data, ended := p.fin }) })) S w)
      ⟨#[.pointer (some ⟨b, 0, none⟩), u1, u2, u3, u4, .pointer (some ⟨pb, 0, none⟩), u6, .pointer (some ⟨kb, 0, none⟩), .int .i64 m, u9, u10, u11, u12, u13, u14, u15, u16, u17, u18, u19, u20, u21, u22, u23, u24, u25, u26, u27, u28, u29, u30, u31, u32, u33, u34, u35, u36, u37, u38, u39, u40, u41, u42, u43, u44, u45, u46, u47, u48, u49, u50, u51, u52, u53, u54, u55, u56, u57, u58, u59, u60, u61, u62, u63, u64, u65, u66, u67, u68, u69, u70, u71, u72, u73, u74, u75, u76, u77, u78, u79, u80, u81], []⟩ W := by
  have b8 := h.blk.cell 8
  have b14 := h.blk.cell 14
  simp only [WatchS.cells, List.getElem?_cons_succ, List.getElem?_cons_zero] at b8 b14
  obtain ⟨kb', S1, y1, ⟨A, cc, S2, k1, -⟩, -, -⟩ := h.stream hx
  obtain rfl : kb = kb' := by rw [hkb] at y1; simpa using y1
  have d0 := k1.cell 0
  have d1 := k1.cell 1
  simp only [List.getElem?_cons_succ, List.getElem?_cons_zero] at d0 d1
  have hxb : -9223372036854775808 ≤ x.window ∧ x.window ≤ 9223372036854775807 := by unfold Go.Proofs.YthmfifcogokpoaaDoor.W at hxw; omega
  have hsb : -9223372036854775808 ≤ s.window ∧ s.window ≤ 9223372036854775807 := by unfold Go.Proofs.YthmfifcogokpoaaDoor.W at hsw; omega
  have HF := Lib.hid (fun a c ha hc => se_fin w W.drew b v s S S0 h.drew hu.drew n i kb pb x hx hkb a c ha hc p A1 c1 A2 c2 hp.drew hpS (hrd.keep fun _ _ => rfl) hA1 hbig)
  have H := Lib.hid h
  have HU := Lib.hid hu
  have hsp : Go.Proofs.YthmfifcogokpoaaDoor.W (spendS (cutW x.window) (cutW s.window) m).1 ∧ Go.Proofs.YthmfifcogokpoaaDoor.W (spendS (cutW x.window) (cutW s.window) m).2.1 := by
    have e1 := cutW_W x.window
    have e2 := cutW_W s.window
    unfold spendS
    split
    · exact ⟨by simp [Go.Proofs.YthmfifcogokpoaaDoor.W], by simp [Go.Proofs.YthmfifcogokpoaaDoor.W]⟩
    · unfold Go.Proofs.YthmfifcogokpoaaDoor.W at *; simp only; omega
  have HSP := Lib.hid hsp
  have HSPC := Lib.hid (fun W1 => spend_any (cutW x.window) (cutW s.window) m W1 (cutW_W _) (cutW_W _) (by omega) (by omega))
  clear h hu hx hkb hxw hsw hp hpS hrd hA1 hbig k1 y1 hsp
  obtain ⟨xw, xb, xe, xr, xd⟩ := x
  simp only at *
  cases xb with
  | false =>
    rw [if_pos (.inl rfl)]
    show Code.wp _ _ _ _ _
    go_wp2
    go_ret
    exact ⟨rfl, v, S0, s, Sim.refl s, H.out, HU.out⟩
  | true =>
    by_cases hfr : s.sets.frame < m
    · rw [if_pos (.inr hfr)]
      have t1 : decide (s.sets.frame < (m : Int)) = true := decide_eq_true hfr
      show Code.wp _ _ _ _ _
      go_wp2
      go_ret
      exact ⟨rfl, v, S0, s, Sim.refl s, H.out, HU.out⟩
    · rw [if_neg (by simp [hfr])]
      have t1 : decide (s.sets.frame < (m : Int)) = false := decide_eq_false hfr
      by_cases hm0 : m = 0
      · subst hm0
        rw [if_pos rfl]
        clear HSPC HSP
        refine tail_step 2 seBody ?_
        show Code.wp _ _ _ _ _
        go_wp2
        show tailW _ _ _ _ _ _
        refine tail_step 3 seBody ?_
        show Code.wp _ _ _ _ _
        refine wp_region_S (fun W' => W'.cell? ⟨kb, 0, none⟩ = some (.int .i64 xw) ∧ W'.cell? ⟨b, 8, none⟩ = some (.int .i64 s.window)) 10 (by kernel_rfl) (⟨d0, b8⟩) (fun hHeld => ?_)
        refine AnyS_take (i := 0) (v := ?_) rfl (by kernel_rfl) (by kernel_rfl) (by kernel_rfl) (by kernel_rfl) (by kernel_rfl) (fun _ _ _ h => h) (Or.inl ⟨by rfl, ?_⟩) hHeld ?_
        rotate_left
        · intro w' hSw
          (try dsimp only at hSw)
          go_simp
          try with_reducible rfl
        try simp only [Act.put, List.setIfInBounds_toArray, List.set_cons_zero, List.set_cons_succ]
        refine AnyS_take (i := 1) (v := ?_) rfl (by kernel_rfl) (by kernel_rfl) (by kernel_rfl) (by kernel_rfl) (by kernel_rfl) (fun _ _ _ h => h) (Or.inl ⟨by rfl, ?_⟩) hHeld ?_
        rotate_left
        · intro w' hSw
          (try dsimp only at hSw)
          go_simp
          try with_reducible rfl
        try simp only [Act.put, List.setIfInBounds_toArray, List.set_cons_zero, List.set_cons_succ]
        refine AnyS_take (i := 2) (v := ?_) rfl (by kernel_rfl) (by kernel_rfl) (by kernel_rfl) (by kernel_rfl) (by kernel_rfl) (fun _ _ _ h => h) (Or.inl ⟨by rfl, ?_⟩) hHeld ?_
        rotate_left
        · intro w' hSw
          (try dsimp only at hSw)
          go_simp
          try with_reducible rfl
        try simp only [Act.put, List.setIfInBounds_toArray, List.set_cons_zero, List.set_cons_succ]
        refine AnyS_take (i := 3) (v := ?_) rfl (by kernel_rfl) (by kernel_rfl) (by kernel_rfl) (by kernel_rfl) (by kernel_rfl) (fun _ _ _ h => h) (Or.inl ⟨by rfl, ?_⟩) hHeld ?_
        rotate_left
        · intro w' hSw
          (try dsimp only at hSw)
          go_simp
          try with_reducible rfl
        try simp only [Act.put, List.setIfInBounds_toArray, List.set_cons_zero, List.set_cons_succ]
        refine AnyS_take (i := 4) (v := ?_) rfl (by kernel_rfl) (by kernel_rfl) (by kernel_rfl) (by kernel_rfl) (by kernel_rfl) (fun _ _ _ h => h) (Or.inl ⟨by rfl, ?_⟩) hHeld ?_
        rotate_left
        · intro w' hSw
          (try dsimp only at hSw)
          go_simp
          try with_reducible rfl
        try simp only [Act.put, List.setIfInBounds_toArray, List.set_cons_zero, List.set_cons_succ]
        refine AnyS_take (i := 5) (v := ?_) rfl (by kernel_rfl) (by kernel_rfl) (by kernel_rfl) (by kernel_rfl) (by kernel_rfl) (fun _ _ _ h => h) (Or.inl ⟨by rfl, ?_⟩) hHeld ?_
        rotate_left
        · intro w' hSw
          (try dsimp only at hSw)
          go_simp
          try with_reducible rfl
        try simp only [Act.put, List.setIfInBounds_toArray, List.set_cons_zero, List.set_cons_succ]
        refine AnyS_take (i := 6) (v := ?_) rfl (by kernel_rfl) (by kernel_rfl) (by kernel_rfl) (by kernel_rfl) (by kernel_rfl) (fun _ _ _ h => h) (Or.inl ⟨by rfl, ?_⟩) hHeld ?_
        rotate_left
        · intro w' hSw
          (try dsimp only at hSw)
          go_simp
          try with_reducible rfl
        try simp only [Act.put, List.setIfInBounds_toArray, List.set_cons_zero, List.set_cons_succ]
        refine AnyS_take (i := 7) (v := ?_) rfl (by kernel_rfl) (by kernel_rfl) (by kernel_rfl) (by kernel_rfl) (by kernel_rfl) (fun _ _ _ h => h) (Or.inl ⟨by rfl, ?_⟩) hHeld ?_
        rotate_left
        · intro w' hSw
          (try dsimp only at hSw)
          go_simp
          try with_reducible rfl
        try simp only [Act.put, List.setIfInBounds_toArray, List.set_cons_zero, List.set_cons_succ]
        refine AnyS_step (i := 8) rfl (by kernel_rfl) rfl (fun K hK => ?_)
        go_simp
        refine (windows_any xw s.window _ hxb.1 hxb.2 hsb.1 hsb.2).mono ?_
        rintro e w5 ⟨rfl, rfl⟩
        refine hK.out _ _ (hHeld) (fun hHeld => ?_)
        clear hK K
        try simp only [Act.put, List.setIfInBounds_toArray, List.set_cons_zero, List.set_cons_succ]
        refine AnyS_take (i := 9) (v := ?_) rfl (by kernel_rfl) (by kernel_rfl) (by kernel_rfl) (by kernel_rfl) (by kernel_rfl) (fun _ _ _ h => h) (Or.inl ⟨by rfl, ?_⟩) hHeld ?_
        rotate_left
        · intro w' hSw
          (try dsimp only at hSw)
          go_simp
          try with_reducible rfl
        try simp only [Act.put, List.setIfInBounds_toArray, List.set_cons_zero, List.set_cons_succ]
        refine AnyS_done (by kernel_rfl) (NoPanic.normal ?_) _
        try simp only [Act.put, List.setIfInBounds_toArray, List.set_cons_zero, List.set_cons_succ]
        show tailW _ _ _ _ _ _
        refine tail_step 4 seBody ?_
        show Code.wp _ _ _ _ _
        go_wp2
        show tailW _ _ _ _ _ _
        exact HF.out _ _ (cutW_W _) (cutW_W _) _ _ _ _ _ _ _ _ _ _ _ _ _ _ _ _ _ _ _ _ _ _ _ _ _ _ _ _ _ _ _ _ _ _ _ _ _ _ _ _ _ _ _ _ _ _ _ _ _ _ _ _ _ _ _ _ _ _ _ _ _ _ _ _ _ _ _ _ _ _ _ _ _ _ _ _ _ _
      · rw [if_neg hm0]
        have t2 : decide (0 < m) = true := decide_eq_true (by omega)
        generalize spendS (cutW xw) (cutW s.window) m = g at *
        obtain ⟨g1, g2, g3⟩ := g
        simp only at *
        by_cases hg : g3 = 0
        · subst hg
          rw [if_neg (by simp)]
          refine tail_step 2 seBody ?_
          show Code.wp _ _ _ _ _
          go_wp2
          show tailW _ _ _ _ _ _
          refine tail_step 3 seBody ?_
          show Code.wp _ _ _ _ _
          refine wp_region_S (fun W' => W'.cell? ⟨kb, 0, none⟩ = some (.int .i64 xw) ∧ W'.cell? ⟨b, 8, none⟩ = some (.int .i64 s.window)) 10 (by kernel_rfl) (⟨d0, b8⟩) (fun hHeld => ?_)
          refine AnyS_take (i := 0) (v := ?_) rfl (by kernel_rfl) (by kernel_rfl) (by kernel_rfl) (by kernel_rfl) (by kernel_rfl) (fun _ _ _ h => h) (Or.inl ⟨by rfl, ?_⟩) hHeld ?_
          rotate_left
          · intro w' hSw
            (try dsimp only at hSw)
            go_simp
            try with_reducible rfl
          try simp only [Act.put, List.setIfInBounds_toArray, List.set_cons_zero, List.set_cons_succ]
          refine AnyS_take (i := 1) (v := ?_) rfl (by kernel_rfl) (by kernel_rfl) (by kernel_rfl) (by kernel_rfl) (by kernel_rfl) (fun _ _ _ h => h) (Or.inl ⟨by rfl, ?_⟩) hHeld ?_
          rotate_left
          · intro w' hSw
            (try dsimp only at hSw)
            go_simp
            try with_reducible rfl
          try simp only [Act.put, List.setIfInBounds_toArray, List.set_cons_zero, List.set_cons_succ]
          refine AnyS_take (i := 2) (v := ?_) rfl (by kernel_rfl) (by kernel_rfl) (by kernel_rfl) (by kernel_rfl) (by kernel_rfl) (fun _ _ _ h => h) (Or.inl ⟨by rfl, ?_⟩) hHeld ?_
          rotate_left
          · intro w' hSw
            (try dsimp only at hSw)
            go_simp
            try with_reducible rfl
          try simp only [Act.put, List.setIfInBounds_toArray, List.set_cons_zero, List.set_cons_succ]
          refine AnyS_take (i := 3) (v := ?_) rfl (by kernel_rfl) (by kernel_rfl) (by kernel_rfl) (by kernel_rfl) (by kernel_rfl) (fun _ _ _ h => h) (Or.inl ⟨by rfl, ?_⟩) hHeld ?_
          rotate_left
          · intro w' hSw
            (try dsimp only at hSw)
            go_simp
            try with_reducible rfl
          try simp only [Act.put, List.setIfInBounds_toArray, List.set_cons_zero, List.set_cons_succ]
          refine AnyS_take (i := 4) (v := ?_) rfl (by kernel_rfl) (by kernel_rfl) (by kernel_rfl) (by kernel_rfl) (by kernel_rfl) (fun _ _ _ h => h) (Or.inl ⟨by rfl, ?_⟩) hHeld ?_
          rotate_left
          · intro w' hSw
            (try dsimp only at hSw)
            go_simp
            try with_reducible rfl
          try simp only [Act.put, List.setIfInBounds_toArray, List.set_cons_zero, List.set_cons_succ]
          refine AnyS_take (i := 5) (v := ?_) rfl (by kernel_rfl) (by kernel_rfl) (by kernel_rfl) (by kernel_rfl) (by kernel_rfl) (fun _ _ _ h => h) (Or.inl ⟨by rfl, ?_⟩) hHeld ?_
          rotate_left
          · intro w' hSw
            (try dsimp only at hSw)
            go_simp
            try with_reducible rfl
          try simp only [Act.put, List.setIfInBounds_toArray, List.set_cons_zero, List.set_cons_succ]
          refine AnyS_take (i := 6) (v := ?_) rfl (by kernel_rfl) (by kernel_rfl) (by kernel_rfl) (by kernel_rfl) (by kernel_rfl) (fun _ _ _ h => h) (Or.inl ⟨by rfl, ?_⟩) hHeld ?_
          rotate_left
          · intro w' hSw
            (try dsimp only at hSw)
            go_simp
            try with_reducible rfl
          try simp only [Act.put, List.setIfInBounds_toArray, List.set_cons_zero, List.set_cons_succ]
          refine AnyS_take (i := 7) (v := ?_) rfl (by kernel_rfl) (by kernel_rfl) (by kernel_rfl) (by kernel_rfl) (by kernel_rfl) (fun _ _ _ h => h) (Or.inl ⟨by rfl, ?_⟩) hHeld ?_
          rotate_left
          · intro w' hSw
            (try dsimp only at hSw)
            go_simp
            try with_reducible rfl
          try simp only [Act.put, List.setIfInBounds_toArray, List.set_cons_zero, List.set_cons_succ]
          refine AnyS_step (i := 8) rfl (by kernel_rfl) rfl (fun K hK => ?_)
          go_simp
          refine (windows_any xw s.window _ hxb.1 hxb.2 hsb.1 hsb.2).mono ?_
          rintro e w5 ⟨rfl, rfl⟩
          refine hK.out _ _ (hHeld) (fun hHeld => ?_)
          clear hK K
          try simp only [Act.put, List.setIfInBounds_toArray, List.set_cons_zero, List.set_cons_succ]
          refine AnyS_take (i := 9) (v := ?_) rfl (by kernel_rfl) (by kernel_rfl) (by kernel_rfl) (by kernel_rfl) (by kernel_rfl) (fun _ _ _ h => h) (Or.inl ⟨by rfl, ?_⟩) hHeld ?_
          rotate_left
          · intro w' hSw
            (try dsimp only at hSw)
            go_simp
            try with_reducible rfl
          try simp only [Act.put, List.setIfInBounds_toArray, List.set_cons_zero, List.set_cons_succ]
          refine AnyS_done (by kernel_rfl) (NoPanic.normal ?_) _
          try simp only [Act.put, List.setIfInBounds_toArray, List.set_cons_zero, List.set_cons_succ]
          show tailW _ _ _ _ _ _
          refine tail_step 4 seBody ?_
          show Code.wp _ _ _ _ _
          go_wp2_with (go_at_call 56; refine (HSPC.out _).mono ?_; rintro e w5 ⟨rfl, rfl⟩)
          show tailW _ _ _ _ _ _
          exact HF.out _ _ HSP.out.1 HSP.out.2 _ _ _ _ _ _ _ _ _ _ _ _ _ _ _ _ _ _ _ _ _ _ _ _ _ _ _ _ _ _ _ _ _ _ _ _ _ _ _ _ _ _ _ _ _ _ _ _ _ _ _ _ _ _ _ _ _ _ _ _ _ _ _ _ _ _ _ _ _ _ _ _ _ _ _ _ _ _
        · rw [if_pos hg]
          have t3 : (g3 != 0) = true := bne_iff_ne.2 hg
          refine tail_step 2 seBody ?_
          show Code.wp _ _ _ _ _
          go_wp2
          show tailW _ _ _ _ _ _
          refine tail_step 3 seBody ?_
          show Code.wp _ _ _ _ _
          refine wp_region_S (fun W' => W'.cell? ⟨kb, 0, none⟩ = some (.int .i64 xw) ∧ W'.cell? ⟨b, 8, none⟩ = some (.int .i64 s.window)) 10 (by kernel_rfl) (⟨d0, b8⟩) (fun hHeld => ?_)
          refine AnyS_take (i := 0) (v := ?_) rfl (by kernel_rfl) (by kernel_rfl) (by kernel_rfl) (by kernel_rfl) (by kernel_rfl) (fun _ _ _ h => h) (Or.inl ⟨by rfl, ?_⟩) hHeld ?_
          rotate_left
          · intro w' hSw
            (try dsimp only at hSw)
            go_simp
            try with_reducible rfl
          try simp only [Act.put, List.setIfInBounds_toArray, List.set_cons_zero, List.set_cons_succ]
          refine AnyS_take (i := 1) (v := ?_) rfl (by kernel_rfl) (by kernel_rfl) (by kernel_rfl) (by kernel_rfl) (by kernel_rfl) (fun _ _ _ h => h) (Or.inl ⟨by rfl, ?_⟩) hHeld ?_
          rotate_left
          · intro w' hSw
            (try dsimp only at hSw)
            go_simp
            try with_reducible rfl
          try simp only [Act.put, List.setIfInBounds_toArray, List.set_cons_zero, List.set_cons_succ]
          refine AnyS_take (i := 2) (v := ?_) rfl (by kernel_rfl) (by kernel_rfl) (by kernel_rfl) (by kernel_rfl) (by kernel_rfl) (fun _ _ _ h => h) (Or.inl ⟨by rfl, ?_⟩) hHeld ?_
          rotate_left
          · intro w' hSw
            (try dsimp only at hSw)
            go_simp
            try with_reducible rfl
          try simp only [Act.put, List.setIfInBounds_toArray, List.set_cons_zero, List.set_cons_succ]
          refine AnyS_take (i := 3) (v := ?_) rfl (by kernel_rfl) (by kernel_rfl) (by kernel_rfl) (by kernel_rfl) (by kernel_rfl) (fun _ _ _ h => h) (Or.inl ⟨by rfl, ?_⟩) hHeld ?_
          rotate_left
          · intro w' hSw
            (try dsimp only at hSw)
            go_simp
            try with_reducible rfl
          try simp only [Act.put, List.setIfInBounds_toArray, List.set_cons_zero, List.set_cons_succ]
          refine AnyS_take (i := 4) (v := ?_) rfl (by kernel_rfl) (by kernel_rfl) (by kernel_rfl) (by kernel_rfl) (by kernel_rfl) (fun _ _ _ h => h) (Or.inl ⟨by rfl, ?_⟩) hHeld ?_
          rotate_left
          · intro w' hSw
            (try dsimp only at hSw)
            go_simp
            try with_reducible rfl
          try simp only [Act.put, List.setIfInBounds_toArray, List.set_cons_zero, List.set_cons_succ]
          refine AnyS_take (i := 5) (v := ?_) rfl (by kernel_rfl) (by kernel_rfl) (by kernel_rfl) (by kernel_rfl) (by kernel_rfl) (fun _ _ _ h => h) (Or.inl ⟨by rfl, ?_⟩) hHeld ?_
          rotate_left
          · intro w' hSw
            (try dsimp only at hSw)
            go_simp
            try with_reducible rfl
          try simp only [Act.put, List.setIfInBounds_toArray, List.set_cons_zero, List.set_cons_succ]
          refine AnyS_take (i := 6) (v := ?_) rfl (by kernel_rfl) (by kernel_rfl) (by kernel_rfl) (by kernel_rfl) (by kernel_rfl) (fun _ _ _ h => h) (Or.inl ⟨by rfl, ?_⟩) hHeld ?_
          rotate_left
          · intro w' hSw
            (try dsimp only at hSw)
            go_simp
            try with_reducible rfl
          try simp only [Act.put, List.setIfInBounds_toArray, List.set_cons_zero, List.set_cons_succ]
          refine AnyS_take (i := 7) (v := ?_) rfl (by kernel_rfl) (by kernel_rfl) (by kernel_rfl) (by kernel_rfl) (by kernel_rfl) (fun _ _ _ h => h) (Or.inl ⟨by rfl, ?_⟩) hHeld ?_
          rotate_left
          · intro w' hSw
            (try dsimp only at hSw)
            go_simp
            try with_reducible rfl
          try simp only [Act.put, List.setIfInBounds_toArray, List.set_cons_zero, List.set_cons_succ]
          refine AnyS_step (i := 8) rfl (by kernel_rfl) rfl (fun K hK => ?_)
          go_simp
          refine (windows_any xw s.window _ hxb.1 hxb.2 hsb.1 hsb.2).mono ?_
          rintro e w5 ⟨rfl, rfl⟩
          refine hK.out _ _ (hHeld) (fun hHeld => ?_)
          clear hK K
          try simp only [Act.put, List.setIfInBounds_toArray, List.set_cons_zero, List.set_cons_succ]
          refine AnyS_take (i := 9) (v := ?_) rfl (by kernel_rfl) (by kernel_rfl) (by kernel_rfl) (by kernel_rfl) (by kernel_rfl) (fun _ _ _ h => h) (Or.inl ⟨by rfl, ?_⟩) hHeld ?_
          rotate_left
          · intro w' hSw
            (try dsimp only at hSw)
            go_simp
            try with_reducible rfl
          try simp only [Act.put, List.setIfInBounds_toArray, List.set_cons_zero, List.set_cons_succ]
          refine AnyS_done (by kernel_rfl) (NoPanic.normal ?_) _
          try simp only [Act.put, List.setIfInBounds_toArray, List.set_cons_zero, List.set_cons_succ]
          show tailW _ _ _ _ _ _
          refine tail_step 4 seBody ?_
          show Code.wp _ _ _ _ _
          go_wp2_with (go_at_call 56; refine (HSPC.out _).mono ?_; rintro e w5 ⟨rfl, rfl⟩)
          go_ret
          exact ⟨rfl, v, S0, s, Sim.refl s, H.out.drew, HU.out.drew⟩

set_option maxRecDepth 100000 in
set_option maxHeartbeats 1000000 in
theorem sends_any (w : World) (b : Nat) (v : Locs) (s : WatchS) (S : Own) (h : WAt w b v s S) (hwin : Go.Proofs.YthmfifcogokpoaaDoor.W s.window) (hm : ∀ x ∈ s.m, Go.Proofs.YthmfifcogokpoaaDoor.W x.2.window) (f : FrameS) (A : Option Addr) (c : Nat) (p : PartS) (A1 : Option Addr) (c1 : Nat) (A2 : Option Addr) (c2 : Nat)
    (hrd : Rd w 1 A1 p.data.length c1 (bys p.data)) (hA1 : ∀ k, blockOf A1 = some k → k < w.heap.size ∧ ¬ S k) (hbig : ∀ x ∈ s.m, x.2.data.length + p.data.length ≤ 1000000000) (hf : f.body.length ≤ 1000000000) :
    Calls Tryd.prog 36 #[.pointer (some ⟨b, 0, none⟩), f.v A c, p.v A1 c1 A2 c2] w (RightQ b (sendsS s f p) S w) := by
  obtain ⟨W1, hW1⟩ : ∃ W1, W1 = (w.alloc (.cells #[.int .i64 f.kind, .int .i64 f.flags, .int .i64 f.stream, .slice A f.body.length c] 29)).alloc (.cells (p.cells A1 c1 A2 c2).toArray 82) := ⟨_, rfl⟩
  have hb1 : Below w.heap.size w W1 := by rw [hW1]; exact ((Below.refl _ _).alloc (Nat.le_refl _) _).alloc (by simp) _
  have hf1 : Blk W1 w.heap.size 29 [.int .i64 f.kind, .int .i64 f.flags, .int .i64 f.stream, .slice A f.body.length c] := by rw [hW1]; exact (Blk.new w _ [.int .i64 f.kind, .int .i64 f.flags, .int .i64 f.stream, .slice A f.body.length c]).alloc _
  have hp1 : Blk W1 (w.heap.size + 1) 82 (p.cells A1 c1 A2 c2) := by rw [hW1]; exact Blk.push (by simp)
  have hk1 := h.below hb1
  have hu1 : Upd S S w W1 := Upd.of_below hb1 fun _ hk => .inl hk
  have hS := h.lt
  have HLV := Lib.hid (fun q => live_any (W1.drewN q) b v s S (hk1.drewN q) f.stream)
  have HN := Lib.hid (fun (n : Nat) => se_none w W1.drew b v s S S hk1.drew hu1.drew n)
  have HS := Lib.hid (fun (i kb : Nat) (x : StrS) hx hkb => se_some w W1.drew b v s S S hk1.drew hu1.drew f.stream i kb (w.heap.size + 1) f.body.length x hx hkb (hm _ (List.mem_of_getElem? hx)) hwin p A1 c1 A2 c2 hp1.drew (fun hk => by have := hS _ hk; omega) ((hrd.grow (by omega) hb1).keep fun _ _ => rfl) (fun k hk => ⟨Nat.lt_of_lt_of_le (hA1 k hk).1 hb1.size, (hA1 k hk).2⟩) (hbig _ (List.mem_of_getElem? hx)) hf)
  have f2 := hf1.cell 2
  have f3 := hf1.cell 3
  simp only [List.getElem?_cons_succ, List.getElem?_cons_zero] at f2 f3
  have hli : ∀ i, liveS s f.stream = some i → ∃ x, s.m[i]? = some (f.stream, x) := fun i hi => by
    unfold liveS at hi
    split at hi
    · cases hi
    · split at hi
      · simp only [Option.some.injEq] at hi
        subst hi
        exact idxS_at (by assumption)
      · cases hi
  have HLI := Lib.hid hli
  have HW1 := Lib.hid hW1
  clear h hwin hm hrd hA1 hbig hf hf1 hp1 hk1 hu1 hS hb1 hli hW1
  cases hlv : liveS s f.stream with
  | none =>
    have hres : sendsS s f p = (false, s) := by unfold sendsS; rw [hlv]
    rw [hres]
    rw [hlv] at HLV
    simp only at HLV
    clear hres hlv HS HLI
    go_enter Tryd.func36, Tryd.ntmps36
    unfold FrameS.v PartS.v
    refine wp_cut_as seBody (by kernel_rfl) 1 ?_
    show Code.wp _ _ _ _ _
    go_wp2
    show tailW _ _ _ _ _ _
    refine tail_step 1 seBody ?_
    show Code.wp _ _ _ _ _
    have hWW : (w.alloc (.cells #[.int .i64 f.kind, .int .i64 f.flags, .int .i64 f.stream, .slice A f.body.length c] 29)).alloc (.cells (p.cells A1 c1 A2 c2).toArray 82) = W1 := HW1.out.symm
    simp only [PartS.cells] at hWW
    rw [hWW]
    clear hWW
    refine wp_region_S (fun W' => W'.cell? ⟨w.heap.size, 2, none⟩ = some (.int .i64 f.stream) ∧ W'.cell? ⟨w.heap.size, 3, none⟩ = some (.slice A f.body.length c)) 9 (by kernel_rfl) (⟨f2, f3⟩) (fun hHeld => ?_)
    refine AnyS_take (i := 0) (v := ?_) rfl (by kernel_rfl) (by kernel_rfl) (by kernel_rfl) (by kernel_rfl) (by kernel_rfl) (fun _ _ _ h => h) (Or.inl ⟨by rfl, ?_⟩) hHeld ?_
    rotate_left
    · intro w' hSw
      (try dsimp only at hSw)
      go_simp
      try with_reducible rfl
    try simp only [Act.put, List.setIfInBounds_toArray, List.set_cons_zero, List.set_cons_succ]
    refine AnyS_take (i := 1) (v := ?_) rfl (by kernel_rfl) (by kernel_rfl) (by kernel_rfl) (by kernel_rfl) (by kernel_rfl) (fun _ _ _ h => h) (Or.inl ⟨by rfl, ?_⟩) hHeld ?_
    rotate_left
    · intro w' hSw
      (try dsimp only at hSw)
      go_simp
      try with_reducible rfl
    try simp only [Act.put, List.setIfInBounds_toArray, List.set_cons_zero, List.set_cons_succ]
    refine AnyS_take (i := 2) (v := ?_) rfl (by kernel_rfl) (by kernel_rfl) (by kernel_rfl) (by kernel_rfl) (by kernel_rfl) (fun _ _ _ h => h) (Or.inl ⟨by rfl, ?_⟩) hHeld ?_
    rotate_left
    · intro w' hSw
      (try dsimp only at hSw)
      go_simp
      try with_reducible rfl
    try simp only [Act.put, List.setIfInBounds_toArray, List.set_cons_zero, List.set_cons_succ]
    refine AnyS_take (i := 4) (v := ?_) rfl (by kernel_rfl) (by kernel_rfl) (by kernel_rfl) (by kernel_rfl) (by kernel_rfl) (fun _ _ _ h => h) (Or.inl ⟨by rfl, ?_⟩) hHeld ?_
    rotate_left
    · intro w' hSw
      (try dsimp only at hSw)
      go_simp
      try with_reducible rfl
    try simp only [Act.put, List.setIfInBounds_toArray, List.set_cons_zero, List.set_cons_succ]
    refine AnyS_take (i := 5) (v := ?_) rfl (by kernel_rfl) (by kernel_rfl) (by kernel_rfl) (by kernel_rfl) (by kernel_rfl) (fun _ _ _ h => h) (Or.inl ⟨by rfl, ?_⟩) hHeld ?_
    rotate_left
    · intro w' hSw
      (try dsimp only at hSw)
      go_simp
      try with_reducible rfl
    try simp only [Act.put, List.setIfInBounds_toArray, List.set_cons_zero, List.set_cons_succ]
    refine AnyS_take (i := 6) (v := ?_) rfl (by kernel_rfl) (by kernel_rfl) (by kernel_rfl) (by kernel_rfl) (by kernel_rfl) (fun _ _ _ h => h) (Or.inl ⟨by rfl, ?_⟩) hHeld ?_
    rotate_left
    · intro w' hSw
      (try dsimp only at hSw)
      go_simp
      try with_reducible rfl
    try simp only [Act.put, List.setIfInBounds_toArray, List.set_cons_zero, List.set_cons_succ]
    refine AnyS_step (i := 3) rfl (by kernel_rfl) rfl (fun K hK => ?_)
    go_simp
    refine (HLV.out 1).mono ?_
    rintro e w5 ⟨rfl, rfl⟩
    refine hK.out _ _ (hHeld) (fun hHeld => ?_)
    clear hK K
    try simp only [Act.put, List.setIfInBounds_toArray, List.set_cons_zero, List.set_cons_succ]
    refine AnyS_take (i := 7) (v := ?_) rfl (by kernel_rfl) (by kernel_rfl) (by kernel_rfl) (by kernel_rfl) (by kernel_rfl) (fun _ _ _ h => h) (Or.inl ⟨by rfl, ?_⟩) hHeld ?_
    rotate_left
    · intro w' hSw
      (try dsimp only at hSw)
      go_simp
      try with_reducible rfl
    try simp only [Act.put, List.setIfInBounds_toArray, List.set_cons_zero, List.set_cons_succ]
    refine AnyS_take (i := 8) (v := ?_) rfl (by kernel_rfl) (by kernel_rfl) (by kernel_rfl) (by kernel_rfl) (by kernel_rfl) (fun _ _ _ h => h) (Or.inl ⟨by rfl, ?_⟩) hHeld ?_
    rotate_left
    · intro w' hSw
      (try dsimp only at hSw)
      go_simp
      try with_reducible rfl
    try simp only [Act.put, List.setIfInBounds_toArray, List.set_cons_zero, List.set_cons_succ]
    refine AnyS_done (by kernel_rfl) (NoPanic.normal ?_) _
    try simp only [Act.put, List.setIfInBounds_toArray, List.set_cons_zero, List.set_cons_succ]
    show tailW _ _ _ _ _ _
    exact HN.out _ _ _ _ _ _ _ _ _ _ _ _ _ _ _ _ _ _ _ _ _ _ _ _ _ _ _ _ _ _ _ _ _ _ _ _ _ _ _ _ _ _ _ _ _ _ _ _ _ _ _ _ _ _ _ _ _ _ _ _ _ _ _ _ _ _ _ _ _ _ _ _ _ _ _ _ _ _ _ _
  | some i =>
    obtain ⟨x, hx⟩ := HLI.out i hlv
    have HT := Lib.hid (fun kb hkb => HS.out i kb x hx hkb)
    have hres : sendsS s f p = (if x.begun = false ∨ s.sets.frame < f.body.length then (false, s)
      else if f.body.length = 0 then (true, { s with window := cutW s.window, m := s.m.set i (f.stream, { x with window := cutW x.window, data := x.data ++ p.data, ended := p.fin }) })
      else if (spendS (cutW x.window) (cutW s.window) f.body.length).2.2 ≠ 0 then (false, s)
      else (true, { s with window := (spendS (cutW x.window) (cutW s.window) f.body.length).2.1, m := s.m.set i (f.stream, { x with window := (spendS (cutW x.window) (cutW s.window) f.body.length).1, data := x.data ++ p.data, ended := p.fin }) })) := by
      unfold sendsS
      rw [hlv]
      simp only [sentTo, strOf_at hx]
    rw [← hres] at HT
    rw [hlv] at HLV
    simp only at HLV
    clear hlv HS HLI HN
    generalize sendsS s f p = res at *
    clear hres
    go_enter Tryd.func36, Tryd.ntmps36
    unfold FrameS.v PartS.v
    refine wp_cut_as seBody (by kernel_rfl) 1 ?_
    show Code.wp _ _ _ _ _
    go_wp2
    show tailW _ _ _ _ _ _
    refine tail_step 1 seBody ?_
    show Code.wp _ _ _ _ _
    have hWW : (w.alloc (.cells #[.int .i64 f.kind, .int .i64 f.flags, .int .i64 f.stream, .slice A f.body.length c] 29)).alloc (.cells (p.cells A1 c1 A2 c2).toArray 82) = W1 := HW1.out.symm
    simp only [PartS.cells] at hWW
    rw [hWW]
    clear hWW
    refine wp_region_S (fun W' => W'.cell? ⟨w.heap.size, 2, none⟩ = some (.int .i64 f.stream) ∧ W'.cell? ⟨w.heap.size, 3, none⟩ = some (.slice A f.body.length c)) 9 (by kernel_rfl) (⟨f2, f3⟩) (fun hHeld => ?_)
    refine AnyS_take (i := 0) (v := ?_) rfl (by kernel_rfl) (by kernel_rfl) (by kernel_rfl) (by kernel_rfl) (by kernel_rfl) (fun _ _ _ h => h) (Or.inl ⟨by rfl, ?_⟩) hHeld ?_
    rotate_left
    · intro w' hSw
      (try dsimp only at hSw)
      go_simp
      try with_reducible rfl
    try simp only [Act.put, List.setIfInBounds_toArray, List.set_cons_zero, List.set_cons_succ]
    refine AnyS_take (i := 1) (v := ?_) rfl (by kernel_rfl) (by kernel_rfl) (by kernel_rfl) (by kernel_rfl) (by kernel_rfl) (fun _ _ _ h => h) (Or.inl ⟨by rfl, ?_⟩) hHeld ?_
    rotate_left
    · intro w' hSw
      (try dsimp only at hSw)
      go_simp
      try with_reducible rfl
    try simp only [Act.put, List.setIfInBounds_toArray, List.set_cons_zero, List.set_cons_succ]
    refine AnyS_take (i := 2) (v := ?_) rfl (by kernel_rfl) (by kernel_rfl) (by kernel_rfl) (by kernel_rfl) (by kernel_rfl) (fun _ _ _ h => h) (Or.inl ⟨by rfl, ?_⟩) hHeld ?_
    rotate_left
    · intro w' hSw
      (try dsimp only at hSw)
      go_simp
      try with_reducible rfl
    try simp only [Act.put, List.setIfInBounds_toArray, List.set_cons_zero, List.set_cons_succ]
    refine AnyS_take (i := 4) (v := ?_) rfl (by kernel_rfl) (by kernel_rfl) (by kernel_rfl) (by kernel_rfl) (by kernel_rfl) (fun _ _ _ h => h) (Or.inl ⟨by rfl, ?_⟩) hHeld ?_
    rotate_left
    · intro w' hSw
      (try dsimp only at hSw)
      go_simp
      try with_reducible rfl
    try simp only [Act.put, List.setIfInBounds_toArray, List.set_cons_zero, List.set_cons_succ]
    refine AnyS_take (i := 5) (v := ?_) rfl (by kernel_rfl) (by kernel_rfl) (by kernel_rfl) (by kernel_rfl) (by kernel_rfl) (fun _ _ _ h => h) (Or.inl ⟨by rfl, ?_⟩) hHeld ?_
    rotate_left
    · intro w' hSw
      (try dsimp only at hSw)
      go_simp
      try with_reducible rfl
    try simp only [Act.put, List.setIfInBounds_toArray, List.set_cons_zero, List.set_cons_succ]
    refine AnyS_take (i := 6) (v := ?_) rfl (by kernel_rfl) (by kernel_rfl) (by kernel_rfl) (by kernel_rfl) (by kernel_rfl) (fun _ _ _ h => h) (Or.inl ⟨by rfl, ?_⟩) hHeld ?_
    rotate_left
    · intro w' hSw
      (try dsimp only at hSw)
      go_simp
      try with_reducible rfl
    try simp only [Act.put, List.setIfInBounds_toArray, List.set_cons_zero, List.set_cons_succ]
    refine AnyS_step (i := 3) rfl (by kernel_rfl) rfl (fun K hK => ?_)
    go_simp
    refine (HLV.out 1).mono ?_
    rintro e w5 ⟨rfl, kb, hkb, rfl⟩
    refine hK.out _ _ (hHeld) (fun hHeld => ?_)
    clear hK K
    try simp only [Act.put, List.setIfInBounds_toArray, List.set_cons_zero, List.set_cons_succ]
    refine AnyS_take (i := 7) (v := ?_) rfl (by kernel_rfl) (by kernel_rfl) (by kernel_rfl) (by kernel_rfl) (by kernel_rfl) (fun _ _ _ h => h) (Or.inl ⟨by rfl, ?_⟩) hHeld ?_
    rotate_left
    · intro w' hSw
      (try dsimp only at hSw)
      go_simp
      try with_reducible rfl
    try simp only [Act.put, List.setIfInBounds_toArray, List.set_cons_zero, List.set_cons_succ]
    refine AnyS_take (i := 8) (v := ?_) rfl (by kernel_rfl) (by kernel_rfl) (by kernel_rfl) (by kernel_rfl) (by kernel_rfl) (fun _ _ _ h => h) (Or.inl ⟨by rfl, ?_⟩) hHeld ?_
    rotate_left
    · intro w' hSw
      (try dsimp only at hSw)
      go_simp
      try with_reducible rfl
    try simp only [Act.put, List.setIfInBounds_toArray, List.set_cons_zero, List.set_cons_succ]
    refine AnyS_done (by kernel_rfl) (NoPanic.normal ?_) _
    try simp only [Act.put, List.setIfInBounds_toArray, List.set_cons_zero, List.set_cons_succ]
    show tailW _ _ _ _ _ _
    exact HT.out kb hkb _ _ _ _ _ _ _ _ _ _ _ _ _ _ _ _ _ _ _ _ _ _ _ _ _ _ _ _ _ _ _ _ _ _ _ _ _ _ _ _ _ _ _ _ _ _ _ _ _ _ _ _ _ _ _ _ _ _ _ _ _ _ _ _ _ _ _ _ _ _ _ _ _ _ _ _ _ _
end Go.Proofs.YthmfifcogokpoaaDoor
namespace Go.Proofs.YthmfifcogokpoaaDoor
open Go.RowKit

def statusB : ByteArray := ":status".toUTF8
/-- Headers went out. -/
noncomputable def answersS (s : WatchS) (f : FrameS) (p : PartS) : Bool × WatchS :=
  match liveS s f.stream with
  | none => (false, s)
  | some i =>
    if s.sets.frame < f.body.length then (false, s)
    else match blockS 2147483647 s.tab s.most p.data with
      | none => (false, { s with dead := true })
      | some r =>
        if (2147483647 : Int) < r.total then (false, { s with tab := r.tab, most := r.most })
        else match r.fs with
          | [] => (false, { s with tab := r.tab, most := r.most })
          | g :: _ =>
            if g.name ≠ statusB ∨ s.sets.table < r.most then (false, { s with tab := r.tab, most := r.most })
            else (true, { s with tab := r.tab, most := r.most, m := s.m.set i (f.stream, { strOf s i with begun := true, ended := p.fin }) })
theorem liveS_at {s : WatchS} {n i : Nat} (hi : liveS s n = some i) : ∃ x, s.m[i]? = some (n, x) := by
  unfold liveS at hi
  split at hi
  · cases hi
  · split at hi
    · simp only [Option.some.injEq] at hi
      subst hi
      exact idxS_at (by assumption)
    · cases hi
theorem setM_ok {B : Nat} {s : WatchS} (h : WOk B s) {i n : Nat} {x : StrS} (hx : s.m[i]? = some (n, x)) (y : StrS) (hd : y.data.length + s.outB.length ≤ B) (hw : W y.window) : WOk B { s with m := s.m.set i (n, y) } := by
  have hx2 := List.mem_of_getElem? hx
  refine ⟨h.head, h.inB, h.outB, fun z hz => ?_, fun z hz => ?_, fun z hz => ?_, h.win, h.sets⟩
  all_goals rcases List.mem_or_eq_of_mem_set hz with h1 | rfl
  · exact h.data z h1
  · exact hd
  · exact h.keys z h1
  · have h3 := h.keys _ hx2
    exact h3
  · exact h.wins z h1
  · exact hw
end Go.Proofs.YthmfifcogokpoaaDoor
namespace Go.Proofs.YthmfifcogokpoaaDoor
open Go.RowKit
section
variable {P : Program} {Q : Exit → Act → World → Prop} {md : Region.Mode} {S : World → Prop} {L : Nat} {l : List Oper}
theorem AnyS_stepG {i : Nat} {oi : Oper} {n : Nat} {done : Array Bool} {a : Act} {w : World} (hi : l[i]? = some oi) (hr : Region.ready md l.toArray done = [i]) (hw : Region.wanted oi (yielded l.toArray a.tmps) = true)
    (h : StepS P md l.toArray Q S L n done oi i a w) : AnyS P md l.toArray Q S L (n + 1) done a w := by
  refine ⟨fun h0 => (by rw [hr] at h0; cases h0), fun j hj => ?_⟩
  rw [hr, List.mem_singleton] at hj
  subst hj
  unfold wpOp
  rw [List.getElem?_toArray, hi]
  simp only [hw, if_true]
  exact .inl (h _ (Lib.hid fun _ _ h1 h2 => ⟨fun _ => h1, h2 h1⟩))
end
end Go.Proofs.YthmfifcogokpoaaDoor
namespace Go.Proofs.YthmfifcogokpoaaDoor
open Go.RowKit
open Go.ChangeMaps (setBlock)

noncomputable def anBody : Code := Tryd.f35.body.getD .skip
abbrev AnP (b : Nat) (r : Bool × WatchS) (S : Own) (w : World) : Exit → Act → World → Prop := bodyPost Tryd.prog Tryd.f35 (RightQ b r S w)

set_option maxRecDepth 100000 in
theorem an_none (w W : World) (b : Nat) (v : Locs) (s : WatchS) (S S0 : Own) (h : WAt W b v s S0) (hu : Upd S S0 w W) (u1 u2 u3 u4 u5 u6 u8 u9 u10 u11 u12 u13 u14 u15 u16 u17 u18 u19 u20 u21 u22 u23 u24 u25 u26 u27 u28 u29 u30 u31 u32 u33 u34 u35 u36 u37 u38 u39 u40 u41 u42 u43 u44 u45 u46 u47 u48 u49 u50 u51 u52 u53 u54 u55 u56 u57 u58 u59 u60 u61 u62 u63 u64 u65 u66 u67 u68 u69 u70 u71 u72 : Value) :
    tailW Tryd.prog 2 anBody (AnP b (false, s) S w) ⟨#[.pointer (some ⟨b, 0, none⟩), u1, u2, u3, u4, u5, u6, .pointer none, u8, u9, u10, u11, u12, u13, u14, u15, u16, u17, u18, u19, u20, u21, u22, u23, u24, u25, u26, u27, u28, u29, u30, u31, u32, u33, u34, u35, u36, u37, u38, u39, u40, u41, u42, u43, u44, u45, u46, u47, u48, u49, u50, u51, u52, u53, u54, u55, u56, u57, u58, u59, u60, u61, u62, u63, u64, u65, u66, u67, u68, u69, u70, u71, u72], []⟩ W := by
  have H := Lib.hid h
  have HU := Lib.hid hu
  clear h hu
  show Code.wp _ _ _ _ _
  go_wp2
  go_quiet (fail)
  go_wp2
  go_ret
  exact ⟨rfl, v, S0, s, Sim.refl s, H.out.drewN _, HU.out.drewN _⟩

set_option maxRecDepth 100000 in
theorem an_long (w W : World) (b : Nat) (v : Locs) (s : WatchS) (S S0 : Own) (h : WAt W b v s S0) (hu : Upd S S0 w W) (f : FrameS) (fb kb : Nat) (A : Option Addr) (c : Nat) (hf : Blk W fb 29 [.int .i64 f.kind, .int .i64 f.flags, .int .i64 f.stream, .slice A f.body.length c]) (hl : s.sets.frame < f.body.length) (u1 u2 u3 u5 u6 u8 u9 u10 u11 u12 u13 u14 u15 u16 u17 u18 u19 u20 u21 u22 u23 u24 u25 u26 u27 u28 u29 u30 u31 u32 u33 u34 u35 u36 u37 u38 u39 u40 u41 u42 u43 u44 u45 u46 u47 u48 u49 u50 u51 u52 u53 u54 u55 u56 u57 u58 u59 u60 u61 u62 u63 u64 u65 u66 u67 u68 u69 u70 u71 u72 : Value) :
    tailW Tryd.prog 2 anBody (AnP b (false, s) S w) ⟨#[.pointer (some ⟨b, 0, none⟩), u1, u2, u3, .pointer (some ⟨fb, 0, none⟩), u5, u6, .pointer (some ⟨kb, 0, none⟩), u8, u9, u10, u11, u12, u13, u14, u15, u16, u17, u18, u19, u20, u21, u22, u23, u24, u25, u26, u27, u28, u29, u30, u31, u32, u33, u34, u35, u36, u37, u38, u39, u40, u41, u42, u43, u44, u45, u46, u47, u48, u49, u50, u51, u52, u53, u54, u55, u56, u57, u58, u59, u60, u61, u62, u63, u64, u65, u66, u67, u68, u69, u70, u71, u72], []⟩ W := by
  have b14 := h.blk.cell 14
  have f3 := hf.cell 3
  simp only [WatchS.cells, List.getElem?_cons_succ, List.getElem?_cons_zero] at b14 f3
  have H := Lib.hid h
  have HU := Lib.hid hu
  have t1 : decide (s.sets.frame < (f.body.length : Int)) = true := decide_eq_true hl
  clear h hu hf
  show Code.wp _ _ _ _ _
  go_wp2
  go_quiet (fail)
  go_wp2
  go_ret
  exact ⟨rfl, v, S0, s, Sim.refl s, H.out.drewN _, HU.out.drewN _⟩
end Go.Proofs.YthmfifcogokpoaaDoor
