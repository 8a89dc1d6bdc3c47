/- What is proved here: contracts of the program's functions and plain lemmas that the claim's last text uses, in parts: WatchRight answers true, its middle; WatchRight answers true, its beginning; whole. -/
import Derived.Test.YthmfifcogokpoaaDoorM31
set_option linter.unusedVariables false
set_option linter.unusedSimpArgs false
namespace Go.Proofs.YthmfifcogokpoaaDoor
open Go.RowKit

theorem frames7 (n : Nat) (hn : n ≤ 16000) (W : World) (A1 : Option Addr) (c1 : Nat) (S1 : Own) (hr1 : Row 5 1 A1 0 c1 [] S1 W) (gh : Nat) (hl : Blk W gh 5 [.int .u8 136]) (gz : Nat) (hz : Row 5 1 (some ⟨gz, 0, none⟩) n n (bys (zeros n)) (· = gz) W) (A2 : Option Addr) (c2 : Nat) (S2 : Own) (hr2 : Row 5 1 A2 4 c2 (bys (numB 8 4)) S2 W) (g : Nat) (hg : g = W.heap.size) :
    Calls Tryd.prog 10 #[.slice (some ⟨g, 0, none⟩) 7 7] (W.alloc (.cells #[.int .i64 4, .int .i64 0, .int .i64 0, .slice A1 0 c1, .int .i64 1, .int .i64 4, .int .i64 1, .slice (some ⟨gh, 0, none⟩) 1 1, .int .i64 0, .int .i64 0, .int .i64 1, .slice (some ⟨gz, 0, none⟩) n n, .int .i64 0, .int .i64 0, .int .i64 1, .slice (some ⟨gz, 0, none⟩) n n, .int .i64 0, .int .i64 0, .int .i64 1, .slice (some ⟨gz, 0, none⟩) n n, .int .i64 0, .int .i64 0, .int .i64 1, .slice (some ⟨gz, 0, none⟩) n n, .int .i64 3, .int .i64 0, .int .i64 3, .slice A2 4 c2] 29)) (OwnQ (outB1 n) (W.alloc (.cells #[.int .i64 4, .int .i64 0, .int .i64 0, .slice A1 0 c1, .int .i64 1, .int .i64 4, .int .i64 1, .slice (some ⟨gh, 0, none⟩) 1 1, .int .i64 0, .int .i64 0, .int .i64 1, .slice (some ⟨gz, 0, none⟩) n n, .int .i64 0, .int .i64 0, .int .i64 1, .slice (some ⟨gz, 0, none⟩) n n, .int .i64 0, .int .i64 0, .int .i64 1, .slice (some ⟨gz, 0, none⟩) n n, .int .i64 0, .int .i64 0, .int .i64 1, .slice (some ⟨gz, 0, none⟩) n n, .int .i64 3, .int .i64 0, .int .i64 3, .slice A2 4 c2] 29))) := by
  subst hg
  have e1 : (dataF 0 n).body.length = n := zeros_length n
  have e2 : (rstF 3 8).body.length = 4 := rfl
  have hcs : frCells [(setF, A1, c1), (headF 1, some ⟨gh, 0, none⟩, 1), (dataF 0 n, some ⟨gz, 0, none⟩, n), (dataF 0 n, some ⟨gz, 0, none⟩, n), (dataF 0 n, some ⟨gz, 0, none⟩, n), (dataF 0 n, some ⟨gz, 0, none⟩, n), (rstF 3 8, A2, c2)] = [.int .i64 4, .int .i64 0, .int .i64 0, .slice A1 0 c1, .int .i64 1, .int .i64 4, .int .i64 1, .slice (some ⟨gh, 0, none⟩) 1 1, .int .i64 0, .int .i64 0, .int .i64 1, .slice (some ⟨gz, 0, none⟩) n n, .int .i64 0, .int .i64 0, .int .i64 1, .slice (some ⟨gz, 0, none⟩) n n, .int .i64 0, .int .i64 0, .int .i64 1, .slice (some ⟨gz, 0, none⟩) n n, .int .i64 0, .int .i64 0, .int .i64 1, .slice (some ⟨gz, 0, none⟩) n n, .int .i64 3, .int .i64 0, .int .i64 3, .slice A2 4 c2] := by
    simp only [frCells, List.flatMap_cons, List.flatMap_nil, e1, e2]
    rfl
  have hz1 : Rd (W.alloc (.cells #[.int .i64 4, .int .i64 0, .int .i64 0, .slice A1 0 c1, .int .i64 1, .int .i64 4, .int .i64 1, .slice (some ⟨gh, 0, none⟩) 1 1, .int .i64 0, .int .i64 0, .int .i64 1, .slice (some ⟨gz, 0, none⟩) n n, .int .i64 0, .int .i64 0, .int .i64 1, .slice (some ⟨gz, 0, none⟩) n n, .int .i64 0, .int .i64 0, .int .i64 1, .slice (some ⟨gz, 0, none⟩) n n, .int .i64 0, .int .i64 0, .int .i64 1, .slice (some ⟨gz, 0, none⟩) n n, .int .i64 3, .int .i64 0, .int .i64 3, .slice A2 4 c2] 29)) 1 (some ⟨gz, 0, none⟩) (dataF 0 n).body.length n (bys (dataF 0 n).body) := by
    rw [e1]; exact hz.rd.alloc (by omega) _
  have hzl : ∀ k, blockOf (some (⟨gz, 0, none⟩ : Addr)) = some k → k < (W.alloc (.cells #[.int .i64 4, .int .i64 0, .int .i64 0, .slice A1 0 c1, .int .i64 1, .int .i64 4, .int .i64 1, .slice (some ⟨gh, 0, none⟩) 1 1, .int .i64 0, .int .i64 0, .int .i64 1, .slice (some ⟨gz, 0, none⟩) n n, .int .i64 0, .int .i64 0, .int .i64 1, .slice (some ⟨gz, 0, none⟩) n n, .int .i64 0, .int .i64 0, .int .i64 1, .slice (some ⟨gz, 0, none⟩) n n, .int .i64 0, .int .i64 0, .int .i64 1, .slice (some ⟨gz, 0, none⟩) n n, .int .i64 3, .int .i64 0, .int .i64 3, .slice A2 4 c2] 29)).heap.size := fun k hk => by
    have := hz.lt k (hz.block k hk); simp; omega
  have hl1 : Row 5 1 (some ⟨gh, 0, none⟩) 1 1 [.int .u8 136] (· = gh) W := Row.made (cs := [.int .u8 136]) hl (by omega) (by simp [maxLen]) (by simp) rfl
  have h := frames_blk [(setF, A1, c1), (headF 1, some ⟨gh, 0, none⟩, 1), (dataF 0 n, some ⟨gz, 0, none⟩, n), (dataF 0 n, some ⟨gz, 0, none⟩, n), (dataF 0 n, some ⟨gz, 0, none⟩, n), (dataF 0 n, some ⟨gz, 0, none⟩, n), (rstF 3 8, A2, c2)] (W := W.alloc (.cells #[.int .i64 4, .int .i64 0, .int .i64 0, .slice A1 0 c1, .int .i64 1, .int .i64 4, .int .i64 1, .slice (some ⟨gh, 0, none⟩) 1 1, .int .i64 0, .int .i64 0, .int .i64 1, .slice (some ⟨gz, 0, none⟩) n n, .int .i64 0, .int .i64 0, .int .i64 1, .slice (some ⟨gz, 0, none⟩) n n, .int .i64 0, .int .i64 0, .int .i64 1, .slice (some ⟨gz, 0, none⟩) n n, .int .i64 0, .int .i64 0, .int .i64 1, .slice (some ⟨gz, 0, none⟩) n n, .int .i64 3, .int .i64 0, .int .i64 3, .slice A2 4 c2] 29)) (g := W.heap.size) (by rw [hcs]; exact Blk.new W _ [.int .i64 4, .int .i64 0, .int .i64 0, .slice A1 0 c1, .int .i64 1, .int .i64 4, .int .i64 1, .slice (some ⟨gh, 0, none⟩) 1 1, .int .i64 0, .int .i64 0, .int .i64 1, .slice (some ⟨gz, 0, none⟩) n n, .int .i64 0, .int .i64 0, .int .i64 1, .slice (some ⟨gz, 0, none⟩) n n, .int .i64 0, .int .i64 0, .int .i64 1, .slice (some ⟨gz, 0, none⟩) n n, .int .i64 0, .int .i64 0, .int .i64 1, .slice (some ⟨gz, 0, none⟩) n n, .int .i64 3, .int .i64 0, .int .i64 3, .slice A2 4 c2]) (by simp) (fun x hx => by
    simp only [List.mem_cons, List.not_mem_nil, or_false] at hx
    rcases hx with rfl | rfl | rfl | rfl | rfl | rfl | rfl
    · exact ⟨set_fits, hr1.rd.alloc (by omega) _, fun k hk => by have := hr1.lt k (hr1.block k hk); simp; omega⟩
    · exact ⟨head_fits 1 (by decide), hl1.rd.alloc (by omega) _, fun k hk => by have := hl1.lt k (hl1.block k hk); simp; omega⟩
    · exact ⟨data_fits 0 n (by omega) (by omega), hz1, hzl⟩
    · exact ⟨data_fits 0 n (by omega) (by omega), hz1, hzl⟩
    · exact ⟨data_fits 0 n (by omega) (by omega), hz1, hzl⟩
    · exact ⟨data_fits 0 n (by omega) (by omega), hz1, hzl⟩
    · exact ⟨rst_fits 3 8 (by decide), hr2.rd.alloc (by omega) _, fun k hk => by have := hr2.lt k (hr2.block k hk); simp; omega⟩) (by simp [allB, putB_length, e1, e2, setF, headF]; omega)
  simpa [allB, outB1] using h

set_option maxRecDepth 100000 in
set_option maxHeartbeats 1000000 in
theorem rg_mid (w W : World) (b n more : Nat) (S : Own) (hn : n ≤ 16000) (hm1 : 1 ≤ more) (hm2 : more ≤ 30000) (h : Hold w W b rA S) (u2 u3 u4 u6 u7 u8 u9 u10 u11 u12 u13 u14 u15 u16 u17 u18 u19 u20 u21 u22 u23 u24 u25 u26 u27 u28 u29 u30 u31 u32 u33 u34 u35 u36 u37 u38 u39 u40 u41 u42 u43 u44 u45 u46 u47 u48 u49 u50 u51 u52 u53 u54 u55 u56 u57 u58 u59 u60 u61 u62 u63 u64 u65 u66 u67 u68 u69 u70 u71 u72 u73 u74 u75 u76 u77 u78 u79 u80 u81 u82 u83 u84 u85 u86 u87 u88 u89 u90 u91 u92 u93 u94 u95 u96 u97 u98 u99 u100 u101 u102 u103 u104 u105 u106 u107 u108 u109 u110 u111 u112 u113 u114 u115 u116 u117 : Value) :
    tailW Tryd.prog 6 rgBody (RgP w) ⟨#[.int .i64 n, .int .i64 more, u2, u3, u4, .pointer (some ⟨b, 0, none⟩), u6, u7, u8, u9, u10, u11, u12, u13, u14, u15, u16, u17, u18, u19, u20, u21, u22, u23, u24, u25, u26, u27, u28, u29, u30, u31, u32, u33, u34, u35, u36, u37, u38, u39, u40, u41, u42, u43, u44, u45, u46, u47, u48, u49, u50, u51, u52, u53, u54, u55, u56, u57, u58, u59, u60, u61, u62, u63, u64, u65, u66, u67, u68, u69, u70, u71, u72, u73, u74, u75, u76, u77, u78, u79, u80, u81, u82, u83, u84, u85, u86, u87, u88, u89, u90, u91, u92, u93, u94, u95, u96, u97, u98, u99, u100, u101, u102, u103, u104, u105, u106, u107, u108, u109, u110, u111, u112, u113, u114, u115, u116, u117], []⟩ W := by
  have hlo : (outB1 n).length ≤ 65000 := by
    simp only [outB1, List.length_append, putB_length]
    simp [setF, headF, dataF, rstF, zeros, numB_length]
    omega
  have hout := out_one n hn
  have hok := outS_ok rA_ok (outB1 n) (by omega)
  rw [hout] at hok
  have HO := Lib.hid (fun (W : World) (S : Own) (h : HAt W b rA S) (A : Option Addr) (c : Nat) (S1 : Own) (hr : Row 5 1 A (outB1 n).length c (bys (outB1 n)) S1 W) (ha : Apart S1 S) => out_row h rA_ok (fun h => by cases h) hr ha (by omega) _ hout 0 rfl)
  have HEND := Lib.hid (fun (W : World) (S : Own) (h : Hold w W b (rS (65535 - 4 * (n : Int)) (zeros n ++ zeros n ++ zeros n ++ zeros n) false true 7) S) => rg_end w W b n more S hn hm1 hm2 _ (by simp only [List.length_append, zeros_length]; omega) h hok (by omega))
  have HF := Lib.hid (frames7 n hn)
  have HST := Lib.hid (fun (W : World) => show Calls Tryd.prog 11 #[.slice none 0 0, .bool false] W fun e w' => ∃ A c S, e = .returned (.agg #[.int .i64 4, .int .i64 0, .int .i64 0, .slice A 0 c]) ∧ Row 5 1 A 0 c [] S w' ∧ Upd none_ S W w' from refSettings_no W)
  have HRS := Lib.hid (fun (W : World) => show Calls Tryd.prog 15 #[.int .i64 3, .int .i64 8] W fun e w' => ∃ A c S, e = .returned (.agg #[.int .i64 3, .int .i64 0, .int .i64 3, .slice A 4 c]) ∧ Row 5 1 A 4 c (bys (numB 8 4)) S w' ∧ Upd none_ S W w' from refRst_any 3 8 (by decide) (by decide) W)
  have HMK := run_makeBytes n (by omega)
  have HRZ := Lib.hid (row_zeros n (by omega) W)
  have HH := Lib.hid h
  unfold OwnQ at HF
  unfold OutR at HO
  generalize outB1 n = l1 at *
  clear hout hok h hlo
  refine tail_step 6 rgBody ?_
  show Code.wp _ _ _ _ _
  go_wp2
  show tailW _ _ _ _ _ _
  have hltS := HH.out.at_.lt
  have HZ0 := Lib.hid (HRZ.out.loc fun k hk => Below.heap_alloc (W.alloc (.cells (bys (zeros n)).toArray 5)) (.cells #[.int .i64 0, .int .i64 0, .int .i64 1, .slice (some ⟨W.heap.size, 0, none⟩) n n] 29) k (HRZ.out.lt k hk))
  have HH0 := Lib.hid ((HH.out.alloc (.cells (bys (zeros n)).toArray 5)).alloc (.cells #[.int .i64 0, .int .i64 0, .int .i64 1, .slice (some ⟨W.heap.size, 0, none⟩) n n] 29))
  have hbig : Blk ((W.alloc (.cells (bys (zeros n)).toArray 5)).alloc (.cells #[.int .i64 0, .int .i64 0, .int .i64 1, .slice (some ⟨W.heap.size, 0, none⟩) n n] 29)) (W.heap.size + 1) 29 [.int .i64 0, .int .i64 0, .int .i64 1, .slice (some ⟨W.heap.size, 0, none⟩) n n] := Blk.push (cs := [.int .i64 0, .int .i64 0, .int .i64 1, .slice (some ⟨W.heap.size, 0, none⟩) n n]) (by simp)
  have hnS : ¬ S (W.heap.size + 1) := fun h => by have := hltS _ h; omega
  clear hltS HMK HRZ HH
  generalize hgz : W.heap.size = gz at *
  generalize hbb : gz + 1 = bb at *
  have HGZ := Lib.hid hgz
  have HBB := Lib.hid hbb
  clear hgz hbb
  generalize (W.alloc (.cells (bys (zeros n)).toArray 5)).alloc (.cells #[.int .i64 0, .int .i64 0, .int .i64 1, .slice (some ⟨gz, 0, none⟩) n n] 29) = W0 at *
  have HU0 := Lib.hid (show Upd none_ none_ W0 W0 from Upd.refl _ _)
  have b0 := hbig.cell 0
  have b1 := hbig.cell 1
  have b2 := hbig.cell 2
  have b3 := hbig.cell 3
  have hltb := hbig.lt
  simp only [List.getElem?_cons_succ, List.getElem?_cons_zero] at b0 b1 b2 b3
  have HKS := Lib.hid (show ∀ (W' : World) (S' : Own), Upd none_ S' W0 W' → W'.cell? ⟨bb, 0, none⟩ = some (.int .i64 0) ∧ W'.cell? ⟨bb, 1, none⟩ = some (.int .i64 0) ∧ W'.cell? ⟨bb, 2, none⟩ = some (.int .i64 1) ∧ W'.cell? ⟨bb, 3, none⟩ = some (.slice (some ⟨gz, 0, none⟩) n n) from
    fun W' S' hu => ⟨(hu.cell (a := ⟨bb, 0, none⟩) hltb (fun h => h)).trans b0, (hu.cell (a := ⟨bb, 1, none⟩) hltb (fun h => h)).trans b1, (hu.cell (a := ⟨bb, 2, none⟩) hltb (fun h => h)).trans b2, (hu.cell (a := ⟨bb, 3, none⟩) hltb (fun h => h)).trans b3⟩)
  have HKT := Lib.hid (show ∀ (W7 W8 : World) (S' : Own), Upd none_ S' W0 W7 → ∀ {S8 : Own}, Upd S S8 W7 W8 → W8.cell? ⟨bb, 0, none⟩ = some (.int .i64 0) ∧ W8.cell? ⟨bb, 1, none⟩ = some (.int .i64 0) ∧ W8.cell? ⟨bb, 2, none⟩ = some (.int .i64 1) ∧ W8.cell? ⟨bb, 3, none⟩ = some (.slice (some ⟨gz, 0, none⟩) n n) from
    fun W7 W8 S' hu S8 hv => by
      obtain ⟨k0, k1, k2, k3⟩ := HKS.out W7 S' hu
      have hlt7 := Nat.lt_of_lt_of_le hltb hu.size
      exact ⟨(hv.cell (a := ⟨bb, 0, none⟩) hlt7 hnS).trans k0, (hv.cell (a := ⟨bb, 1, none⟩) hlt7 hnS).trans k1, (hv.cell (a := ⟨bb, 2, none⟩) hlt7 hnS).trans k2, (hv.cell (a := ⟨bb, 3, none⟩) hlt7 hnS).trans k3⟩)
  clear hbig b0 b1 b2 b3 hltb hnS
  refine tail_step 7 rgBody ?_
  show Code.wp _ _ _ _ _
  refine wp_region_S (fun W' => W'.cell? ⟨bb, 0, none⟩ = some (.int .i64 0) ∧ W'.cell? ⟨bb, 1, none⟩ = some (.int .i64 0) ∧ W'.cell? ⟨bb, 2, none⟩ = some (.int .i64 1) ∧ W'.cell? ⟨bb, 3, none⟩ = some (.slice (some ⟨gz, 0, none⟩) n n)) 13 (by kernel_rfl) ((HKS.out _ _ HU0.out.drew)) (fun hHeld => ?_)
  refine AnyS_take (i := 0) (v := ?_) rfl (by kernel_rfl) (by kernel_rfl) (by kernel_rfl) (by kernel_rfl) (by kernel_rfl) (fun _ _ _ h => h) (Or.inl ⟨by rfl, ?_⟩) hHeld ?_
  rotate_left
  · intro w' hSw
    (try dsimp only at hSw)
    go_simp
    try with_reducible rfl
  try simp only [Act.put, List.setIfInBounds_toArray, List.set_cons_zero, List.set_cons_succ]
  refine AnyS_take (i := 4) (v := ?_) rfl (by kernel_rfl) (by kernel_rfl) (by kernel_rfl) (by kernel_rfl) (by kernel_rfl) (fun _ _ _ h => h) (Or.inl ⟨by rfl, ?_⟩) hHeld ?_
  rotate_left
  · intro w' hSw
    (try dsimp only at hSw)
    go_simp
    try with_reducible rfl
  try simp only [Act.put, List.setIfInBounds_toArray, List.set_cons_zero, List.set_cons_succ]
  refine AnyS_take (i := 5) (v := ?_) rfl (by kernel_rfl) (by kernel_rfl) (by kernel_rfl) (by kernel_rfl) (by kernel_rfl) (fun _ _ _ h => h) (Or.inl ⟨by rfl, ?_⟩) hHeld ?_
  rotate_left
  · intro w' hSw
    (try dsimp only at hSw)
    go_simp
    try with_reducible rfl
  try simp only [Act.put, List.setIfInBounds_toArray, List.set_cons_zero, List.set_cons_succ]
  refine AnyS_take (i := 6) (v := ?_) rfl (by kernel_rfl) (by kernel_rfl) (by kernel_rfl) (by kernel_rfl) (by kernel_rfl) (fun _ _ _ h => h) (Or.inl ⟨by rfl, ?_⟩) hHeld ?_
  rotate_left
  · intro w' hSw
    (try dsimp only at hSw)
    go_simp
    try with_reducible rfl
  try simp only [Act.put, List.setIfInBounds_toArray, List.set_cons_zero, List.set_cons_succ]
  refine AnyS_take (i := 7) (v := ?_) rfl (by kernel_rfl) (by kernel_rfl) (by kernel_rfl) (by kernel_rfl) (by kernel_rfl) (fun _ _ _ h => h) (Or.inl ⟨by rfl, ?_⟩) hHeld ?_
  rotate_left
  · intro w' hSw
    (try dsimp only at hSw)
    go_simp
    try with_reducible rfl
  try simp only [Act.put, List.setIfInBounds_toArray, List.set_cons_zero, List.set_cons_succ]
  have HH1 := Lib.hid HH0.out.drew
  have HZ1 := Lib.hid (HZ0.out.loc (w' := W0.drew) fun _ _ => rfl)
  have HU1 := Lib.hid HU0.out.drew
  clear HH0 HZ0 HU0
  refine AnyS_two (i := 1) (j := 2) rfl rfl (by kernel_rfl) rfl rfl (fun K hK => ?_) (fun K hK => ?_)
  · go_simp
    refine (HST.out _).mono ?_
    rintro e w2 ⟨A1, c1, S1, rfl, hr, hu⟩
    have HH2 := Lib.hid (HH1.out.fresh hu)
    have HZ2 := Lib.hid (HZ1.out.upd hu (fun _ _ h => h))
    have HU2 := Lib.hid ((HU1.out.holds (S'' := none_) fun _ h => h.elim).trans hu)
    have HS2 := Lib.hid hr
    clear hr hu
    refine hK.out _ _ (HKS.out _ _ HU2.out) (fun hHeld => ?_)
    clear hK K
    try simp only [Act.put, List.setIfInBounds_toArray, List.set_cons_zero, List.set_cons_succ]
    refine AnyS_two (i := 2) (j := 8) rfl rfl (by kernel_rfl) rfl rfl (fun K hK => ?_) (fun K hK => ?_)
    · go_simp
      have HH3 := Lib.hid (HH2.out.alloc (.cells #[.int .u8 136] 5))
      have HZ3 := Lib.hid (HZ2.out.loc fun k hk => Below.heap_alloc w2 (.cells #[.int .u8 136] 5) k (HZ2.out.lt k hk))
      have HU3 := Lib.hid (HU2.out.alloc (.cells #[.int .u8 136] 5))
      have HL3 := Lib.hid (Blk.new w2 5 [.int .u8 136])
      have HS3 := Lib.hid (HS2.out.loc fun k hk => Below.heap_alloc w2 (.cells #[.int .u8 136] 5) k (HS2.out.lt k hk))
      refine hK.out _ _ (HKS.out _ _ HU3.out) (fun hHeld => ?_)
      clear hK K
      try simp only [Act.put, List.setIfInBounds_toArray, List.set_cons_zero, List.set_cons_succ]
      refine AnyS_plain (i := 3) (v := ?_) rfl (by kernel_rfl) (by kernel_rfl) (by kernel_rfl) (by kernel_rfl) (fun _ _ _ h => h) (Or.inl ⟨by rfl, ?_⟩) hHeld ?_
      rotate_left
      · intro w' hSw
        (try dsimp only at hSw)
        go_simp
        try with_reducible rfl
      try simp only [Act.put, List.setIfInBounds_toArray, List.set_cons_zero, List.set_cons_succ]
      refine AnyS_step (i := 8) rfl (by kernel_rfl) rfl (fun K hK => ?_)
      go_simp
      refine (HRS.out _).mono ?_
      rintro e w4 ⟨A2, c2, S2, rfl, hr, hu⟩
      have HH4 := Lib.hid (HH3.out.fresh hu)
      have HZ4 := Lib.hid (HZ3.out.upd hu (fun _ _ h => h))
      have HU4 := Lib.hid ((HU3.out.holds (S'' := none_) fun _ h => h.elim).trans hu)
      have HR4 := Lib.hid hr
      have HS4 := Lib.hid (HS3.out.upd hu (fun _ _ h => h))
      have HL4 := Lib.hid (HL3.out.upd hu (fun h => h))
      clear hr hu
      refine hK.out _ _ (HKS.out _ _ HU4.out) (fun hHeld => ?_)
      clear hK K
      try simp only [Act.put, List.setIfInBounds_toArray, List.set_cons_zero, List.set_cons_succ]
      clear hHeld
      have hHeld := HKS.out _ _ HU4.out
      refine AnyS_step (i := 9) rfl (by kernel_rfl) rfl (fun K hK => ?_)
      go_simp
      refine hK.out _ _ (HKS.out _ _ (HU4.out.alloc _)) (fun hHeld => ?_)
      clear hK K
      try simp only [Act.put, List.setIfInBounds_toArray, List.set_cons_zero, List.set_cons_succ]
      refine AnyS_step (i := 10) rfl (by kernel_rfl) rfl (fun K hK => ?_)
      go_simp
      refine (HF.out w4 A1 c1 _ HS4.out w2.heap.size HL4.out _ HZ4.out A2 c2 _ HR4.out _ (by simp)).mono ?_
      rintro e w7 ⟨A7, c7, S7, rfl, hr, hu⟩
      have HR7 := Lib.hid hr
      have HH7 := Lib.hid ((HH4.out.alloc _).fresh hu)
      have HA7 := Lib.hid (hu.fresh (HH4.out.alloc _).at_.lt)
      have HU7 := Lib.hid (((HU4.out.alloc _).holds (S'' := none_) fun _ h => h.elim).trans hu)
      clear hr hu
      refine hK.out _ _ (HKS.out _ _ HU7.out) (fun hHeld => ?_)
      clear hK K
      try simp only [Act.put, List.setIfInBounds_toArray, List.set_cons_zero, List.set_cons_succ]
      refine AnyS_step (i := 11) rfl (by kernel_rfl) rfl (fun K hK => ?_)
      go_simp
      refine (HO.out w7 S HH7.out.at_ A7 c7 S7 HR7.out HA7.out).mono ?_
      rintro e w8 ⟨rfl, S8, hh, hu⟩
      have HH8 := Lib.hid (HH7.out.turn hh hu)
      have hKeep := HKT.out w7 w8 _ HU7.out hu
      clear hh hu
      refine hK.out _ _ (hKeep) (fun hHeld => ?_)
      clear hK K
      try simp only [Act.put, List.setIfInBounds_toArray, List.set_cons_zero, List.set_cons_succ]
      refine AnyS_take (i := 12) (v := ?_) rfl (by kernel_rfl) (by kernel_rfl) (by kernel_rfl) (by kernel_rfl) (by kernel_rfl) (fun _ _ _ h => h) (Or.inl ⟨by rfl, ?_⟩) hHeld ?_
      rotate_left
      · intro w' hSw
        (try dsimp only at hSw)
        go_simp
        try with_reducible rfl
      try simp only [Act.put, List.setIfInBounds_toArray, List.set_cons_zero, List.set_cons_succ]
      refine AnyS_done (by kernel_rfl) (NoPanic.normal ?_) _
      try simp only [Act.put, List.setIfInBounds_toArray, List.set_cons_zero, List.set_cons_succ]
      show tailW _ _ _ _ _ _
      exact HEND.out w8 S8 HH8.out _ _ _ _ _ _ _ _ _ _ _ _ _ _ _ _ _ _ _ _ _ _ _ _ _ _ _ _ _ _ _ _ _ _ _ _ _ _ _ _ _ _ _ _ _ _ _ _ _ _ _ _ _ _ _ _ _ _ _ _ _ _ _ _ _ _ _ _ _ _ _ _ _ _ _ _ _ _ _ _ _ _ _ _ _ _ _ _ _ _ _ _ _ _ _ _ _ _ _ _ _ _ _ _ _ _ _ _ _ _ _ _ _ _
    · go_simp
      refine (HRS.out _).mono ?_
      rintro e w3 ⟨A2, c2, S2, rfl, hr, hu⟩
      have HH3 := Lib.hid (HH2.out.fresh hu)
      have HZ3 := Lib.hid (HZ2.out.upd hu (fun _ _ h => h))
      have HU3 := Lib.hid ((HU2.out.holds (S'' := none_) fun _ h => h.elim).trans hu)
      have HR3 := Lib.hid hr
      have HS3 := Lib.hid (HS2.out.upd hu (fun _ _ h => h))
      clear hr hu
      refine hK.out _ _ (HKS.out _ _ HU3.out) (fun hHeld => ?_)
      clear hK K
      try simp only [Act.put, List.setIfInBounds_toArray, List.set_cons_zero, List.set_cons_succ]
      refine AnyS_step (i := 2) rfl (by kernel_rfl) rfl (fun K hK => ?_)
      go_simp
      have HH4 := Lib.hid (HH3.out.alloc (.cells #[.int .u8 136] 5))
      have HZ4 := Lib.hid (HZ3.out.loc fun k hk => Below.heap_alloc w3 (.cells #[.int .u8 136] 5) k (HZ3.out.lt k hk))
      have HU4 := Lib.hid (HU3.out.alloc (.cells #[.int .u8 136] 5))
      have HL4 := Lib.hid (Blk.new w3 5 [.int .u8 136])
      have HS4 := Lib.hid (HS3.out.loc fun k hk => Below.heap_alloc w3 (.cells #[.int .u8 136] 5) k (HS3.out.lt k hk))
      have HR4 := Lib.hid (HR3.out.loc fun k hk => Below.heap_alloc w3 (.cells #[.int .u8 136] 5) k (HR3.out.lt k hk))
      refine hK.out _ _ (HKS.out _ _ HU4.out) (fun hHeld => ?_)
      clear hK K
      try simp only [Act.put, List.setIfInBounds_toArray, List.set_cons_zero, List.set_cons_succ]
      refine AnyS_plain (i := 3) (v := ?_) rfl (by kernel_rfl) (by kernel_rfl) (by kernel_rfl) (by kernel_rfl) (fun _ _ _ h => h) (Or.inl ⟨by rfl, ?_⟩) hHeld ?_
      rotate_left
      · intro w' hSw
        (try dsimp only at hSw)
        go_simp
        try with_reducible rfl
      try simp only [Act.put, List.setIfInBounds_toArray, List.set_cons_zero, List.set_cons_succ]
      clear hHeld
      have hHeld := HKS.out _ _ HU4.out
      refine AnyS_step (i := 9) rfl (by kernel_rfl) rfl (fun K hK => ?_)
      go_simp
      refine hK.out _ _ (HKS.out _ _ (HU4.out.alloc _)) (fun hHeld => ?_)
      clear hK K
      try simp only [Act.put, List.setIfInBounds_toArray, List.set_cons_zero, List.set_cons_succ]
      refine AnyS_step (i := 10) rfl (by kernel_rfl) rfl (fun K hK => ?_)
      go_simp
      refine (HF.out _ A1 c1 _ HS4.out w3.heap.size HL4.out _ HZ4.out A2 c2 _ HR4.out _ (by simp)).mono ?_
      rintro e w7 ⟨A7, c7, S7, rfl, hr, hu⟩
      have HR7 := Lib.hid hr
      have HH7 := Lib.hid ((HH4.out.alloc _).fresh hu)
      have HA7 := Lib.hid (hu.fresh (HH4.out.alloc _).at_.lt)
      have HU7 := Lib.hid (((HU4.out.alloc _).holds (S'' := none_) fun _ h => h.elim).trans hu)
      clear hr hu
      refine hK.out _ _ (HKS.out _ _ HU7.out) (fun hHeld => ?_)
      clear hK K
      try simp only [Act.put, List.setIfInBounds_toArray, List.set_cons_zero, List.set_cons_succ]
      refine AnyS_step (i := 11) rfl (by kernel_rfl) rfl (fun K hK => ?_)
      go_simp
      refine (HO.out w7 S HH7.out.at_ A7 c7 S7 HR7.out HA7.out).mono ?_
      rintro e w8 ⟨rfl, S8, hh, hu⟩
      have HH8 := Lib.hid (HH7.out.turn hh hu)
      have hKeep := HKT.out w7 w8 _ HU7.out hu
      clear hh hu
      refine hK.out _ _ (hKeep) (fun hHeld => ?_)
      clear hK K
      try simp only [Act.put, List.setIfInBounds_toArray, List.set_cons_zero, List.set_cons_succ]
      refine AnyS_take (i := 12) (v := ?_) rfl (by kernel_rfl) (by kernel_rfl) (by kernel_rfl) (by kernel_rfl) (by kernel_rfl) (fun _ _ _ h => h) (Or.inl ⟨by rfl, ?_⟩) hHeld ?_
      rotate_left
      · intro w' hSw
        (try dsimp only at hSw)
        go_simp
        try with_reducible rfl
      try simp only [Act.put, List.setIfInBounds_toArray, List.set_cons_zero, List.set_cons_succ]
      refine AnyS_done (by kernel_rfl) (NoPanic.normal ?_) _
      try simp only [Act.put, List.setIfInBounds_toArray, List.set_cons_zero, List.set_cons_succ]
      show tailW _ _ _ _ _ _
      exact HEND.out w8 S8 HH8.out _ _ _ _ _ _ _ _ _ _ _ _ _ _ _ _ _ _ _ _ _ _ _ _ _ _ _ _ _ _ _ _ _ _ _ _ _ _ _ _ _ _ _ _ _ _ _ _ _ _ _ _ _ _ _ _ _ _ _ _ _ _ _ _ _ _ _ _ _ _ _ _ _ _ _ _ _ _ _ _ _ _ _ _ _ _ _ _ _ _ _ _ _ _ _ _ _ _ _ _ _ _ _ _ _ _ _ _ _ _ _ _ _ _
  · go_simp
    have HH2 := Lib.hid (HH1.out.alloc (.cells #[.int .u8 136] 5))
    have HZ2 := Lib.hid (HZ1.out.loc fun k hk => Below.heap_alloc W0.drew (.cells #[.int .u8 136] 5) k (HZ1.out.lt k hk))
    have HU2 := Lib.hid (HU1.out.alloc (.cells #[.int .u8 136] 5))
    have HL2 := Lib.hid (Blk.new W0.drew 5 [.int .u8 136])
    refine hK.out _ _ (HKS.out _ _ HU2.out) (fun hHeld => ?_)
    clear hK K
    try simp only [Act.put, List.setIfInBounds_toArray, List.set_cons_zero, List.set_cons_succ]
    refine AnyS_plain (i := 3) (v := ?_) rfl (by kernel_rfl) (by kernel_rfl) (by kernel_rfl) (by kernel_rfl) (fun _ _ _ h => h) (Or.inl ⟨by rfl, ?_⟩) hHeld ?_
    rotate_left
    · intro w' hSw
      (try dsimp only at hSw)
      go_simp
      try with_reducible rfl
    try simp only [Act.put, List.setIfInBounds_toArray, List.set_cons_zero, List.set_cons_succ]
    refine AnyS_step (i := 1) rfl (by kernel_rfl) rfl (fun K hK => ?_)
    go_simp
    refine (HST.out _).mono ?_
    rintro e w3 ⟨A1, c1, S1, rfl, hr, hu⟩
    have HH3 := Lib.hid (HH2.out.fresh hu)
    have HZ3 := Lib.hid (HZ2.out.upd hu (fun _ _ h => h))
    have HU3 := Lib.hid ((HU2.out.holds (S'' := none_) fun _ h => h.elim).trans hu)
    have HS3 := Lib.hid hr
    have HL3 := Lib.hid (HL2.out.upd hu (fun h => h))
    clear hr hu
    refine hK.out _ _ (HKS.out _ _ HU3.out) (fun hHeld => ?_)
    clear hK K
    try simp only [Act.put, List.setIfInBounds_toArray, List.set_cons_zero, List.set_cons_succ]
    refine AnyS_step (i := 8) rfl (by kernel_rfl) rfl (fun K hK => ?_)
    go_simp
    refine (HRS.out _).mono ?_
    rintro e w4 ⟨A2, c2, S2, rfl, hr, hu⟩
    have HH4 := Lib.hid (HH3.out.fresh hu)
    have HZ4 := Lib.hid (HZ3.out.upd hu (fun _ _ h => h))
    have HU4 := Lib.hid ((HU3.out.holds (S'' := none_) fun _ h => h.elim).trans hu)
    have HR4 := Lib.hid hr
    have HS4 := Lib.hid (HS3.out.upd hu (fun _ _ h => h))
    have HL4 := Lib.hid (HL3.out.upd hu (fun h => h))
    clear hr hu
    refine hK.out _ _ (HKS.out _ _ HU4.out) (fun hHeld => ?_)
    clear hK K
    try simp only [Act.put, List.setIfInBounds_toArray, List.set_cons_zero, List.set_cons_succ]
    clear hHeld
    have hHeld := HKS.out _ _ HU4.out
    refine AnyS_step (i := 9) rfl (by kernel_rfl) rfl (fun K hK => ?_)
    go_simp
    refine hK.out _ _ (HKS.out _ _ (HU4.out.alloc _)) (fun hHeld => ?_)
    clear hK K
    try simp only [Act.put, List.setIfInBounds_toArray, List.set_cons_zero, List.set_cons_succ]
    refine AnyS_step (i := 10) rfl (by kernel_rfl) rfl (fun K hK => ?_)
    go_simp
    refine (HF.out w4 A1 c1 _ HS4.out W0.heap.size HL4.out _ HZ4.out A2 c2 _ HR4.out _ (by simp)).mono ?_
    rintro e w7 ⟨A7, c7, S7, rfl, hr, hu⟩
    have HR7 := Lib.hid hr
    have HH7 := Lib.hid ((HH4.out.alloc _).fresh hu)
    have HA7 := Lib.hid (hu.fresh (HH4.out.alloc _).at_.lt)
    have HU7 := Lib.hid (((HU4.out.alloc _).holds (S'' := none_) fun _ h => h.elim).trans hu)
    clear hr hu
    refine hK.out _ _ (HKS.out _ _ HU7.out) (fun hHeld => ?_)
    clear hK K
    try simp only [Act.put, List.setIfInBounds_toArray, List.set_cons_zero, List.set_cons_succ]
    refine AnyS_step (i := 11) rfl (by kernel_rfl) rfl (fun K hK => ?_)
    go_simp
    refine (HO.out w7 S HH7.out.at_ A7 c7 S7 HR7.out HA7.out).mono ?_
    rintro e w8 ⟨rfl, S8, hh, hu⟩
    have HH8 := Lib.hid (HH7.out.turn hh hu)
    have hKeep := HKT.out w7 w8 _ HU7.out hu
    clear hh hu
    refine hK.out _ _ (hKeep) (fun hHeld => ?_)
    clear hK K
    try simp only [Act.put, List.setIfInBounds_toArray, List.set_cons_zero, List.set_cons_succ]
    refine AnyS_take (i := 12) (v := ?_) rfl (by kernel_rfl) (by kernel_rfl) (by kernel_rfl) (by kernel_rfl) (by kernel_rfl) (fun _ _ _ h => h) (Or.inl ⟨by rfl, ?_⟩) hHeld ?_
    rotate_left
    · intro w' hSw
      (try dsimp only at hSw)
      go_simp
      try with_reducible rfl
    try simp only [Act.put, List.setIfInBounds_toArray, List.set_cons_zero, List.set_cons_succ]
    refine AnyS_done (by kernel_rfl) (NoPanic.normal ?_) _
    try simp only [Act.put, List.setIfInBounds_toArray, List.set_cons_zero, List.set_cons_succ]
    show tailW _ _ _ _ _ _
    exact HEND.out w8 S8 HH8.out _ _ _ _ _ _ _ _ _ _ _ _ _ _ _ _ _ _ _ _ _ _ _ _ _ _ _ _ _ _ _ _ _ _ _ _ _ _ _ _ _ _ _ _ _ _ _ _ _ _ _ _ _ _ _ _ _ _ _ _ _ _ _ _ _ _ _ _ _ _ _ _ _ _ _ _ _ _ _ _ _ _ _ _ _ _ _ _ _ _ _ _ _ _ _ _ _ _ _ _ _ _ _ _ _ _ _ _ _ _ _ _ _ _
end Go.Proofs.YthmfifcogokpoaaDoor
namespace Go.Proofs.YthmfifcogokpoaaDoor
open Go.RowKit

def helloB : List UInt8 := putB setF ++ (putB (askF 1) ++ putB (askF 3))
theorem frames3 (W : World) (A1 : Option Addr) (c1 : Nat) (S1 : Own) (hr1 : Row 5 1 A1 0 c1 [] S1 W) (ga : Nat) (hl : Blk W ga 5 [.int .u8 130]) (g : Nat) (hg : g = W.heap.size) :
    Calls Tryd.prog 10 #[.slice (some ⟨g, 0, none⟩) 3 3] (W.alloc (.cells #[.int .i64 4, .int .i64 0, .int .i64 0, .slice A1 0 c1, .int .i64 1, .int .i64 4, .int .i64 1, .slice (some ⟨ga, 0, none⟩) 1 1, .int .i64 1, .int .i64 4, .int .i64 3, .slice (some ⟨ga, 0, none⟩) 1 1] 29)) (OwnQ helloB (W.alloc (.cells #[.int .i64 4, .int .i64 0, .int .i64 0, .slice A1 0 c1, .int .i64 1, .int .i64 4, .int .i64 1, .slice (some ⟨ga, 0, none⟩) 1 1, .int .i64 1, .int .i64 4, .int .i64 3, .slice (some ⟨ga, 0, none⟩) 1 1] 29))) := by
  subst hg
  have hl1 : Row 5 1 (some ⟨ga, 0, none⟩) 1 1 [.int .u8 130] (· = ga) W := Row.made (cs := [.int .u8 130]) hl (by omega) (by simp [maxLen]) (by simp) rfl
  have hlt : ∀ k, blockOf (some (⟨ga, 0, none⟩ : Addr)) = some k → k < (W.alloc (.cells #[.int .i64 4, .int .i64 0, .int .i64 0, .slice A1 0 c1, .int .i64 1, .int .i64 4, .int .i64 1, .slice (some ⟨ga, 0, none⟩) 1 1, .int .i64 1, .int .i64 4, .int .i64 3, .slice (some ⟨ga, 0, none⟩) 1 1] 29)).heap.size := fun k hk => by have := hl1.lt k (hl1.block k hk); simp; omega
  have h := frames_blk [(setF, A1, c1), (askF 1, some ⟨ga, 0, none⟩, 1), (askF 3, some ⟨ga, 0, none⟩, 1)] (W := W.alloc (.cells #[.int .i64 4, .int .i64 0, .int .i64 0, .slice A1 0 c1, .int .i64 1, .int .i64 4, .int .i64 1, .slice (some ⟨ga, 0, none⟩) 1 1, .int .i64 1, .int .i64 4, .int .i64 3, .slice (some ⟨ga, 0, none⟩) 1 1] 29)) (g := W.heap.size) (Blk.new W _ [.int .i64 4, .int .i64 0, .int .i64 0, .slice A1 0 c1, .int .i64 1, .int .i64 4, .int .i64 1, .slice (some ⟨ga, 0, none⟩) 1 1, .int .i64 1, .int .i64 4, .int .i64 3, .slice (some ⟨ga, 0, none⟩) 1 1]) (by simp) (fun x hx => by
    simp only [List.mem_cons, List.not_mem_nil, or_false] at hx
    rcases hx with rfl | rfl | rfl
    · exact ⟨set_fits, hr1.rd.alloc (by omega) _, fun k hk => by have := hr1.lt k (hr1.block k hk); simp; omega⟩
    · exact ⟨ask_fits 1 (by decide), hl1.rd.alloc (by omega) _, hlt⟩
    · exact ⟨ask_fits 3 (by decide), hl1.rd.alloc (by omega) _, hlt⟩) (by simp [allB, putB_length, setF, askF])
  simpa [allB, helloB] using h
theorem hello_two (b : Nat) (W : World) (S : Own) (h : HAt W b newS S) (A : Option Addr) (c : Nat) (S1 : Own) (hr : Row 5 1 A (24 + helloB.length) c (bys pref ++ bys helloB) S1 W) (ha : Apart S1 S) :
    Calls Tryd.prog 9 #[.pointer (some ⟨b, 0, none⟩), .slice A (24 + helloB.length) c] W (InQ b rA S W) := by
  have hl : (pref ++ helloB).length = 24 + helloB.length := by rw [List.length_append]; rfl
  have hl1 : helloB.length ≤ 100 := by decide
  rw [← bys_append, ← hl] at hr
  have h1 := in_row h (newS_ok.more (B' := 100) (by omega)) hr ha (by omega) _ in_two
  rw [hl] at h1
  exact h1

set_option maxRecDepth 100000 in
set_option maxHeartbeats 1000000 in
theorem right_in (n more : Nat) (hn : n ≤ 16000) (hm1 : 1 ≤ more) (hm2 : more ≤ 30000) (w : World) (hg : GlobOk w) :
    Calls Tryd.prog 6 #[.int .i64 n, .int .i64 more] w (TrueQ w) := by
  have HG := Lib.hid hg
  have t1 : decide ((16000 : Int) < (n : Int)) = false := decide_eq_false (by omega)
  have t2 : decide ((more : Int) < 1) = false := decide_eq_false (by omega)
  have t3 : decide ((30000 : Int) < (more : Int)) = false := decide_eq_false (by omega)
  have HT := Lib.hid (fun (W : World) (b : Nat) (S : Own) (h : Hold w W b rA S) => rg_mid w W b n more S hn hm1 hm2 h)
  have hl1 : helloB.length ≤ 100 := by decide
  have HI := Lib.hid hello_two
  have HF := Lib.hid frames3
  have HS := Lib.hid (fun (W : World) => show Calls Tryd.prog 11 #[.slice none 0 0, .bool false] W fun e w' => ∃ A c S, e = .returned (.agg #[.int .i64 4, .int .i64 0, .int .i64 0, .slice A 0 c]) ∧ Row 5 1 A 0 c [] S w' ∧ Upd none_ S W w' from refSettings_no W)
  have HPR := Lib.hid (show ∀ W : World, Rd (W.alloc (.cells #[.int .u8 80, .int .u8 82, .int .u8 73, .int .u8 32, .int .u8 42, .int .u8 32, .int .u8 72, .int .u8 84, .int .u8 84, .int .u8 80, .int .u8 47, .int .u8 50, .int .u8 46, .int .u8 48, .int .u8 13, .int .u8 10, .int .u8 13, .int .u8 10, .int .u8 83, .int .u8 77, .int .u8 13, .int .u8 10, .int .u8 13, .int .u8 10] 5 (24, 25))) 1 (some ⟨W.heap.size, 0, none⟩) 24 24 (bys pref) from fun W => rd_const W pref (24, 25) (by decide))
  have kc := fun (W : World) (C : Array Value) (n c : Nat) => Lib.run_convert_bytes_const (P := Tryd.prog) W 26 5 C n c Tryd.underlying26 Tryd.underlying5
  have hroom : 24 < 24 + helloB.length := by decide
  have h63 : 24 + helloB.length ≤ maxLen := by simp only [maxLen]; omega
  have hbb : (24 + helloB.length) * 1 ≤ big := by simp only [big]; omega
  unfold InQ at HI
  unfold OwnQ at HF
  clear hl1 hg hn hm1 hm2
  generalize helloB = l1 at *
  go_enter Tryd.func6, Tryd.ntmps6
  refine wp_cut_as rgBody (by kernel_rfl) 6 ?_
  show Code.wp _ _ _ _ _
  go_wp2
  show Code.wp _ _ _ _ _
  go_wp2_with (go_at_call 7; refine (first_any _ HG.out).mono ?_; rintro e w1 ⟨rfl, hb⟩; have HB1 := Lib.hid hb; have HG1 := Lib.hid (HG.out.below hb HG.out.pos); clear hb)
  show Code.wp _ _ _ _ _
  go_wp2_with (go_at_call 8; refine (new_h _ HG1.out).mono ?_; rintro e w2 ⟨b, S0, rfl, hh, hu⟩; have HH2 := Lib.hid (show Hold w w2 b newS S0 from ⟨hh, (Upd.of_below HB1.out (S := none_) (S' := none_) fun _ h => h.elim).trans hu⟩); clear hh hu)
  show Code.wp _ _ _ _ _
  go_wp2
  show Code.wp _ _ _ _ _
  go_wp2
  show Code.wp _ _ _ _ _
  have HA2 := Lib.hid (Blk.new w2 5 [.int .u8 130])
  have HHA := Lib.hid (HH2.out.alloc (.cells #[.int .u8 130] 5))
  generalize hga : w2.heap.size = ga at *
  have HGA := Lib.hid hga
  clear hga
  generalize w2.alloc (.cells #[.int .u8 130] 5) = wa at *
  go_wp2_with (first
    | (go_at_call 11; refine (HS.out _).mono ?_; rintro e w3 ⟨A3, c3, S3, rfl, hr, hu⟩; have HR3 := Lib.hid hr; have HP3 := Lib.hid ((HPR.out wa).grow (by omega) (hu.below (fun _ h => h.elim) (Nat.le_refl _))); have HA3 := Lib.hid ((HA2.out.below ((Below.refl _ _).alloc (Nat.le_refl _) _) HA2.out.lt).upd hu (fun h => h)); have HH3 := Lib.hid ((HHA.out.alloc _).fresh hu); clear hr hu)
    | (go_at_call 10; refine (HF.out _ A3 c3 S3 HR3.out ga HA3.out _ (by simp)).mono ?_; rintro e w4 ⟨A4, c4, S4, rfl, hr, hu⟩; have HR4 := Lib.hid hr; have HP4 := Lib.hid ((HP3.out.alloc (by omega) _).grow (by omega) (hu.below (fun _ h => h.elim) (Nat.le_refl _))); have HH4 := Lib.hid ((HH3.out.alloc _).fresh hu); clear hr hu)
    | (at_builtin; refine wpList_append_grow (by rfl) _ _ _ _ (by rfl) 5 1 1 tyBytes tyBytes.src (some ⟨wa.heap.size, 0, none⟩) 24 24 (bys pref) (.slice A4 l1.length c4) l1.length (bys l1) (by rfl) (by rfl) HP4.out (bys_one _) (Src.of_rd HR4.out.rd (bys_one _)) hroom h63 hbb ?_; intro A5 c5 w5 S5 hr hu; have HR5 := Lib.hid hr; have HH5 := Lib.hid (HH4.out.fresh hu); have HA5 := Lib.hid (hu.fresh HH4.out.at_.lt); clear hr hu)
    | (go_at_call 9; refine (HI.out b _ S0 HH5.out.at_ A5 c5 S5 HR5.out HA5.out).mono ?_; rintro e w6 ⟨rfl, S6, hh, hu⟩; have HH6 := Lib.hid (HH5.out.turn hh hu); clear hh hu HI))
  show tailW _ _ _ _ _ _
  exact HT.out _ b S6 HH6.out _ _ _ _ _ _ _ _ _ _ _ _ _ _ _ _ _ _ _ _ _ _ _ _ _ _ _ _ _ _ _ _ _ _ _ _ _ _ _ _ _ _ _ _ _ _ _ _ _ _ _ _ _ _ _ _ _ _ _ _ _ _ _ _ _ _ _ _ _ _ _ _ _ _ _ _ _ _ _ _ _ _ _ _ _ _ _ _ _ _ _ _ _ _ _ _ _ _ _ _ _ _ _ _ _ _ _ _ _ _ _ _ _ _ _

set_option maxRecDepth 100000 in
set_option maxHeartbeats 1000000 in
theorem right_law (n more : Int) (w : World) (hg : GlobOk w) :
    Calls Tryd.prog 6 #[.int .i64 n, .int .i64 more] w (TrueQ w) := by
  by_cases hn : 0 ≤ n ∧ n ≤ 16000 ∧ 1 ≤ more ∧ more ≤ 30000
  · obtain ⟨n', rfl⟩ : ∃ m : Nat, n = m := ⟨n.toNat, by omega⟩
    obtain ⟨m', rfl⟩ : ∃ m : Nat, more = m := ⟨more.toNat, by omega⟩
    exact right_in n' m' (by omega) (by omega) (by omega) w hg
  · have hn' : n < 0 ∨ 16000 < n ∨ more < 1 ∨ 30000 < more := by omega
    have HG := Lib.hid hg
    clear hg
    have walk : ∀ (q1 q2 q3 q4 : Bool), decide (n < 0) = q1 → decide (16000 < n) = q2 → decide (more < 1) = q3 → decide (30000 < more) = q4 → (q1 = true ∨ q2 = true ∨ q3 = true ∨ q4 = true) → Calls Tryd.prog 6 #[.int .i64 n, .int .i64 more] w (TrueQ w) := by
      intro q1 q2 q3 q4 t1 t2 t3 t4 hq
      clear hn hn'
      cases q1 with
      | true =>
        clear t2 t3 t4 hq
        go_enter Tryd.func6, Tryd.ntmps6
        go_wp2_with (first
          | (go_at_call 7; refine (first_any _ HG.out).mono ?_; rintro e w1 ⟨rfl, hb⟩; have HB1 := Lib.hid hb; have HG1 := Lib.hid (HG.out.below hb HG.out.pos); clear hb HG)
          | (go_at_call 8; refine (new_h _ HG1.out).mono ?_; rintro e w2 ⟨b, S0, rfl, hh, hu⟩; have HH2 := Lib.hid (show Hold w w2 b newS S0 from ⟨hh, (Upd.of_below HB1.out (S := none_) (S' := none_) fun _ h => h.elim).trans hu⟩); clear hh hu)
          | (go_at_call 7; refine (first_any _ HH2.out.glob).mono ?_; rintro e w3 ⟨rfl, hb⟩; have HH3 := Lib.hid (HH2.out.below hb); clear hb))
        go_ret
        exact ⟨rfl, HH3.out.end_⟩
      | false =>
      cases q2 with
      | true =>
        clear t3 t4 hq
        go_enter Tryd.func6, Tryd.ntmps6
        go_wp2_with (first
          | (go_at_call 7; refine (first_any _ HG.out).mono ?_; rintro e w1 ⟨rfl, hb⟩; have HB1 := Lib.hid hb; have HG1 := Lib.hid (HG.out.below hb HG.out.pos); clear hb HG)
          | (go_at_call 8; refine (new_h _ HG1.out).mono ?_; rintro e w2 ⟨b, S0, rfl, hh, hu⟩; have HH2 := Lib.hid (show Hold w w2 b newS S0 from ⟨hh, (Upd.of_below HB1.out (S := none_) (S' := none_) fun _ h => h.elim).trans hu⟩); clear hh hu)
          | (go_at_call 7; refine (first_any _ HH2.out.glob).mono ?_; rintro e w3 ⟨rfl, hb⟩; have HH3 := Lib.hid (HH2.out.below hb); clear hb))
        go_ret
        exact ⟨rfl, HH3.out.end_⟩
      | false =>
      cases q3 with
      | true =>
        clear t4 hq
        go_enter Tryd.func6, Tryd.ntmps6
        go_wp2_with (first
          | (go_at_call 7; refine (first_any _ HG.out).mono ?_; rintro e w1 ⟨rfl, hb⟩; have HB1 := Lib.hid hb; have HG1 := Lib.hid (HG.out.below hb HG.out.pos); clear hb HG)
          | (go_at_call 8; refine (new_h _ HG1.out).mono ?_; rintro e w2 ⟨b, S0, rfl, hh, hu⟩; have HH2 := Lib.hid (show Hold w w2 b newS S0 from ⟨hh, (Upd.of_below HB1.out (S := none_) (S' := none_) fun _ h => h.elim).trans hu⟩); clear hh hu)
          | (go_at_call 7; refine (first_any _ HH2.out.glob).mono ?_; rintro e w3 ⟨rfl, hb⟩; have HH3 := Lib.hid (HH2.out.below hb); clear hb))
        go_ret
        exact ⟨rfl, HH3.out.end_⟩
      | false =>
        obtain rfl : q4 = true := by simpa using hq
        clear hq
        go_enter Tryd.func6, Tryd.ntmps6
        go_wp2_with (first
          | (go_at_call 7; refine (first_any _ HG.out).mono ?_; rintro e w1 ⟨rfl, hb⟩; have HB1 := Lib.hid hb; have HG1 := Lib.hid (HG.out.below hb HG.out.pos); clear hb HG)
          | (go_at_call 8; refine (new_h _ HG1.out).mono ?_; rintro e w2 ⟨b, S0, rfl, hh, hu⟩; have HH2 := Lib.hid (show Hold w w2 b newS S0 from ⟨hh, (Upd.of_below HB1.out (S := none_) (S' := none_) fun _ h => h.elim).trans hu⟩); clear hh hu)
          | (go_at_call 7; refine (first_any _ HH2.out.glob).mono ?_; rintro e w3 ⟨rfl, hb⟩; have HH3 := Lib.hid (HH2.out.below hb); clear hb))
        go_ret
        exact ⟨rfl, HH3.out.end_⟩
    refine walk _ _ _ _ rfl rfl rfl rfl ?_
    simpa using hn'
end Go.Proofs.YthmfifcogokpoaaDoor
