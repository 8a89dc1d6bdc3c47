/- What is proved here: contracts of the program's functions and plain lemmas that the claim's last text uses, in parts: WatchFinds up to its drawn region; WatchFinds answers true. -/
import Derived.Test.YthmfifcogokpoaaDoorM33
import Derived.Test.YthmfifcogokpoaaDoorM31
set_option linter.unusedVariables false
set_option linter.unusedSimpArgs false
namespace Go.Proofs.YthmfifcogokpoaaDoor
open Go.RowKit

set_option maxRecDepth 100000 in
theorem arr_119 (t : Array Value) (hs : t.size = 119) : t = #[t.getD 0 undef, t.getD 1 undef, t.getD 2 undef, t.getD 3 undef, t.getD 4 undef, t.getD 5 undef, t.getD 6 undef, t.getD 7 undef, t.getD 8 undef, t.getD 9 undef, t.getD 10 undef, t.getD 11 undef, t.getD 12 undef, t.getD 13 undef, t.getD 14 undef, t.getD 15 undef, t.getD 16 undef, t.getD 17 undef, t.getD 18 undef, t.getD 19 undef, t.getD 20 undef, t.getD 21 undef, t.getD 22 undef, t.getD 23 undef, t.getD 24 undef, t.getD 25 undef, t.getD 26 undef, t.getD 27 undef, t.getD 28 undef, t.getD 29 undef, t.getD 30 undef, t.getD 31 undef, t.getD 32 undef, t.getD 33 undef, t.getD 34 undef, t.getD 35 undef, t.getD 36 undef, t.getD 37 undef, t.getD 38 undef, t.getD 39 undef, t.getD 40 undef, t.getD 41 undef, t.getD 42 undef, t.getD 43 undef, t.getD 44 undef, t.getD 45 undef, t.getD 46 undef, t.getD 47 undef, t.getD 48 undef, t.getD 49 undef, t.getD 50 undef, t.getD 51 undef, t.getD 52 undef, t.getD 53 undef, t.getD 54 undef, t.getD 55 undef, t.getD 56 undef, t.getD 57 undef, t.getD 58 undef, t.getD 59 undef, t.getD 60 undef, t.getD 61 undef, t.getD 62 undef, t.getD 63 undef, t.getD 64 undef, t.getD 65 undef, t.getD 66 undef, t.getD 67 undef, t.getD 68 undef, t.getD 69 undef, t.getD 70 undef, t.getD 71 undef, t.getD 72 undef, t.getD 73 undef, t.getD 74 undef, t.getD 75 undef, t.getD 76 undef, t.getD 77 undef, t.getD 78 undef, t.getD 79 undef, t.getD 80 undef, t.getD 81 undef, t.getD 82 undef, t.getD 83 undef, t.getD 84 undef, t.getD 85 undef, t.getD 86 undef, t.getD 87 undef, t.getD 88 undef, t.getD 89 undef, t.getD 90 undef, t.getD 91 undef, t.getD 92 undef, t.getD 93 undef, t.getD 94 undef, t.getD 95 undef, t.getD 96 undef, t.getD 97 undef, t.getD 98 undef, t.getD 99 undef, t.getD 100 undef, t.getD 101 undef, t.getD 102 undef, t.getD 103 undef, t.getD 104 undef, t.getD 105 undef, t.getD 106 undef, t.getD 107 undef, t.getD 108 undef, t.getD 109 undef, t.getD 110 undef, t.getD 111 undef, t.getD 112 undef, t.getD 113 undef, t.getD 114 undef, t.getD 115 undef, t.getD 116 undef, t.getD 117 undef, t.getD 118 undef] := (array_of 119 t hs).trans (by kernel_rfl)
theorem act_119 (a : Act) (hs : a.tmps.size = 119) (hd : a.defers = []) : a = ⟨#[a.tmps.getD 0 undef, a.tmps.getD 1 undef, a.tmps.getD 2 undef, a.tmps.getD 3 undef, a.tmps.getD 4 undef, a.tmps.getD 5 undef, a.tmps.getD 6 undef, a.tmps.getD 7 undef, a.tmps.getD 8 undef, a.tmps.getD 9 undef, a.tmps.getD 10 undef, a.tmps.getD 11 undef, a.tmps.getD 12 undef, a.tmps.getD 13 undef, a.tmps.getD 14 undef, a.tmps.getD 15 undef, a.tmps.getD 16 undef, a.tmps.getD 17 undef, a.tmps.getD 18 undef, a.tmps.getD 19 undef, a.tmps.getD 20 undef, a.tmps.getD 21 undef, a.tmps.getD 22 undef, a.tmps.getD 23 undef, a.tmps.getD 24 undef, a.tmps.getD 25 undef, a.tmps.getD 26 undef, a.tmps.getD 27 undef, a.tmps.getD 28 undef, a.tmps.getD 29 undef, a.tmps.getD 30 undef, a.tmps.getD 31 undef, a.tmps.getD 32 undef, a.tmps.getD 33 undef, a.tmps.getD 34 undef, a.tmps.getD 35 undef, a.tmps.getD 36 undef, a.tmps.getD 37 undef, a.tmps.getD 38 undef, a.tmps.getD 39 undef, a.tmps.getD 40 undef, a.tmps.getD 41 undef, a.tmps.getD 42 undef, a.tmps.getD 43 undef, a.tmps.getD 44 undef, a.tmps.getD 45 undef, a.tmps.getD 46 undef, a.tmps.getD 47 undef, a.tmps.getD 48 undef, a.tmps.getD 49 undef, a.tmps.getD 50 undef, a.tmps.getD 51 undef, a.tmps.getD 52 undef, a.tmps.getD 53 undef, a.tmps.getD 54 undef, a.tmps.getD 55 undef, a.tmps.getD 56 undef, a.tmps.getD 57 undef, a.tmps.getD 58 undef, a.tmps.getD 59 undef, a.tmps.getD 60 undef, a.tmps.getD 61 undef, a.tmps.getD 62 undef, a.tmps.getD 63 undef, a.tmps.getD 64 undef, a.tmps.getD 65 undef, a.tmps.getD 66 undef, a.tmps.getD 67 undef, a.tmps.getD 68 undef, a.tmps.getD 69 undef, a.tmps.getD 70 undef, a.tmps.getD 71 undef, a.tmps.getD 72 undef, a.tmps.getD 73 undef, a.tmps.getD 74 undef, a.tmps.getD 75 undef, a.tmps.getD 76 undef, a.tmps.getD 77 undef, a.tmps.getD 78 undef, a.tmps.getD 79 undef, a.tmps.getD 80 undef, a.tmps.getD 81 undef, a.tmps.getD 82 undef, a.tmps.getD 83 undef, a.tmps.getD 84 undef, a.tmps.getD 85 undef, a.tmps.getD 86 undef, a.tmps.getD 87 undef, a.tmps.getD 88 undef, a.tmps.getD 89 undef, a.tmps.getD 90 undef, a.tmps.getD 91 undef, a.tmps.getD 92 undef, a.tmps.getD 93 undef, a.tmps.getD 94 undef, a.tmps.getD 95 undef, a.tmps.getD 96 undef, a.tmps.getD 97 undef, a.tmps.getD 98 undef, a.tmps.getD 99 undef, a.tmps.getD 100 undef, a.tmps.getD 101 undef, a.tmps.getD 102 undef, a.tmps.getD 103 undef, a.tmps.getD 104 undef, a.tmps.getD 105 undef, a.tmps.getD 106 undef, a.tmps.getD 107 undef, a.tmps.getD 108 undef, a.tmps.getD 109 undef, a.tmps.getD 110 undef, a.tmps.getD 111 undef, a.tmps.getD 112 undef, a.tmps.getD 113 undef, a.tmps.getD 114 undef, a.tmps.getD 115 undef, a.tmps.getD 116 undef, a.tmps.getD 117 undef, a.tmps.getD 118 undef], []⟩ := by
  have h := arr_119 a.tmps hs
  rw [← h, ← hd]

theorem ptr_made {T : Own} (f : FrameS) (W : World) (hN : ∀ k, W.heap.size ≤ k → ¬ T k) (hl : f.body.length ≤ 100000) (C : Array Value) (hC : (bys f.body).toArray = C) (n : Nat) (hn : f.body.length = n) :
    PtrV T f ((W.alloc (.cells C 5)).alloc (.cells #[.int .i64 f.kind, .int .i64 f.flags, .int .i64 f.stream, .slice (some ⟨W.heap.size, 0, none⟩) n n] 29)) (W.heap.size + 1) := by
  subst hC hn
  refine ⟨some ⟨W.heap.size, 0, none⟩, f.body.length, Blk.push (cs := [.int .i64 f.kind, .int .i64 f.flags, .int .i64 f.stream, .slice (some ⟨W.heap.size, 0, none⟩) f.body.length f.body.length]) (by simp), ?_, fun k hk => ?_⟩
  · refine (Row.made (e := 5) (cs := bys f.body) ((Blk.new W 5 (bys f.body)).alloc _) (Nat.le_refl _) (by simp only [maxLen]; omega) (by rw [bys_length]; omega) (by rw [Nat.mul_one, ← bys_length, List.take_length])).rd
  · obtain rfl : W.heap.size = k := by simpa [blockOf] using hk
    exact ⟨by simp; omega, hN _ (Nat.le_refl _)⟩
theorem below_two (W : World) (o p : Obj) : Below W.heap.size W ((W.alloc o).alloc p) := (below_alloc W o).alloc (below_alloc W o).size p

set_option maxRecDepth 100000 in
set_option maxHeartbeats 1000000 in
theorem fi_mid (w W : World) (b : Nat) (S : Own) (h : Hold w W b fB S) (k : Nat) (hk : k < 8) (u1 u2 u4 u5 u6 u7 u8 u9 u10 u11 u12 u13 u14 u15 u16 u17 u18 u19 u20 u21 u22 u23 u24 u25 u26 u27 u28 u29 u30 u31 u32 u33 u34 u35 u36 u37 u38 u39 u40 u41 u42 u43 u44 u45 u46 u47 u48 u49 u50 u51 u52 u53 u54 u55 u56 u57 u58 u59 u60 u61 u62 u63 u64 u65 u66 u67 u68 u69 u70 u71 u72 u73 u74 u75 u76 u77 u78 u79 u80 u81 u82 u83 u84 u85 u86 u87 u88 u89 u90 u91 u92 u93 u94 u95 u96 u97 u98 u99 u100 u101 u102 u103 u104 u105 u106 u107 u108 u109 u110 u111 u112 u113 u114 u115 u116 u117 u118 : Value) :
    tailW Tryd.prog 6 fiBody (FiP w) ⟨#[.int .i64 k, u1, u2, .pointer (some ⟨b, 0, none⟩), u4, u5, u6, u7, u8, u9, u10, u11, u12, u13, u14, u15, u16, u17, u18, u19, u20, u21, u22, u23, u24, u25, u26, u27, u28, u29, u30, u31, u32, u33, u34, u35, u36, u37, u38, u39, u40, u41, u42, u43, u44, u45, u46, u47, u48, u49, u50, u51, u52, u53, u54, u55, u56, u57, u58, u59, u60, u61, u62, u63, u64, u65, u66, u67, u68, u69, u70, u71, u72, u73, u74, u75, u76, u77, u78, u79, u80, u81, u82, u83, u84, u85, u86, u87, u88, u89, u90, u91, u92, u93, u94, u95, u96, u97, u98, u99, u100, u101, u102, u103, u104, u105, u106, u107, u108, u109, u110, u111, u112, u113, u114, u115, u116, u117, u118], []⟩ W := by
  have hlt : ∀ q, S q → q < W.heap.size := h.at_.lt
  have HL := Lib.hid hlt
  have HH := Lib.hid h
  have HMK : ∀ W : World, (Instr.makeSlice 26 (.int .i64 16384) (.int .i64 16384)).run Tryd.prog W = .ok (.slice (some ⟨W.heap.size, 0, none⟩) 16384 16384) (W.alloc (.cells (bys (zeros 16384)).toArray 5)) := fun W => run_makeBytes 16384 (by decide) W
  have HZ := Lib.hid (show bys bigF.body = bys (zeros 16384) from rfl)
  have HZL := Lib.hid (show bigF.body.length = 16384 from zeros_length _)
  generalize bys (zeros 16384) = zz at *
  clear h hlt
  refine tail_step 6 fiBody ?_
  show Code.wp _ _ _ _ _
  go_wp2
  have h4 : PtrV S (headF 1) ((W.alloc (.cells #[.int .u8 136] 5)).alloc (.cells #[.int .i64 1, .int .i64 4, .int .i64 1, .slice (some ⟨W.heap.size, 0, none⟩) 1 1] 29)) (W.heap.size + 1) := ptr_made (headF 1) W (fun q h1 h2 => by have := HL.out q h2; omega) (by decide) _ rfl 1 rfl
  have hb1 := below_two W (.cells #[.int .u8 136] 5) (.cells #[.int .i64 1, .int .i64 4, .int .i64 1, .slice (some ⟨W.heap.size, 0, none⟩) 1 1] 29)
  have HB1 := Lib.hid hb1
  have H4 := Lib.hid h4
  clear hb1 h4
  generalize (W.alloc (.cells #[.int .u8 136] 5)).alloc (.cells #[.int .i64 1, .int .i64 4, .int .i64 1, .slice (some ⟨W.heap.size, 0, none⟩) 1 1] 29) = W1 at *
  generalize hq4 : W.heap.size + 1 = p4 at *
  have HQ4 := Lib.hid hq4
  clear hq4
  refine tail_step 7 fiBody ?_
  show Code.wp _ _ _ _ _
  go_wp2
  have h5 : PtrV S endF ((W1.alloc (.cells #[.int .u8 1] 5)).alloc (.cells #[.int .i64 0, .int .i64 1, .int .i64 1, .slice (some ⟨W1.heap.size, 0, none⟩) 1 1] 29)) (W1.heap.size + 1) := ptr_made endF W1 (fun q h1 h2 => by have := HL.out q h2; have := HB1.out.size; omega) (by decide) _ rfl 1 rfl
  have hb2 := below_two W1 (.cells #[.int .u8 1] 5) (.cells #[.int .i64 0, .int .i64 1, .int .i64 1, .slice (some ⟨W1.heap.size, 0, none⟩) 1 1] 29)
  have HB2 := Lib.hid hb2
  have H5 := Lib.hid h5
  clear hb2 h5
  generalize (W1.alloc (.cells #[.int .u8 1] 5)).alloc (.cells #[.int .i64 0, .int .i64 1, .int .i64 1, .slice (some ⟨W1.heap.size, 0, none⟩) 1 1] 29) = W2 at *
  generalize hq5 : W1.heap.size + 1 = p5 at *
  have HQ5 := Lib.hid hq5
  clear hq5
  refine tail_step 8 fiBody ?_
  show Code.wp _ _ _ _ _
  go_wp2
  have h6 : PtrV S bigF ((W2.alloc (.cells zz.toArray 5)).alloc (.cells #[.int .i64 0, .int .i64 0, .int .i64 1, .slice (some ⟨W2.heap.size, 0, none⟩) 16384 16384] 29)) (W2.heap.size + 1) := ptr_made bigF W2 (fun q h1 h2 => by have := HL.out q h2; have := HB1.out.size; have := HB2.out.size; omega) (by rw [HZL.out]; omega) _ (by rw [HZ.out]) 16384 HZL.out
  have hb3 := below_two W2 (.cells zz.toArray 5) (.cells #[.int .i64 0, .int .i64 0, .int .i64 1, .slice (some ⟨W2.heap.size, 0, none⟩) 16384 16384] 29)
  have HB3 := Lib.hid hb3
  have H6 := Lib.hid h6
  clear hb3 h6 HMK
  generalize (W2.alloc (.cells zz.toArray 5)).alloc (.cells #[.int .i64 0, .int .i64 0, .int .i64 1, .slice (some ⟨W2.heap.size, 0, none⟩) 16384 16384] 29) = W3 at *
  generalize hq6 : W2.heap.size + 1 = p6 at *
  clear hq6
  have HH3 := ((HH.out.below HB1.out).below HB2.out).below HB3.out
  have hlt3 : ∀ q, S q → q < W3.heap.size := HH3.at_.lt
  show tailW _ _ _ _ _ _
  refine fi_draw S W3 hlt3 p4 p5 p6 ((H4.out.grow HB2.out).grow HB3.out) (H5.out.grow HB3.out) H6.out k (.pointer (some ⟨b, 0, none⟩)) (FiP w) (fun a w' hb hd hs h0 h3 hv => ?_) _ _ _ _ _ _ _ _ _ _ _ _ _ _ _ _ _ _ _ _ _ _ _ _ _ _ _ _ _ _ _ _ _ _ _ _ _ _ _ _ _ _ _ _ _ _ _ _ _ _ _ _ _ _ _ _ _ _ _ _ _ _ _ _ _ _ _ _ _ _ _ _ _ _ _ _ _ _ _ _ _ _ _ _ _ _ _ _ _ _ _ _ _ _ _ _ _ _ _ _ _ _ _ _ _ _ _ _ _ _ _ _ _ _
  have key : tailW Tryd.prog 10 fiBody (FiP w) ⟨#[.int .i64 k, a.tmps.getD 1 undef, a.tmps.getD 2 undef, .pointer (some ⟨b, 0, none⟩), a.tmps.getD 4 undef, a.tmps.getD 5 undef, a.tmps.getD 6 undef, a.tmps.getD 7 undef, a.tmps.getD 8 undef, a.tmps.getD 9 undef, a.tmps.getD 10 undef, a.tmps.getD 11 undef, a.tmps.getD 12 undef, a.tmps.getD 13 undef, a.tmps.getD 14 undef, a.tmps.getD 15 undef, a.tmps.getD 16 undef, a.tmps.getD 17 undef, a.tmps.getD 18 undef, a.tmps.getD 19 undef, a.tmps.getD 20 undef, a.tmps.getD 21 undef, a.tmps.getD 22 undef, a.tmps.getD 23 undef, a.tmps.getD 24 undef, a.tmps.getD 25 undef, a.tmps.getD 26 undef, a.tmps.getD 27 undef, a.tmps.getD 28 undef, a.tmps.getD 29 undef, a.tmps.getD 30 undef, a.tmps.getD 31 undef, a.tmps.getD 32 undef, a.tmps.getD 33 undef, a.tmps.getD 34 undef, a.tmps.getD 35 undef, a.tmps.getD 36 undef, a.tmps.getD 37 undef, a.tmps.getD 38 undef, a.tmps.getD 39 undef, a.tmps.getD 40 undef, a.tmps.getD 41 undef, a.tmps.getD 42 undef, a.tmps.getD 43 undef, a.tmps.getD 44 undef, a.tmps.getD 45 undef, a.tmps.getD 46 undef, a.tmps.getD 47 undef, a.tmps.getD 48 undef, a.tmps.getD 49 undef, a.tmps.getD 50 undef, a.tmps.getD 51 undef, a.tmps.getD 52 undef, a.tmps.getD 53 undef, a.tmps.getD 54 undef, a.tmps.getD 55 undef, a.tmps.getD 56 undef, a.tmps.getD 57 undef, a.tmps.getD 58 undef, a.tmps.getD 59 undef, a.tmps.getD 60 undef, a.tmps.getD 61 undef, a.tmps.getD 62 undef, a.tmps.getD 63 undef, a.tmps.getD 64 undef, a.tmps.getD 65 undef, a.tmps.getD 66 undef, a.tmps.getD 67 undef, a.tmps.getD 68 undef, a.tmps.getD 69 undef, a.tmps.getD 70 undef, a.tmps.getD 71 undef, a.tmps.getD 72 undef, a.tmps.getD 73 undef, a.tmps.getD 74 undef, a.tmps.getD 75 undef, a.tmps.getD 76 undef, a.tmps.getD 77 undef, a.tmps.getD 78 undef, a.tmps.getD 79 undef, a.tmps.getD 80 undef, a.tmps.getD 81 undef, a.tmps.getD 82 undef, a.tmps.getD 83 undef, a.tmps.getD 84 undef, a.tmps.getD 85 undef, a.tmps.getD 86 undef, a.tmps.getD 87 undef, a.tmps.getD 88 undef, a.tmps.getD 89 undef, a.tmps.getD 90 undef, a.tmps.getD 91 undef, a.tmps.getD 92 undef, a.tmps.getD 93 undef, a.tmps.getD 94 undef, a.tmps.getD 95 undef, a.tmps.getD 96 undef, a.tmps.getD 97 undef, a.tmps.getD 98 undef, a.tmps.getD 99 undef, a.tmps.getD 100 undef, a.tmps.getD 101 undef, a.tmps.getD 102 undef, a.tmps.getD 103 undef, a.tmps.getD 104 undef, a.tmps.getD 105 undef, a.tmps.getD 106 undef, a.tmps.getD 107 undef, a.tmps.getD 108 undef, a.tmps.getD 109 undef, a.tmps.getD 110 undef, a.tmps.getD 111 undef, a.tmps.getD 112 undef, a.tmps.getD 113 undef, a.tmps.getD 114 undef, a.tmps.getD 115 undef, a.tmps.getD 116 undef, a.tmps.getD 117 undef, a.tmps.getD 118 undef], []⟩ w' := fi_rest w w' b S (HH3.below hb) k hk _ hv _ _ _ _ _ _ _ _ _ _ _ _ _ _ _ _ _ _ _ _ _ _ _ _ _ _ _ _ _ _ _ _ _ _ _ _ _ _ _ _ _ _ _ _ _ _ _ _ _ _ _ _ _ _ _ _ _ _ _ _ _ _ _ _ _ _ _ _ _ _ _ _ _ _ _ _ _ _ _ _ _ _ _ _ _ _ _ _ _ _ _ _ _ _ _ _ _ _ _ _ _ _ _ _ _ _ _ _ _ _ _ _ _ _ _ _
  rw [← h0, ← h3, ← act_119 a hs hd] at key
  exact key

theorem frames_two (f1 f2 : FrameS) (h1 : f1.Fits) (h2 : f2.Fits) (W : World) {A1 A2 : Option Addr} {c1 c2 : Nat} (r1 : Rd W 1 A1 f1.body.length c1 (bys f1.body)) (b1 : ∀ k, blockOf A1 = some k → k < W.heap.size) (r2 : Rd W 1 A2 f2.body.length c2 (bys f2.body)) (b2 : ∀ k, blockOf A2 = some k → k < W.heap.size) (g : Nat) (hg : g = W.heap.size) :
    Calls Tryd.prog 10 #[.slice (some ⟨g, 0, none⟩) 2 2] (W.alloc (.cells #[.int .i64 f1.kind, .int .i64 f1.flags, .int .i64 f1.stream, .slice A1 f1.body.length c1, .int .i64 f2.kind, .int .i64 f2.flags, .int .i64 f2.stream, .slice A2 f2.body.length c2] 29))
      (OwnQ (putB f1 ++ putB f2) (W.alloc (.cells #[.int .i64 f1.kind, .int .i64 f1.flags, .int .i64 f1.stream, .slice A1 f1.body.length c1, .int .i64 f2.kind, .int .i64 f2.flags, .int .i64 f2.stream, .slice A2 f2.body.length c2] 29))) := by
  subst hg
  have hb1 := h1.body
  have hb2 := h2.body
  have h := frames_blk [(f1, A1, c1), (f2, A2, c2)] (W := W.alloc (.cells #[.int .i64 f1.kind, .int .i64 f1.flags, .int .i64 f1.stream, .slice A1 f1.body.length c1, .int .i64 f2.kind, .int .i64 f2.flags, .int .i64 f2.stream, .slice A2 f2.body.length c2] 29)) (g := W.heap.size) (Blk.new W _ [.int .i64 f1.kind, .int .i64 f1.flags, .int .i64 f1.stream, .slice A1 f1.body.length c1, .int .i64 f2.kind, .int .i64 f2.flags, .int .i64 f2.stream, .slice A2 f2.body.length c2]) (by simp) (fun x hx => by
    simp only [List.mem_cons, List.not_mem_nil, or_false] at hx
    rcases hx with rfl | rfl
    · exact ⟨h1, r1.alloc (by omega) _, fun k hk => by have := b1 k hk; simp; omega⟩
    · exact ⟨h2, r2.alloc (by omega) _, fun k hk => by have := b2 k hk; simp; omega⟩) (by simp [allB, putB_length]; omega)
  simpa [allB] using h
theorem begin_frames (W : World) (A1 : Option Addr) (c1 : Nat) (S1 : Own) (hr : Row 5 1 A1 0 c1 [] S1 W) (ga : Nat) (hl : Blk W ga 5 [.int .u8 130]) (g : Nat) (hg : g = W.heap.size) :
    Calls Tryd.prog 10 #[.slice (some ⟨g, 0, none⟩) 2 2] (W.alloc (.cells #[.int .i64 4, .int .i64 0, .int .i64 0, .slice A1 0 c1, .int .i64 1, .int .i64 4, .int .i64 1, .slice (some ⟨ga, 0, none⟩) 1 1] 29)) (OwnQ inB0 (W.alloc (.cells #[.int .i64 4, .int .i64 0, .int .i64 0, .slice A1 0 c1, .int .i64 1, .int .i64 4, .int .i64 1, .slice (some ⟨ga, 0, none⟩) 1 1] 29))) := by
  have hl1 : Row 5 1 (some ⟨ga, 0, none⟩) 1 1 [.int .u8 130] (· = ga) W := Row.made (cs := [.int .u8 130]) hl (by omega) (by simp [maxLen]) (by simp) rfl
  exact frames_two setF (askF 1) set_fits (ask_fits 1 (by decide)) W hr.rd (fun k hk => hr.lt k (hr.block k hk)) hl1.rd (fun k hk => hl1.lt k (hl1.block k hk)) g hg

theorem begin_in (b : Nat) (W : World) (S : Own) (h : HAt W b newS S) (A : Option Addr) (c : Nat) (S1 : Own) (hr : Row 5 1 A (24 + inB0.length) c (bys pref ++ bys inB0) S1 W) (ha : Apart S1 S) :
    Calls Tryd.prog 9 #[.pointer (some ⟨b, 0, none⟩), .slice A (24 + inB0.length) c] W (InQ b fA S W) := by
  have hl : (pref ++ inB0).length = 24 + inB0.length := by rw [List.length_append]; rfl
  have hl1 : inB0.length ≤ 100 := by decide
  rw [← bys_append, ← hl] at hr
  have h1 := in_row h (newS_ok.more (B' := 100) (by omega)) hr ha (by omega) _ in_begin
  rw [hl] at h1
  exact h1

end Go.Proofs.YthmfifcogokpoaaDoor
namespace Go.Proofs.YthmfifcogokpoaaDoor
open Go.RowKit

set_option maxRecDepth 100000 in
set_option maxHeartbeats 1000000 in
theorem finds_in (k : Nat) (hk : k < 8) (w : World) (hg : GlobOk w) :
    Calls Tryd.prog 3 #[.int .i64 k] w (TrueQ w) := by
  have HG := Lib.hid hg
  have t1 : decide ((k : Int) < 0) = false := decide_eq_false (by omega)
  have t2 : decide ((7 : Int) < (k : Int)) = false := decide_eq_false (by omega)
  have HT := Lib.hid (fun (W : World) (b : Nat) (S : Own) (h : Hold w W b fB S) => fi_mid w W b S h k hk)
  have hl1 : inB0.length ≤ 100 := by decide
  have hl2 : outB0.length ≤ 100 := by decide
  have HI := Lib.hid begin_in
  have HO := Lib.hid (fun (b : Nat) (W : World) (S : Own) (h : HAt W b fA S) (A : Option Addr) (c : Nat) (S1 : Own) (hr : Row 5 1 A outB0.length c (bys outB0) S1 W) (ha : Apart S1 S) => out_row h fA_ok (fun h => by cases h) hr ha (by omega) fB out_begin 0 rfl)
  have HFR := Lib.hid (fun (W : World) (b : Nat) (S : Own) (h : HAt W b fB S) => show Calls Tryd.prog 13 #[.pointer (some ⟨b, 0, none⟩)] W (fun e w' => w' = W ∧ e = .returned (.int .i64 2)) from frames_h h)
  have HF := Lib.hid begin_frames
  have HF2 := Lib.hid (fun (W : World) (A1 : Option Addr) (c1 : Nat) (S1 : Own) (hr1 : Row 5 1 A1 0 c1 [] S1 W) (A2 : Option Addr) (c2 : Nat) (S2 : Own) (hr2 : Row 5 1 A2 0 c2 [] S2 W) (g : Nat) (hg : g = W.heap.size) => show Calls Tryd.prog 10 #[.slice (some ⟨g, 0, none⟩) 2 2] (W.alloc (.cells #[.int .i64 4, .int .i64 0, .int .i64 0, .slice A1 0 c1, .int .i64 4, .int .i64 1, .int .i64 0, .slice A2 0 c2] 29)) (OwnQ outB0 (W.alloc (.cells #[.int .i64 4, .int .i64 0, .int .i64 0, .slice A1 0 c1, .int .i64 4, .int .i64 1, .int .i64 0, .slice A2 0 c2] 29))) from frames_two setF ackF set_fits ack_fits W hr1.rd (fun k hk => hr1.lt k (hr1.block k hk)) hr2.rd (fun k hk => hr2.lt k (hr2.block k hk)) g hg)
  have HS := Lib.hid (fun (W : World) => show Calls Tryd.prog 11 #[.slice none 0 0, .bool false] W fun e w' => ∃ A c S, e = .returned (.agg #[.int .i64 4, .int .i64 0, .int .i64 0, .slice A 0 c]) ∧ Row 5 1 A 0 c [] S w' ∧ Upd none_ S W w' from refSettings_no W)
  have HSY := Lib.hid (fun (W : World) => show Calls Tryd.prog 11 #[.slice none 0 0, .bool true] W fun e w' => ∃ A c S, e = .returned (.agg #[.int .i64 4, .int .i64 1, .int .i64 0, .slice A 0 c]) ∧ Row 5 1 A 0 c [] S w' ∧ Upd none_ S W w' from refSettings_yes W)
  have HPR := Lib.hid (show ∀ W : World, Rd (W.alloc (.cells #[.int .u8 80, .int .u8 82, .int .u8 73, .int .u8 32, .int .u8 42, .int .u8 32, .int .u8 72, .int .u8 84, .int .u8 84, .int .u8 80, .int .u8 47, .int .u8 50, .int .u8 46, .int .u8 48, .int .u8 13, .int .u8 10, .int .u8 13, .int .u8 10, .int .u8 83, .int .u8 77, .int .u8 13, .int .u8 10, .int .u8 13, .int .u8 10] 5 (24, 25))) 1 (some ⟨W.heap.size, 0, none⟩) 24 24 (bys pref) from fun W => rd_const W pref (24, 25) (by decide))
  have kc := fun (W : World) (C : Array Value) (n c : Nat) => Lib.run_convert_bytes_const (P := Tryd.prog) W 26 5 C n c Tryd.underlying26 Tryd.underlying5
  have hroom : 24 < 24 + inB0.length := by decide
  have h63 : 24 + inB0.length ≤ maxLen := by simp only [maxLen]; omega
  have hbb : (24 + inB0.length) * 1 ≤ big := by simp only [big]; omega
  unfold InQ at HI
  unfold OutR at HO
  unfold OwnQ at HF HF2
  clear hl1 hl2 hg hk
  generalize inB0 = l1 at *
  generalize outB0 = l2 at *
  go_enter Tryd.func3, Tryd.ntmps3
  refine wp_cut_as fiBody (by kernel_rfl) 6 ?_
  show Code.wp _ _ _ _ _
  go_wp2
  show Code.wp _ _ _ _ _
  go_wp2_with (go_at_call 7; refine (first_any _ HG.out).mono ?_; rintro e w1 ⟨rfl, hb⟩; have HB1 := Lib.hid hb; have HG1 := Lib.hid (HG.out.below hb HG.out.pos); clear hb)
  show Code.wp _ _ _ _ _
  go_wp2_with (go_at_call 8; refine (new_h _ HG1.out).mono ?_; rintro e w2 ⟨b, S0, rfl, hh, hu⟩; have HH2 := Lib.hid (show Hold w w2 b newS S0 from ⟨hh, (Upd.of_below HB1.out (S := none_) (S' := none_) fun _ h => h.elim).trans hu⟩); clear hh hu)
  show Code.wp _ _ _ _ _
  go_wp2
  show Code.wp _ _ _ _ _
  go_wp2_with (first
    | (go_at_call 11; refine (HS.out _).mono ?_; rintro e w3 ⟨A3, c3, S3, rfl, hr, hu⟩; have HR3 := Lib.hid hr; have HP3 := Lib.hid ((HPR.out w2).grow (by omega) (hu.below (fun _ h => h.elim) (Nat.le_refl _))); have HH3 := Lib.hid ((HH2.out.alloc _).fresh hu); clear hr hu)
    | (go_at_call 10; refine (HF.out (w3.alloc (.cells #[.int .u8 130] 5)) A3 c3 S3 (HR3.out.loc fun k hk => Below.heap_alloc _ _ k (HR3.out.lt k hk)) w3.heap.size (Blk.new w3 5 [.int .u8 130]) _ (by simp)).mono ?_; rintro e w4 ⟨A4, c4, S4, rfl, hr, hu⟩; have HR4 := Lib.hid hr; have HP4 := Lib.hid (((HP3.out.alloc (by omega) _).alloc (by omega) _).grow (by omega) (hu.below (fun _ h => h.elim) (Nat.le_refl _))); have HH4 := Lib.hid (((HH3.out.alloc _).alloc _).fresh hu); clear hr hu)
    | (at_builtin; refine wpList_append_grow (by rfl) _ _ _ _ (by rfl) 5 1 1 tyBytes tyBytes.src (some ⟨w2.heap.size, 0, none⟩) 24 24 (bys pref) (.slice A4 l1.length c4) l1.length (bys l1) (by rfl) (by rfl) HP4.out (bys_one _) (Src.of_rd HR4.out.rd (bys_one _)) hroom h63 hbb ?_; intro A5 c5 w5 S5 hr hu; have HR5 := Lib.hid hr; have HH5 := Lib.hid (HH4.out.fresh hu); have HA5 := Lib.hid (hu.fresh HH4.out.at_.lt); clear hr hu)
    | (go_at_call 9; refine (HI.out b _ S0 HH5.out.at_ A5 c5 S5 HR5.out HA5.out).mono ?_; rintro e w6 ⟨rfl, S6, hh, hu⟩; have HH6 := Lib.hid (HH5.out.turn hh hu); clear hh hu HI))
  show Code.wp _ _ _ _ _
  go_wp2_with (first
    | (go_at_call 11; with_reducible refine (HS.out _).mono ?_; rintro e w7 ⟨A7, c7, S7, rfl, hr, hu⟩; have HR7 := Lib.hid hr; have HH7 := Lib.hid (HH6.out.fresh hu); clear hr hu)
    | (go_at_call 11; with_reducible refine (HSY.out _).mono ?_; rintro e w8 ⟨A8, c8, S8, rfl, hr, hu⟩; have HR8 := Lib.hid hr; have HR78 := Lib.hid (HR7.out.loc fun k hk => hu.block k (HR7.out.lt k hk) (fun h => h)); have HH8 := Lib.hid (HH7.out.fresh hu); clear hr hu)
    | (go_at_call 10; refine (HF2.out _ A7 c7 S7 HR78.out A8 c8 S8 HR8.out _ (by simp)).mono ?_; rintro e w9 ⟨A9, c9, S9, rfl, hr, hu⟩; have HR9 := Lib.hid hr; have HH9 := Lib.hid ((HH8.out.alloc _).fresh hu); have HA9 := Lib.hid (hu.fresh (HH8.out.alloc _).at_.lt); clear hr hu)
    | (go_at_call 12; refine (HO.out b _ S6 HH9.out.at_ A9 c9 S9 HR9.out HA9.out).mono ?_; rintro e w10 ⟨rfl, S10, hh, hu⟩; have HH10 := Lib.hid (HH9.out.turn hh hu); clear hh hu HO)
    | (go_at_call 13; refine (HFR.out _ b S10 HH10.out.at_).mono ?_; rintro e w11 ⟨rfl, rfl⟩))
  show tailW _ _ _ _ _ _
  exact HT.out _ b S10 HH10.out _ _ _ _ _ _ _ _ _ _ _ _ _ _ _ _ _ _ _ _ _ _ _ _ _ _ _ _ _ _ _ _ _ _ _ _ _ _ _ _ _ _ _ _ _ _ _ _ _ _ _ _ _ _ _ _ _ _ _ _ _ _ _ _ _ _ _ _ _ _ _ _ _ _ _ _ _ _ _ _ _ _ _ _ _ _ _ _ _ _ _ _ _ _ _ _ _ _ _ _ _ _ _ _ _ _ _ _ _ _ _ _ _ _ _ _ _

set_option maxRecDepth 100000 in
set_option maxHeartbeats 1000000 in
theorem finds_any (how : Int) (w : World) (hg : GlobOk w) :
    Calls Tryd.prog 3 #[.int .i64 how] w (TrueQ w) := by
  by_cases hn : 0 ≤ how ∧ how ≤ 7
  · obtain ⟨k, rfl⟩ : ∃ m : Nat, how = m := ⟨how.toNat, by omega⟩
    exact finds_in k (by omega) w hg
  · have hn' : how < 0 ∨ 7 < how := by omega
    have HG := Lib.hid hg
    clear hg
    have walk : ∀ (q1 q2 : Bool), decide (how < 0) = q1 → decide (7 < how) = q2 → (q1 = true ∨ q2 = true) → Calls Tryd.prog 3 #[.int .i64 how] w (TrueQ w) := by
      intro q1 q2 t1 t2 hq
      clear hn hn'
      cases q1 with
      | true =>
        clear t2 hq
        go_enter Tryd.func3, Tryd.ntmps3
        go_wp2_with (first
          | (go_at_call 7; refine (first_any _ HG.out).mono ?_; rintro e w1 ⟨rfl, hb⟩; have HB1 := Lib.hid hb; have HG1 := Lib.hid (HG.out.below hb HG.out.pos); clear hb HG)
          | (go_at_call 8; refine (new_h _ HG1.out).mono ?_; rintro e w2 ⟨b, S0, rfl, hh, hu⟩; have HH2 := Lib.hid (show Hold w w2 b newS S0 from ⟨hh, (Upd.of_below HB1.out (S := none_) (S' := none_) fun _ h => h.elim).trans hu⟩); clear hh hu)
          | (go_at_call 7; refine (first_any _ HH2.out.glob).mono ?_; rintro e w3 ⟨rfl, hb⟩; have HH3 := Lib.hid (HH2.out.below hb); clear hb))
        go_ret
        exact ⟨rfl, HH3.out.end_⟩
      | false =>
        obtain rfl : q2 = true := by simpa using hq
        clear hq
        go_enter Tryd.func3, Tryd.ntmps3
        go_wp2_with (first
          | (go_at_call 7; refine (first_any _ HG.out).mono ?_; rintro e w1 ⟨rfl, hb⟩; have HB1 := Lib.hid hb; have HG1 := Lib.hid (HG.out.below hb HG.out.pos); clear hb HG)
          | (go_at_call 8; refine (new_h _ HG1.out).mono ?_; rintro e w2 ⟨b, S0, rfl, hh, hu⟩; have HH2 := Lib.hid (show Hold w w2 b newS S0 from ⟨hh, (Upd.of_below HB1.out (S := none_) (S' := none_) fun _ h => h.elim).trans hu⟩); clear hh hu)
          | (go_at_call 7; refine (first_any _ HH2.out.glob).mono ?_; rintro e w3 ⟨rfl, hb⟩; have HH3 := Lib.hid (HH2.out.below hb); clear hb))
        go_ret
        exact ⟨rfl, HH3.out.end_⟩
    refine walk _ _ rfl rfl ?_
    simpa using hn'
end Go.Proofs.YthmfifcogokpoaaDoor
