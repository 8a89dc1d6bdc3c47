/- What is proved here: contracts of the program's functions and plain lemmas that the claim's last text uses, in parts: WatchFinds' drawn region: the eight lists of frames, whatever the order; WatchFinds behind its drawn region. -/
import Derived.Test.YthmfifcogokpoaaDoorM32
import Derived.Test.YthmfifcogokpoaaDoorM09
import Derived.Test.YthmfifcogokpoaaDoorM30
set_option linter.unusedVariables false
set_option linter.unusedSimpArgs false
namespace Go.Proofs.YthmfifcogokpoaaDoor
open Go.RowKit

def fiDst (i : Nat) : Nat := if i = 27 then 7 else 55 + i
def fiV (T : Own) : Nat → World → Value → Prop
  | 0 => BytV T [136]
  | 1 => FrV T (headF 3)
  | 2 => FrsV T [headF 3]
  | 3 => FrV T endF
  | 4 => FrsV T [endF]
  | 5 => FrV T (headF 1)
  | 6 => FrV T bigF
  | 7 => FrV T bigF
  | 8 => FrV T bigF
  | 9 => FrV T bigF
  | 10 => FrsV T [headF 1, bigF, bigF, bigF, bigF]
  | 11 => FrV T (headF 1)
  | 12 => FrV T endF
  | 13 => FrV T endF
  | 14 => FrsV T [headF 1, endF, endF]
  | 15 => FrV T goF
  | 16 => FrV T (headF 1)
  | 17 => FrsV T [goF, headF 1]
  | 18 => FrV T ackF
  | 19 => FrsV T [ackF]
  | 20 => BytV T [128]
  | 21 => FrV T blockF
  | 22 => FrsV T [blockF]
  | 23 => FrV T (rstF 1 8)
  | 24 => FrV T (updF 1 5)
  | 25 => FrsV T [rstF 1 8, updF 1 5]
  | 26 => AllV T waysS
  | 27 => AllV T waysS
  | _ => fun _ _ => True
theorem fi_grow {T : Own} : ∀ (j : Nat) {w w' : World} {u : Value}, Below w.heap.size w w' → fiV T j w u → fiV T j w' u
  | 0, _, _, _, hb, h => BytV.grow h hb
  | 1, _, _, _, hb, h => FrV.grow h hb
  | 2, _, _, _, hb, h => FrsV.grow h hb
  | 3, _, _, _, hb, h => FrV.grow h hb
  | 4, _, _, _, hb, h => FrsV.grow h hb
  | 5, _, _, _, hb, h => FrV.grow h hb
  | 6, _, _, _, hb, h => FrV.grow h hb
  | 7, _, _, _, hb, h => FrV.grow h hb
  | 8, _, _, _, hb, h => FrV.grow h hb
  | 9, _, _, _, hb, h => FrV.grow h hb
  | 10, _, _, _, hb, h => FrsV.grow h hb
  | 11, _, _, _, hb, h => FrV.grow h hb
  | 12, _, _, _, hb, h => FrV.grow h hb
  | 13, _, _, _, hb, h => FrV.grow h hb
  | 14, _, _, _, hb, h => FrsV.grow h hb
  | 15, _, _, _, hb, h => FrV.grow h hb
  | 16, _, _, _, hb, h => FrV.grow h hb
  | 17, _, _, _, hb, h => FrsV.grow h hb
  | 18, _, _, _, hb, h => FrV.grow h hb
  | 19, _, _, _, hb, h => FrsV.grow h hb
  | 20, _, _, _, hb, h => BytV.grow h hb
  | 21, _, _, _, hb, h => FrV.grow h hb
  | 22, _, _, _, hb, h => FrsV.grow h hb
  | 23, _, _, _, hb, h => FrV.grow h hb
  | 24, _, _, _, hb, h => FrV.grow h hb
  | 25, _, _, _, hb, h => FrsV.grow h hb
  | 26, _, _, _, hb, h => AllV.grow h hb
  | 27, _, _, _, hb, h => AllV.grow h hb
  | _ + 28, _, _, _, _, _ => trivial
theorem acyc_of {ops : Array Oper} (h : (ops.toList.zipIdx.all fun x => x.1.after.all fun e => decide (e.on < x.2)) = true) : ∀ (i : Nat) (o : Oper), ops[i]? = some o → ∀ e ∈ o.after, e.on < i := by
  intro i o ho e he
  have h1 := List.all_eq_true.1 h (o, i) (by
    rw [List.mem_zipIdx_iff_getElem?]
    simpa using ho)
  simpa using Array.all_eq_true_iff_forall_mem.1 h1 e he
theorem dst_of {ops : Array Oper} {dst : Nat → Nat} (h : (ops.toList.zipIdx.all fun x => x.1.dst == some (dst x.2)) = true) : ∀ (i : Nat) (o : Oper), ops[i]? = some o → o.dst = some (dst i) := by
  intro i o ho
  have h1 := List.all_eq_true.1 h (o, i) (by
    rw [List.mem_zipIdx_iff_getElem?]
    simpa using ho)
  simpa using h1

noncomputable def fiBody : Code := Tryd.f3.body.getD .skip

set_option maxRecDepth 100000 in
set_option maxHeartbeats 4000000 in
theorem fi_draw (T : Own) (W0 : World) (hT : ∀ k, T k → k < W0.heap.size) (hb eb gb : Nat) (hh : PtrV T (headF 1) W0 hb) (he : PtrV T endF W0 eb) (hg : PtrV T bigF W0 gb) (k : Nat) (wp : Value) (Q : Exit → Act → World → Prop)
    (hrest : ∀ (a : Act) (w : World), Below W0.heap.size W0 w → a.defers = [] → a.tmps.size = 119 → a.tmps.getD 0 undef = .int .i64 k → a.tmps.getD 3 undef = wp → AllV T waysS w (a.tmps.getD 7 undef) → tailW Tryd.prog 10 fiBody Q a w) (u1 u2 u7 u8 u9 u10 u11 u12 u13 u14 u15 u16 u17 u18 u19 u20 u21 u22 u23 u24 u25 u26 u27 u28 u29 u30 u31 u32 u33 u34 u35 u36 u37 u38 u39 u40 u41 u42 u43 u44 u45 u46 u47 u48 u49 u50 u51 u52 u53 u54 u55 u56 u57 u58 u59 u60 u61 u62 u63 u64 u65 u66 u67 u68 u69 u70 u71 u72 u73 u74 u75 u76 u77 u78 u79 u80 u81 u82 u83 u84 u85 u86 u87 u88 u89 u90 u91 u92 u93 u94 u95 u96 u97 u98 u99 u100 u101 u102 u103 u104 u105 u106 u107 u108 u109 u110 u111 u112 u113 u114 u115 u116 u117 u118 : Value) :
    tailW Tryd.prog 9 fiBody Q ⟨#[.int .i64 k, u1, u2, wp, .pointer (some ⟨hb, 0, none⟩), .pointer (some ⟨eb, 0, none⟩), .pointer (some ⟨gb, 0, none⟩), u7, u8, u9, u10, u11, u12, u13, u14, u15, u16, u17, u18, u19, u20, u21, u22, u23, u24, u25, u26, u27, u28, u29, u30, u31, u32, u33, u34, u35, u36, u37, u38, u39, u40, u41, u42, u43, u44, u45, u46, u47, u48, u49, u50, u51, u52, u53, u54, u55, u56, u57, u58, u59, u60, u61, u62, u63, u64, u65, u66, u67, u68, u69, u70, u71, u72, u73, u74, u75, u76, u77, u78, u79, u80, u81, u82, u83, u84, u85, u86, u87, u88, u89, u90, u91, u92, u93, u94, u95, u96, u97, u98, u99, u100, u101, u102, u103, u104, u105, u106, u107, u108, u109, u110, u111, u112, u113, u114, u115, u116, u117, u118], []⟩ W0 := by
  refine tail_step 9 fiBody ?_
  show Code.wp _ _ _ _ _
  refine wp_region_any (by kernel_rfl) ?_
  refine wpAny_drawn (acyc_of (by kernel_rfl)) _ fiDst (dst_of (by kernel_rfl)) ?_ ?_ (fiV T) (fun w => Below W0.heap.size W0 w) (fun j w w' u _ _ hb2 h => fi_grow j hb2 h) ?_ _ (Below.refl _ _).drew ?_
  · intro i j hi hj h
    have hi2 : i < 28 := hi
    have hj2 : j < 28 := hj
    unfold fiDst at h
    split at h <;> split at h <;> omega
  · intro i hi
    have hi2 : i < 28 := hi
    show fiDst i < 119
    unfold fiDst
    split <;> omega
  · intro i o ho a w hR hk hE K hK
    have hi : i < 28 := (Array.getElem?_eq_some_iff.1 ho).1
    have a4 : a.eval (.tmp 4) = .pointer (some ⟨hb, 0, none⟩) := by
      have h := hk 4 (fun j _ => by unfold fiDst; split <;> omega)
      show a.tmps.getD 4 undef = _
      rw [Array.getD_eq_getD_getElem?, h]
      rfl
    have a5 : a.eval (.tmp 5) = .pointer (some ⟨eb, 0, none⟩) := by
      have h := hk 5 (fun j _ => by unfold fiDst; split <;> omega)
      show a.tmps.getD 5 undef = _
      rw [Array.getD_eq_getD_getElem?, h]
      rfl
    have a6 : a.eval (.tmp 6) = .pointer (some ⟨gb, 0, none⟩) := by
      have h := hk 6 (fun j _ => by unfold fiDst; split <;> omega)
      show a.tmps.getD 6 undef = _
      rw [Array.getD_eq_getD_getElem?, h]
      rfl
    have hN : ∀ k, w.heap.size ≤ k → ¬ T k := fun k hk1 ht => by
      have h1 := hT k ht
      have h2 := hR.size
      omega
    clear hk hrest
    match i, hi, ho, hK with
    | 0, _, ho, hK =>
      obtain rfl := Option.some.inj ho
      refine wpOp_go rfl rfl (wp_builtS 26 5 1 _ rfl Tryd.underlying26 #[(0, .int .u8 136)] (by simp only [List.map_toArray, List.map_cons, List.map_nil, Act.eval]) _ (builtS_b 136) ?_)
      exact hK _ _ (hR.alloc hR.size _) (below_alloc w _) (byt_made [136] _ rfl (by decide) w hN)
    | 1, _, ho, hK =>
      obtain rfl := Option.some.inj ho
      have f0 : BytV T [136] w (a.tmps.getD 55 undef) := hE ⟨0, .data⟩ (by simp) rfl
      obtain ⟨b, e1, e2, e3, e4⟩ := f0
      refine wpOp_go rfl rfl (wp_built 29 _ rfl #[(0, .int .i64 1), (1, .int .i64 4), (2, .int .i64 3), (3, .slice (some ⟨b, 0, none⟩) 1 1)] (by simp only [List.map_toArray, List.map_cons, List.map_nil, Act.eval]; rw [e1]; rfl) _ (built_fr 1 4 3 (some ⟨b, 0, none⟩) 1 1) ?_)
      exact hK _ _ hR (Below.refl _ _) (fr_made (headF 3) w _ ⟨b, rfl, e2, e3, e4⟩)
    | 2, _, ho, hK =>
      obtain rfl := Option.some.inj ho
      have f1 : FrV T (headF 3) w (a.tmps.getD 56 undef) := hE ⟨1, .data⟩ (by simp) rfl
      obtain ⟨A1, c1, e1, r1, k1⟩ := f1
      refine wpOp_go rfl rfl (wp_builtS 34 29 1 _ rfl Tryd.underlying34 #[(0, ((headF 3)).v A1 c1)] (by simp only [List.map_toArray, List.map_cons, List.map_nil, Act.eval, e1]) _ (builtS_1 _ _ _ _) ?_)
      exact hK _ _ (hR.alloc hR.size _) (below_alloc w _) (frs_made [((headF 3), A1, c1)] w hN (by
        intro x hx
        simp only [List.mem_cons, List.not_mem_nil, or_false] at hx
        subst hx
        exact ⟨r1, k1⟩) _ rfl _ rfl _ rfl)
    | 3, _, ho, hK =>
      obtain rfl := Option.some.inj ho
      obtain ⟨A, c, h1, h2⟩ := fr_loaded (he.grow hR)
      refine wpOp_go rfl rfl (wp_load_row 29 (.tmp 5) rfl _ a5 29 _ (0, 0) _ h1 Tryd.underlying29 rfl (by kernel_rfl) ?_)
      exact hK _ _ hR (Below.refl _ _) h2
    | 4, _, ho, hK =>
      obtain rfl := Option.some.inj ho
      have f3 : FrV T endF w (a.tmps.getD 58 undef) := hE ⟨3, .data⟩ (by simp) rfl
      obtain ⟨A3, c3, e3, r3, k3⟩ := f3
      refine wpOp_go rfl rfl (wp_builtS 34 29 1 _ rfl Tryd.underlying34 #[(0, (endF).v A3 c3)] (by simp only [List.map_toArray, List.map_cons, List.map_nil, Act.eval, e3]) _ (builtS_1 _ _ _ _) ?_)
      exact hK _ _ (hR.alloc hR.size _) (below_alloc w _) (frs_made [(endF, A3, c3)] w hN (by
        intro x hx
        simp only [List.mem_cons, List.not_mem_nil, or_false] at hx
        subst hx
        exact ⟨r3, k3⟩) _ rfl _ rfl _ rfl)
    | 5, _, ho, hK =>
      obtain rfl := Option.some.inj ho
      obtain ⟨A, c, h1, h2⟩ := fr_loaded (hh.grow hR)
      refine wpOp_go rfl rfl (wp_load_row 29 (.tmp 4) rfl _ a4 29 _ (0, 0) _ h1 Tryd.underlying29 rfl (by kernel_rfl) ?_)
      exact hK _ _ hR (Below.refl _ _) h2
    | 6, _, ho, hK =>
      obtain rfl := Option.some.inj ho
      obtain ⟨A, c, h1, h2⟩ := fr_loaded (hg.grow hR)
      refine wpOp_go rfl rfl (wp_load_row 29 (.tmp 6) rfl _ a6 29 _ (0, 0) _ h1 Tryd.underlying29 rfl (by kernel_rfl) ?_)
      exact hK _ _ hR (Below.refl _ _) h2
    | 7, _, ho, hK =>
      obtain rfl := Option.some.inj ho
      obtain ⟨A, c, h1, h2⟩ := fr_loaded (hg.grow hR)
      refine wpOp_go rfl rfl (wp_load_row 29 (.tmp 6) rfl _ a6 29 _ (0, 0) _ h1 Tryd.underlying29 rfl (by kernel_rfl) ?_)
      exact hK _ _ hR (Below.refl _ _) h2
    | 8, _, ho, hK =>
      obtain rfl := Option.some.inj ho
      obtain ⟨A, c, h1, h2⟩ := fr_loaded (hg.grow hR)
      refine wpOp_go rfl rfl (wp_load_row 29 (.tmp 6) rfl _ a6 29 _ (0, 0) _ h1 Tryd.underlying29 rfl (by kernel_rfl) ?_)
      exact hK _ _ hR (Below.refl _ _) h2
    | 9, _, ho, hK =>
      obtain rfl := Option.some.inj ho
      obtain ⟨A, c, h1, h2⟩ := fr_loaded (hg.grow hR)
      refine wpOp_go rfl rfl (wp_load_row 29 (.tmp 6) rfl _ a6 29 _ (0, 0) _ h1 Tryd.underlying29 rfl (by kernel_rfl) ?_)
      exact hK _ _ hR (Below.refl _ _) h2
    | 10, _, ho, hK =>
      obtain rfl := Option.some.inj ho
      have f5 : FrV T (headF 1) w (a.tmps.getD 60 undef) := hE ⟨5, .data⟩ (by simp) rfl
      have f6 : FrV T bigF w (a.tmps.getD 61 undef) := hE ⟨6, .data⟩ (by simp) rfl
      have f7 : FrV T bigF w (a.tmps.getD 62 undef) := hE ⟨7, .data⟩ (by simp) rfl
      have f8 : FrV T bigF w (a.tmps.getD 63 undef) := hE ⟨8, .data⟩ (by simp) rfl
      have f9 : FrV T bigF w (a.tmps.getD 64 undef) := hE ⟨9, .data⟩ (by simp) rfl
      obtain ⟨A5, c5, e5, r5, k5⟩ := f5
      obtain ⟨A6, c6, e6, r6, k6⟩ := f6
      obtain ⟨A7, c7, e7, r7, k7⟩ := f7
      obtain ⟨A8, c8, e8, r8, k8⟩ := f8
      obtain ⟨A9, c9, e9, r9, k9⟩ := f9
      refine wpOp_go rfl rfl (wp_builtS 34 29 5 _ rfl Tryd.underlying34 #[(0, ((headF 1)).v A5 c5), (1, (bigF).v A6 c6), (2, (bigF).v A7 c7), (3, (bigF).v A8 c8), (4, (bigF).v A9 c9)] (by simp only [List.map_toArray, List.map_cons, List.map_nil, Act.eval, e5, e6, e7, e8, e9]) _ (builtS_5 _ _ _ _ _ _ _ _ _ _ _ _ _ _ _ _ _ _ _ _) ?_)
      exact hK _ _ (hR.alloc hR.size _) (below_alloc w _) (frs_made [((headF 1), A5, c5), (bigF, A6, c6), (bigF, A7, c7), (bigF, A8, c8), (bigF, A9, c9)] w hN (by
        intro x hx
        simp only [List.mem_cons, List.not_mem_nil, or_false] at hx
        rcases hx with rfl | rfl | rfl | rfl | rfl
        · exact ⟨r5, k5⟩
        · exact ⟨r6, k6⟩
        · exact ⟨r7, k7⟩
        · exact ⟨r8, k8⟩
        · exact ⟨r9, k9⟩) _ rfl _ rfl _ rfl)
    | 11, _, ho, hK =>
      obtain rfl := Option.some.inj ho
      obtain ⟨A, c, h1, h2⟩ := fr_loaded (hh.grow hR)
      refine wpOp_go rfl rfl (wp_load_row 29 (.tmp 4) rfl _ a4 29 _ (0, 0) _ h1 Tryd.underlying29 rfl (by kernel_rfl) ?_)
      exact hK _ _ hR (Below.refl _ _) h2
    | 12, _, ho, hK =>
      obtain rfl := Option.some.inj ho
      obtain ⟨A, c, h1, h2⟩ := fr_loaded (he.grow hR)
      refine wpOp_go rfl rfl (wp_load_row 29 (.tmp 5) rfl _ a5 29 _ (0, 0) _ h1 Tryd.underlying29 rfl (by kernel_rfl) ?_)
      exact hK _ _ hR (Below.refl _ _) h2
    | 13, _, ho, hK =>
      obtain rfl := Option.some.inj ho
      obtain ⟨A, c, h1, h2⟩ := fr_loaded (he.grow hR)
      refine wpOp_go rfl rfl (wp_load_row 29 (.tmp 5) rfl _ a5 29 _ (0, 0) _ h1 Tryd.underlying29 rfl (by kernel_rfl) ?_)
      exact hK _ _ hR (Below.refl _ _) h2
    | 14, _, ho, hK =>
      obtain rfl := Option.some.inj ho
      have f11 : FrV T (headF 1) w (a.tmps.getD 66 undef) := hE ⟨11, .data⟩ (by simp) rfl
      have f12 : FrV T endF w (a.tmps.getD 67 undef) := hE ⟨12, .data⟩ (by simp) rfl
      have f13 : FrV T endF w (a.tmps.getD 68 undef) := hE ⟨13, .data⟩ (by simp) rfl
      obtain ⟨A11, c11, e11, r11, k11⟩ := f11
      obtain ⟨A12, c12, e12, r12, k12⟩ := f12
      obtain ⟨A13, c13, e13, r13, k13⟩ := f13
      refine wpOp_go rfl rfl (wp_builtS 34 29 3 _ rfl Tryd.underlying34 #[(0, ((headF 1)).v A11 c11), (1, (endF).v A12 c12), (2, (endF).v A13 c13)] (by simp only [List.map_toArray, List.map_cons, List.map_nil, Act.eval, e11, e12, e13]) _ (builtS_3 _ _ _ _ _ _ _ _ _ _ _ _) ?_)
      exact hK _ _ (hR.alloc hR.size _) (below_alloc w _) (frs_made [((headF 1), A11, c11), (endF, A12, c12), (endF, A13, c13)] w hN (by
        intro x hx
        simp only [List.mem_cons, List.not_mem_nil, or_false] at hx
        rcases hx with rfl | rfl | rfl
        · exact ⟨r11, k11⟩
        · exact ⟨r12, k12⟩
        · exact ⟨r13, k13⟩) _ rfl _ rfl _ rfl)
    | 15, _, ho, hK =>
      obtain rfl := Option.some.inj ho
      refine wpOp_go rfl rfl (FrQ.yields 14 #[.int .i64 1, .int .i64 1] (goF) (by kernel_rfl) (refGoaway_any 1 1 (by decide) (by decide) w) hN fun v w' hb2 hv => ?_)
      exact hK _ _ (hR.trans (hb2.mono hR.size)) hb2 hv
    | 16, _, ho, hK =>
      obtain rfl := Option.some.inj ho
      obtain ⟨A, c, h1, h2⟩ := fr_loaded (hh.grow hR)
      refine wpOp_go rfl rfl (wp_load_row 29 (.tmp 4) rfl _ a4 29 _ (0, 0) _ h1 Tryd.underlying29 rfl (by kernel_rfl) ?_)
      exact hK _ _ hR (Below.refl _ _) h2
    | 17, _, ho, hK =>
      obtain rfl := Option.some.inj ho
      have f15 : FrV T goF w (a.tmps.getD 70 undef) := hE ⟨15, .data⟩ (by simp) rfl
      have f16 : FrV T (headF 1) w (a.tmps.getD 71 undef) := hE ⟨16, .data⟩ (by simp) rfl
      obtain ⟨A15, c15, e15, r15, k15⟩ := f15
      obtain ⟨A16, c16, e16, r16, k16⟩ := f16
      refine wpOp_go rfl rfl (wp_builtS 34 29 2 _ rfl Tryd.underlying34 #[(0, (goF).v A15 c15), (1, ((headF 1)).v A16 c16)] (by simp only [List.map_toArray, List.map_cons, List.map_nil, Act.eval, e15, e16]) _ (builtS_2 _ _ _ _ _ _ _ _) ?_)
      exact hK _ _ (hR.alloc hR.size _) (below_alloc w _) (frs_made [(goF, A15, c15), ((headF 1), A16, c16)] w hN (by
        intro x hx
        simp only [List.mem_cons, List.not_mem_nil, or_false] at hx
        rcases hx with rfl | rfl
        · exact ⟨r15, k15⟩
        · exact ⟨r16, k16⟩) _ rfl _ rfl _ rfl)
    | 18, _, ho, hK =>
      obtain rfl := Option.some.inj ho
      refine wpOp_go rfl rfl (FrQ.yields 11 #[.slice none 0 0, .bool true] (ackF) (by kernel_rfl) (refSettings_yes w) hN fun v w' hb2 hv => ?_)
      exact hK _ _ (hR.trans (hb2.mono hR.size)) hb2 hv
    | 19, _, ho, hK =>
      obtain rfl := Option.some.inj ho
      have f18 : FrV T ackF w (a.tmps.getD 73 undef) := hE ⟨18, .data⟩ (by simp) rfl
      obtain ⟨A18, c18, e18, r18, k18⟩ := f18
      refine wpOp_go rfl rfl (wp_builtS 34 29 1 _ rfl Tryd.underlying34 #[(0, (ackF).v A18 c18)] (by simp only [List.map_toArray, List.map_cons, List.map_nil, Act.eval, e18]) _ (builtS_1 _ _ _ _) ?_)
      exact hK _ _ (hR.alloc hR.size _) (below_alloc w _) (frs_made [(ackF, A18, c18)] w hN (by
        intro x hx
        simp only [List.mem_cons, List.not_mem_nil, or_false] at hx
        subst hx
        exact ⟨r18, k18⟩) _ rfl _ rfl _ rfl)
    | 20, _, ho, hK =>
      obtain rfl := Option.some.inj ho
      refine wpOp_go rfl rfl (wp_builtS 26 5 1 _ rfl Tryd.underlying26 #[(0, .int .u8 128)] (by simp only [List.map_toArray, List.map_cons, List.map_nil, Act.eval]) _ (builtS_b 128) ?_)
      exact hK _ _ (hR.alloc hR.size _) (below_alloc w _) (byt_made [128] _ rfl (by decide) w hN)
    | 21, _, ho, hK =>
      obtain rfl := Option.some.inj ho
      have f20 : BytV T [128] w (a.tmps.getD 75 undef) := hE ⟨20, .data⟩ (by simp) rfl
      obtain ⟨b, e1, e2, e3, e4⟩ := f20
      refine wpOp_go rfl rfl (wp_built 29 _ rfl #[(0, .int .i64 1), (1, .int .i64 4), (2, .int .i64 1), (3, .slice (some ⟨b, 0, none⟩) 1 1)] (by simp only [List.map_toArray, List.map_cons, List.map_nil, Act.eval]; rw [e1]; rfl) _ (built_fr 1 4 1 (some ⟨b, 0, none⟩) 1 1) ?_)
      exact hK _ _ hR (Below.refl _ _) (fr_made blockF w _ ⟨b, rfl, e2, e3, e4⟩)
    | 22, _, ho, hK =>
      obtain rfl := Option.some.inj ho
      have f21 : FrV T blockF w (a.tmps.getD 76 undef) := hE ⟨21, .data⟩ (by simp) rfl
      obtain ⟨A21, c21, e21, r21, k21⟩ := f21
      refine wpOp_go rfl rfl (wp_builtS 34 29 1 _ rfl Tryd.underlying34 #[(0, (blockF).v A21 c21)] (by simp only [List.map_toArray, List.map_cons, List.map_nil, Act.eval, e21]) _ (builtS_1 _ _ _ _) ?_)
      exact hK _ _ (hR.alloc hR.size _) (below_alloc w _) (frs_made [(blockF, A21, c21)] w hN (by
        intro x hx
        simp only [List.mem_cons, List.not_mem_nil, or_false] at hx
        subst hx
        exact ⟨r21, k21⟩) _ rfl _ rfl _ rfl)
    | 23, _, ho, hK =>
      obtain rfl := Option.some.inj ho
      refine wpOp_go rfl rfl (FrQ.yields 15 #[.int .i64 1, .int .i64 8] (rstF 1 8) (by kernel_rfl) (refRst_any 1 8 (by decide) (by decide) w) hN fun v w' hb2 hv => ?_)
      exact hK _ _ (hR.trans (hb2.mono hR.size)) hb2 hv
    | 24, _, ho, hK =>
      obtain rfl := Option.some.inj ho
      refine wpOp_go rfl rfl (FrQ.yields 16 #[.int .i64 1, .int .i64 5] (updF 1 5) (by kernel_rfl) (refUpdate_any 1 5 (by decide) (by decide) w) hN fun v w' hb2 hv => ?_)
      exact hK _ _ (hR.trans (hb2.mono hR.size)) hb2 hv
    | 25, _, ho, hK =>
      obtain rfl := Option.some.inj ho
      have f23 : FrV T (rstF 1 8) w (a.tmps.getD 78 undef) := hE ⟨23, .data⟩ (by simp) rfl
      have f24 : FrV T (updF 1 5) w (a.tmps.getD 79 undef) := hE ⟨24, .data⟩ (by simp) rfl
      obtain ⟨A23, c23, e23, r23, k23⟩ := f23
      obtain ⟨A24, c24, e24, r24, k24⟩ := f24
      refine wpOp_go rfl rfl (wp_builtS 34 29 2 _ rfl Tryd.underlying34 #[(0, ((rstF 1 8)).v A23 c23), (1, ((updF 1 5)).v A24 c24)] (by simp only [List.map_toArray, List.map_cons, List.map_nil, Act.eval, e23, e24]) _ (builtS_2 _ _ _ _ _ _ _ _) ?_)
      exact hK _ _ (hR.alloc hR.size _) (below_alloc w _) (frs_made [((rstF 1 8), A23, c23), ((updF 1 5), A24, c24)] w hN (by
        intro x hx
        simp only [List.mem_cons, List.not_mem_nil, or_false] at hx
        rcases hx with rfl | rfl
        · exact ⟨r23, k23⟩
        · exact ⟨r24, k24⟩) _ rfl _ rfl _ rfl)
    | 26, _, ho, hK =>
      obtain rfl := Option.some.inj ho
      have f2 : FrsV T [headF 3] w (a.tmps.getD 57 undef) := hE ⟨2, .data⟩ (by simp) rfl
      have f4 : FrsV T [endF] w (a.tmps.getD 59 undef) := hE ⟨4, .data⟩ (by simp) rfl
      have f10 : FrsV T [headF 1, bigF, bigF, bigF, bigF] w (a.tmps.getD 65 undef) := hE ⟨10, .data⟩ (by simp) rfl
      have f14 : FrsV T [headF 1, endF, endF] w (a.tmps.getD 69 undef) := hE ⟨14, .data⟩ (by simp) rfl
      have f17 : FrsV T [goF, headF 1] w (a.tmps.getD 72 undef) := hE ⟨17, .data⟩ (by simp) rfl
      have f19 : FrsV T [ackF] w (a.tmps.getD 74 undef) := hE ⟨19, .data⟩ (by simp) rfl
      have f22 : FrsV T [blockF] w (a.tmps.getD 77 undef) := hE ⟨22, .data⟩ (by simp) rfl
      have f25 : FrsV T [rstF 1 8, updF 1 5] w (a.tmps.getD 80 undef) := hE ⟨25, .data⟩ (by simp) rfl
      obtain ⟨L2, b2, l2, e2, m2⟩ := id f2
      rw [e2] at f2
      obtain ⟨L4, b4, l4, e4, m4⟩ := id f4
      rw [e4] at f4
      obtain ⟨L10, b10, l10, e10, m10⟩ := id f10
      rw [e10] at f10
      obtain ⟨L14, b14, l14, e14, m14⟩ := id f14
      rw [e14] at f14
      obtain ⟨L17, b17, l17, e17, m17⟩ := id f17
      rw [e17] at f17
      obtain ⟨L19, b19, l19, e19, m19⟩ := id f19
      rw [e19] at f19
      obtain ⟨L22, b22, l22, e22, m22⟩ := id f22
      rw [e22] at f22
      obtain ⟨L25, b25, l25, e25, m25⟩ := id f25
      rw [e25] at f25
      refine wpOp_go rfl rfl (wp_builtS 36 34 8 _ rfl Tryd.underlying36 #[(0, .slice (some ⟨b2, 0, none⟩) L2.length L2.length), (1, .slice (some ⟨b4, 0, none⟩) L4.length L4.length), (2, .slice (some ⟨b10, 0, none⟩) L10.length L10.length), (3, .slice (some ⟨b14, 0, none⟩) L14.length L14.length), (4, .slice (some ⟨b17, 0, none⟩) L17.length L17.length), (5, .slice (some ⟨b19, 0, none⟩) L19.length L19.length), (6, .slice (some ⟨b22, 0, none⟩) L22.length L22.length), (7, .slice (some ⟨b25, 0, none⟩) L25.length L25.length)] (by simp only [List.map_toArray, List.map_cons, List.map_nil, Act.eval, e2, e4, e10, e14, e17, e19, e22, e25]) _ (builtS_8 _ _ _ _ _ _ _ _ _ _ _ _ _ _ _ _ _ _ _ _ _ _ _ _) ?_)
      refine hK _ _ (hR.alloc hR.size _) (below_alloc w _) (all_made waysS [.slice (some ⟨b2, 0, none⟩) L2.length L2.length, .slice (some ⟨b4, 0, none⟩) L4.length L4.length, .slice (some ⟨b10, 0, none⟩) L10.length L10.length, .slice (some ⟨b14, 0, none⟩) L14.length L14.length, .slice (some ⟨b17, 0, none⟩) L17.length L17.length, .slice (some ⟨b19, 0, none⟩) L19.length L19.length, .slice (some ⟨b22, 0, none⟩) L22.length L22.length, .slice (some ⟨b25, 0, none⟩) L25.length L25.length] w rfl ?_ _ rfl _ rfl)
      intro q l hl
      match q, hl with
      | 0, hl => cases hl; exact ⟨_, rfl, f2⟩
      | 1, hl => cases hl; exact ⟨_, rfl, f4⟩
      | 2, hl => cases hl; exact ⟨_, rfl, f10⟩
      | 3, hl => cases hl; exact ⟨_, rfl, f14⟩
      | 4, hl => cases hl; exact ⟨_, rfl, f17⟩
      | 5, hl => cases hl; exact ⟨_, rfl, f19⟩
      | 6, hl => cases hl; exact ⟨_, rfl, f22⟩
      | 7, hl => cases hl; exact ⟨_, rfl, f25⟩
      | q + 8, hl => cases hl
    | 27, _, ho, hK =>
      obtain rfl := Option.some.inj ho
      have f26 : AllV T waysS w (a.tmps.getD 81 undef) := hE ⟨26, .data⟩ (by simp) rfl
      refine wpOp_go rfl rfl (wp_set (.tmp 81) rfl ?_)
      exact hK _ _ hR (Below.refl _ _) f26
  · intro a w hR hd hs hk hV
    refine hrest a w hR hd hs ?_ ?_ (hV 27 (by decide))
    · have h := hk 0 (fun j _ => by unfold fiDst; split <;> omega)
      rw [Array.getD_eq_getD_getElem?, h]
      rfl
    · have h := hk 3 (fun j _ => by unfold fiDst; split <;> omega)
      rw [Array.getD_eq_getD_getElem?, h]
      rfl
end Go.Proofs.YthmfifcogokpoaaDoor
namespace Go.Proofs.YthmfifcogokpoaaDoor
open Go.RowKit

theorem frames_rd (f : FrameS) (hf : f.Fits) (W : World) {A : Option Addr} {c : Nat} (hr : Rd W 1 A f.body.length c (bys f.body)) (hlt : ∀ k, blockOf A = some k → k < W.heap.size) (g : Nat) (hg : g = W.heap.size) :
    Calls Tryd.prog 10 #[.slice (some ⟨g, 0, none⟩) 1 1] (W.alloc (.cells #[.int .i64 f.kind, .int .i64 f.flags, .int .i64 f.stream, .slice A f.body.length c] 29)) (OwnQ (putB f) (W.alloc (.cells #[.int .i64 f.kind, .int .i64 f.flags, .int .i64 f.stream, .slice A f.body.length c] 29))) := by
  subst hg
  have hb := hf.body
  have h := frames_blk [(f, A, c)] (W := W.alloc (.cells #[.int .i64 f.kind, .int .i64 f.flags, .int .i64 f.stream, .slice A f.body.length c] 29)) (g := W.heap.size) (Blk.new W _ [.int .i64 f.kind, .int .i64 f.flags, .int .i64 f.stream, .slice A f.body.length c]) (by simp) (fun x hx => by
    rw [List.mem_singleton] at hx
    subst hx
    exact ⟨hf, hr.alloc (by omega) _, fun k hk => by have := hlt k hk; simp; omega⟩) (by simp [allB, putB_length]; omega)
  simpa [allB] using h
theorem frCells_take (L : FrL) (m : Nat) : frCells (L.take m) = (frCells L).take (m * 4) := by
  induction L generalizing m with
  | nil => simp [frCells]
  | cons x r ih =>
    cases m with
    | zero => simp [frCells]
    | succ m =>
      have h := ih m
      have e : frCells (x :: r) = .int .i64 x.1.kind :: .int .i64 x.1.flags :: .int .i64 x.1.stream :: .slice x.2.1 x.1.body.length x.2.2 :: frCells r := by simp [frCells]
      have e2 : frCells (x :: r.take m) = .int .i64 x.1.kind :: .int .i64 x.1.flags :: .int .i64 x.1.stream :: .slice x.2.1 x.1.body.length x.2.2 :: frCells (r.take m) := by simp [frCells]
      rw [List.take_succ_cons, e, e2, h, show (m + 1) * 4 = m * 4 + 1 + 1 + 1 + 1 from by omega]
      simp
theorem allB_len (l : List FrameS) (h : ∀ f ∈ l, f.Fits) : (allB l).length ≤ l.length * 16777225 := by
  induction l with
  | nil => simp [allB]
  | cons f r ih =>
    have h1 := (h f List.mem_cons_self).body
    have h2 := ih fun g hg => h g (List.mem_cons_of_mem _ hg)
    rw [allB_cons, List.length_append, putB_length]
    simp only [List.length_cons]
    omega
theorem rd_frames {W : World} {lb : Nat} {L : FrL} (h : Blk W lb 29 (frCells L)) (hl : L.length ≤ 100) : Rd W 4 (some ⟨lb, 0, none⟩) L.length L.length (frCells L) :=
  (Row.made (e := 29) (cs := frCells L) h (Nat.le_refl _) (by simp only [maxLen]; omega) (by rw [frCells_length]; exact Nat.le_refl _) (by rw [← frCells_length, List.take_length])).rd

abbrev FiP (w : World) : Exit → Act → World → Prop := bodyPost Tryd.prog Tryd.f3 (TrueQ w)

set_option maxRecDepth 100000 in
set_option maxHeartbeats 1000000 in
/-- The last frame: the finding. -/
theorem fi_last (w W : World) (b : Nat) (s1 s2 : WatchS) (S : Own) (h : Hold w W b s1 S) (B : Nat) (hok : WOk B s1) (hB : B ≤ 500000000) (hd : s1.dead = true → s1.bad = true) (f : FrameS) (hf : f.Fits) (A : Option Addr) (c : Nat) (hs : outS s1 (putB f) = s2) (hbad : s2.bad = true) (ho : s2.outB = [])
    (lb n m : Nat) (hn : (n : Int) - 1 = (m : Int)) (hn100 : n ≤ 100) (hlt : lb < W.heap.size) (d0 : W.cell? ⟨lb, m * 4, none⟩ = some (.int .i64 f.kind)) (d1 : W.cell? ⟨lb, m * 4 + 1, none⟩ = some (.int .i64 f.flags)) (d2 : W.cell? ⟨lb, m * 4 + 2, none⟩ = some (.int .i64 f.stream)) (d3 : W.cell? ⟨lb, m * 4 + 3, none⟩ = some (.slice A f.body.length c))
    (hr : Rd W 1 A f.body.length c (bys f.body)) (hA : ∀ k, blockOf A = some k → k < W.heap.size) (u0 u1 u2 u4 u5 u6 u7 u9 u10 u11 u12 u13 u14 u15 u16 u17 u18 u19 u20 u21 u22 u23 u24 u25 u26 u27 u28 u29 u30 u31 u32 u33 u34 u35 u36 u37 u38 u39 u40 u41 u42 u43 u44 u45 u46 u47 u48 u49 u50 u51 u52 u53 u54 u55 u56 u57 u58 u59 u60 u61 u62 u63 u64 u65 u66 u67 u68 u69 u70 u71 u72 u73 u74 u75 u76 u77 u78 u79 u80 u81 u82 u83 u84 u85 u86 u87 u88 u89 u90 u91 u92 u93 u94 u95 u96 u97 u98 u99 u100 u101 u102 u103 u104 u105 u106 u107 u108 u109 u110 u111 u112 u113 u114 u115 u116 u117 u118 : Value) :
    tailW Tryd.prog 12 fiBody (FiP w) ⟨#[u0, u1, u2, .pointer (some ⟨b, 0, none⟩), u4, u5, u6, u7, .slice (some ⟨lb, 0, none⟩) n n, u9, u10, u11, u12, u13, u14, u15, u16, u17, u18, u19, u20, u21, u22, u23, u24, u25, u26, u27, u28, u29, u30, u31, u32, u33, u34, u35, u36, u37, u38, u39, u40, u41, u42, u43, u44, u45, u46, u47, u48, u49, u50, u51, u52, u53, u54, u55, u56, u57, u58, u59, u60, u61, u62, u63, u64, u65, u66, u67, u68, u69, u70, u71, u72, u73, u74, u75, u76, u77, u78, u79, u80, u81, u82, u83, u84, u85, u86, u87, u88, u89, u90, u91, u92, u93, u94, u95, u96, u97, u98, u99, u100, u101, u102, u103, u104, u105, u106, u107, u108, u109, u110, u111, u112, u113, u114, u115, u116, u117, u118], []⟩ W := by
  have HH := Lib.hid h
  have hb := hf.body
  have hlen : (putB f).length ≤ 16777225 := by rw [putB_length]; omega
  have HO := Lib.hid (fun (W : World) (S : Own) (h : HAt W b s1 S) (A : Option Addr) (c : Nat) (S1 : Own) (hr : Row 5 1 A (putB f).length c (bys (putB f)) S1 W) (ha : Apart S1 S) => out_row h hok hd hr ha (by omega) s2 hs 2 (by rw [hbad]; rfl))
  have hok2 : WOk (B + (putB f).length) s2 := hs ▸ outS_ok hok (putB f) (by omega)
  have hd2 : s2.dead = true → s2.bad = true := fun _ => hbad
  have HO2 := Lib.hid (fun (W : World) (S : Own) (h : HAt W b s2 S) => out_nil h hok2 hd2 (by omega) ho 2 (by rw [hbad]; rfl))
  have HF := Lib.hid (fun (W' : World) (hb : Below W.heap.size W W') (g : Nat) (hg : g = W'.heap.size) => frames_rd f hf W' (hr.below hb hA) (fun k hk => Nat.lt_of_lt_of_le (hA k hk) hb.size) g hg)
  have HC := Lib.hid (show ∀ W' : World, Below W.heap.size W W' → W'.cell? ⟨lb, m * 4, none⟩ = some (.int .i64 f.kind) ∧ W'.cell? ⟨lb, m * 4 + 1, none⟩ = some (.int .i64 f.flags) ∧ W'.cell? ⟨lb, m * 4 + 2, none⟩ = some (.int .i64 f.stream) ∧ W'.cell? ⟨lb, m * 4 + 3, none⟩ = some (.slice A f.body.length c) from fun W' hb => ⟨(hb.cell (p := ⟨lb, m * 4, none⟩) hlt).trans d0, (hb.cell (p := ⟨lb, m * 4 + 1, none⟩) hlt).trans d1, (hb.cell (p := ⟨lb, m * 4 + 2, none⟩) hlt).trans d2, (hb.cell (p := ⟨lb, m * 4 + 3, none⟩) hlt).trans d3⟩)
  have j0 : (0 : Int) ≤ (m : Int) := by omega
  have j1 : (m : Int) < (n : Int) := by omega
  unfold OwnQ at HF
  unfold OutR at HO HO2
  clear h hb hok hd hf hs hbad ho hok2 hd2 d0 d1 d2 d3 hr hA hlt
  generalize putB f = l1 at *
  show Code.wp _ _ _ _ _
  go_wp2_with (first
    | (go_at_call 7; refine (first_any _ HH.out.glob).mono ?_; rintro e w1 ⟨rfl, hb⟩; have HH1 := Lib.hid (HH.out.below hb); have HB1 := Lib.hid hb; obtain ⟨d0, d1, d2, d3⟩ := HC.out _ hb; clear hb HC)
    | (go_at_call 10; refine (HF.out w1 HB1.out _ (by simp)).mono ?_; rintro e w2 ⟨A2, c2, S2, rfl, hr, hu⟩; have HR2 := Lib.hid hr; have HH2 := Lib.hid ((HH1.out.alloc _).fresh hu); have HA2 := Lib.hid (hu.fresh (HH1.out.alloc _).at_.lt); clear hr hu HF)
    | (go_at_call 12; refine (HO.out _ S HH2.out.at_ A2 c2 S2 HR2.out HA2.out).mono ?_; rintro e w3 ⟨rfl, S3, hh, hu⟩; have HH3 := Lib.hid (HH2.out.turn hh hu); clear hh hu HO)
    | (go_at_call 12; refine (HO2.out _ S3 HH3.out.at_).mono ?_; rintro e w4 ⟨rfl, S4, hh, hu⟩; have HH4 := Lib.hid (HH3.out.turn hh hu); clear hh hu HO2))
  go_ret
  exact ⟨rfl, HH4.out.end_⟩

theorem ways_len : ∀ l ∈ waysS, 1 ≤ l.length ∧ l.length ≤ 5 := by
  intro l hl
  simp only [waysS, List.mem_cons, List.not_mem_nil, or_false] at hl
  rcases hl with rfl | rfl | rfl | rfl | rfl | rfl | rfl | rfl <;> exact ⟨by simp, by simp⟩
theorem elemFrames : Tryd.prog.underlying 34 = some (.slice 29) := Tryd.underlying34

set_option maxRecDepth 100000 in
set_option maxHeartbeats 1000000 in
theorem fi_rest (w W : World) (b : Nat) (S : Own) (h : Hold w W b fB S) (k : Nat) (hk : k < 8) (v : Value) (hv : AllV S waysS W v) (u1 u2 u4 u5 u6 u8 u9 u10 u11 u12 u13 u14 u15 u16 u17 u18 u19 u20 u21 u22 u23 u24 u25 u26 u27 u28 u29 u30 u31 u32 u33 u34 u35 u36 u37 u38 u39 u40 u41 u42 u43 u44 u45 u46 u47 u48 u49 u50 u51 u52 u53 u54 u55 u56 u57 u58 u59 u60 u61 u62 u63 u64 u65 u66 u67 u68 u69 u70 u71 u72 u73 u74 u75 u76 u77 u78 u79 u80 u81 u82 u83 u84 u85 u86 u87 u88 u89 u90 u91 u92 u93 u94 u95 u96 u97 u98 u99 u100 u101 u102 u103 u104 u105 u106 u107 u108 u109 u110 u111 u112 u113 u114 u115 u116 u117 u118 : Value) :
    tailW Tryd.prog 10 fiBody (FiP w) ⟨#[.int .i64 k, u1, u2, .pointer (some ⟨b, 0, none⟩), u4, u5, u6, v, u8, u9, u10, u11, u12, u13, u14, u15, u16, u17, u18, u19, u20, u21, u22, u23, u24, u25, u26, u27, u28, u29, u30, u31, u32, u33, u34, u35, u36, u37, u38, u39, u40, u41, u42, u43, u44, u45, u46, u47, u48, u49, u50, u51, u52, u53, u54, u55, u56, u57, u58, u59, u60, u61, u62, u63, u64, u65, u66, u67, u68, u69, u70, u71, u72, u73, u74, u75, u76, u77, u78, u79, u80, u81, u82, u83, u84, u85, u86, u87, u88, u89, u90, u91, u92, u93, u94, u95, u96, u97, u98, u99, u100, u101, u102, u103, u104, u105, u106, u107, u108, u109, u110, u111, u112, u113, u114, u115, u116, u117, u118], []⟩ W := by
  obtain ⟨g, vs, rfl, hbv, hlen, hvs⟩ := hv
  have hl8 : vs.length = 8 := hlen
  obtain ⟨l, hl⟩ : ∃ l, waysS[k]? = some l := ⟨waysS[k], List.getElem?_eq_getElem hk⟩
  have hmem := List.mem_of_getElem? hl
  obtain ⟨u, hu, L, lb, hL, rfl, hLb, hSb, hx⟩ := hvs k l hl
  obtain ⟨s1, s2, w1, w2, w3, w4, w5, w6⟩ := ways_wrong l hmem
  have hfit := ways_fit l hmem
  obtain ⟨hn1, hn5⟩ := ways_len l hmem
  have hLl : L.length = l.length := by rw [← hL, List.length_map]
  obtain ⟨m, hm⟩ : ∃ m, L.length = m + 1 := ⟨L.length - 1, by omega⟩
  obtain ⟨⟨f, A, c⟩, hfx⟩ : ∃ x, L[m]? = some x := ⟨L[m], List.getElem?_eq_getElem (by omega)⟩
  have hlast : l.getLast? = some f := by
    rw [List.getLast?_eq_getElem?, ← hLl, hm, ← hL]
    simp [hfx]
  have hs2 := w4 f hlast
  have hfl : f ∈ l := List.mem_of_getLast? hlast
  have hdl : l.dropLast = (L.take m).map (·.1) := by
    rw [List.dropLast_eq_take, ← hLl, hm, ← hL, List.map_take]
    rfl
  have hB0 : (allB l.dropLast).length ≤ 83886125 := by
    have h1 := allB_len l.dropLast fun f hf => hfit f (List.dropLast_subset l hf)
    have h2 : l.dropLast.length ≤ 5 := by rw [List.length_dropLast]; omega
    omega
  have hok1 : WOk (200 + (allB l.dropLast).length) s1 := by
    have h1 := outS_ok fB_ok (allB l.dropLast) (by omega)
    rw [w1] at h1
    exact h1
  have hdead1 : s1.dead = true → s1.bad = true := by rw [← w1]; exact outS_dead (fun h => by cases h) _
  obtain ⟨hxr, hxo⟩ := hx _ (List.mem_of_getElem? hfx)
  obtain ⟨q0, q1, q2, q3⟩ := frCells_at L m (by omega)
  have hLm : L[m]'(by omega) = (f, A, c) := (List.getElem?_eq_some_iff.1 hfx).2
  rw [hLm] at q0 q1 q2 q3
  have e0 : W.cell? ⟨g, k, none⟩ = some (.slice (some ⟨lb, 0, none⟩) L.length L.length) := by rw [hbv.cell]; exact hu
  have hLlen : L.length ≤ 100 := by omega
  have HLAST := Lib.hid (show ∀ (W' : World) (S' S0 : Own) (hu : Upd S S0 W W') (h' : Hold w W' b s1 S') (u0 u1 u2 u4 u5 u6 u7 u9 u10 u11 u12 u13 u14 u15 u16 u17 u18 u19 u20 u21 u22 u23 u24 u25 u26 u27 u28 u29 u30 u31 u32 u33 u34 u35 u36 u37 u38 u39 u40 u41 u42 u43 u44 u45 u46 u47 u48 u49 u50 u51 u52 u53 u54 u55 u56 u57 u58 u59 u60 u61 u62 u63 u64 u65 u66 u67 u68 u69 u70 u71 u72 u73 u74 u75 u76 u77 u78 u79 u80 u81 u82 u83 u84 u85 u86 u87 u88 u89 u90 u91 u92 u93 u94 u95 u96 u97 u98 u99 u100 u101 u102 u103 u104 u105 u106 u107 u108 u109 u110 u111 u112 u113 u114 u115 u116 u117 u118 : Value), tailW Tryd.prog 12 fiBody (FiP w) ⟨#[u0, u1, u2, .pointer (some ⟨b, 0, none⟩), u4, u5, u6, u7, .slice (some ⟨lb, 0, none⟩) L.length L.length, u9, u10, u11, u12, u13, u14, u15, u16, u17, u18, u19, u20, u21, u22, u23, u24, u25, u26, u27, u28, u29, u30, u31, u32, u33, u34, u35, u36, u37, u38, u39, u40, u41, u42, u43, u44, u45, u46, u47, u48, u49, u50, u51, u52, u53, u54, u55, u56, u57, u58, u59, u60, u61, u62, u63, u64, u65, u66, u67, u68, u69, u70, u71, u72, u73, u74, u75, u76, u77, u78, u79, u80, u81, u82, u83, u84, u85, u86, u87, u88, u89, u90, u91, u92, u93, u94, u95, u96, u97, u98, u99, u100, u101, u102, u103, u104, u105, u106, u107, u108, u109, u110, u111, u112, u113, u114, u115, u116, u117, u118], []⟩ W' from by
    intro W' S' S0 hu h'
    have hcell : ∀ q, W'.cell? ⟨lb, q, none⟩ = (frCells L)[q]? := fun q => by rw [hu.cell (a := ⟨lb, q, none⟩) hLb.lt hSb, hLb.cell]
    exact fi_last w W' b s1 s2 S' h' _ hok1 (by omega) hdead1 f (hfit f hfl) A c hs2 w5 w6 lb L.length m (by omega) hLlen (Nat.lt_of_lt_of_le hLb.lt hu.size) ((hcell _).trans q0) ((hcell _).trans q1) ((hcell _).trans q2) ((hcell _).trans q3)
      (hxr.upd hu hxo) fun k hk => Nat.lt_of_lt_of_le (hxo k hk).1 hu.size)
  have hi0 : (0 : Int) ≤ (k : Int) := by omega
  have hi1 : (k : Int) < (vs.length : Int) := by omega
  cases m with
  | zero =>
    have t1 : decide ((1 : Int) < (L.length : Int)) = false := decide_eq_false (by omega)
    have h1 : s1 = fB := by
      rw [← w1, hdl, List.take_zero]
      exact outS_nil rfl
    have h' : Hold w W b s1 S := by rw [h1]; exact h
    have HH := Lib.hid h'
    clear hLl hm hn1 hn5 hL hLlen h h' h1 w1 w2 w3 w4 w5 w6 hs2 hfit hok1 hdead1 q0 q1 q2 q3 hxr hxo hx hvs hl hmem hLm hfx hlast hfl hdl hB0 hbv hu hLb hSb hlen
    generalize L.length = n at *
    refine tail_step 10 fiBody ?_
    show Code.wp _ _ _ _ _
    go_wp2
    refine tail_step 11 fiBody ?_
    show Code.wp _ _ _ _ _
    go_wp2
    show tailW _ _ _ _ _ _
    exact HLAST.out _ S none_ (Upd.refl _ _ |>.wider fun _ h => h.elim) HH.out _ _ _ _ _ _ _ _ _ _ _ _ _ _ _ _ _ _ _ _ _ _ _ _ _ _ _ _ _ _ _ _ _ _ _ _ _ _ _ _ _ _ _ _ _ _ _ _ _ _ _ _ _ _ _ _ _ _ _ _ _ _ _ _ _ _ _ _ _ _ _ _ _ _ _ _ _ _ _ _ _ _ _ _ _ _ _ _ _ _ _ _ _ _ _ _ _ _ _ _ _ _ _ _ _ _ _ _ _ _ _ _ _ _ _ _ _
  | succ m' =>
    have t1 : decide ((1 : Int) < (L.length : Int)) = true := decide_eq_true (by omega)
    have HH := Lib.hid h
    have hN : (L.length : Int) - 1 = ((m' + 1 : Nat) : Int) := by omega
    have HFR := Lib.hid (show ∀ q : Nat, q = m' + 1 → Calls Tryd.prog 10 #[.slice (some ⟨lb, 0, none⟩) q L.length] W (OwnQ (allB l.dropLast) W) from by
      rintro q rfl
      have h1 := (rd_frames hLb hLlen).take (k := m' + 1) (by omega)
      have hlt : (L.take (m' + 1)).length = m' + 1 := by rw [List.length_take]; omega
      rw [← frCells_take] at h1
      have h2 := frames_law (L.take (m' + 1)) (some ⟨lb, 0, none⟩) L.length W (by rw [hlt]; exact h1) (fun x hxm => by
        have hxL := List.mem_of_mem_take hxm
        refine ⟨hfit _ (by rw [← hL]; exact List.mem_map_of_mem hxL), (hx x hxL).1, fun k hk => ((hx x hxL).2 k hk).1⟩) (by rw [← hdl]; omega)
      rw [hlt, ← hdl] at h2
      exact h2)
    have HO := Lib.hid (fun (W : World) (S : Own) (h : HAt W b fB S) (A : Option Addr) (c : Nat) (S1 : Own) (hr : Row 5 1 A (allB l.dropLast).length c (bys (allB l.dropLast)) S1 W) (ha : Apart S1 S) => out_row h fB_ok (fun h => by cases h) hr ha (by omega) s1 w1 0 (by rw [w2]; rfl))
    have hsl : ∀ W, (Instr.slice 34 (.slice (some ⟨lb, 0, none⟩) L.length L.length) none (some (.int .i64 ((m' + 1 : Nat) : Int))) none).run Tryd.prog W = .ok (.slice (some ⟨lb, 0, none⟩) (m' + 1) L.length) W := fun W => by
      rw [run_slice_h W _ _ _ _ elemFrames .i64 _ (by omega) (by omega)]
      have hs : (sizeOf (Tryd.prog.elem 34)).run Tryd.prog W = .ok 4 W := by kernel_rfl
      rw [hs]
      simp [Result.andThen, sliced, Addr.add]
    unfold OwnQ at HFR
    unfold OutR at HO
    have hL100 : L.length ≤ 100 := hLlen
    have hmm : m' + 1 ≤ L.length := by omega
    clear hLl hm hn1 hn5 hL hLlen h w1 w2 w3 w4 w5 w6 hs2 hfit hok1 hdead1 q0 q1 q2 q3 hxr hxo hx hvs hl hmem hLm hfx hlast hfl hdl hB0 hbv hu hLb hSb hlen
    generalize allB l.dropLast = l1 at *
    have hm100 : m' + 1 ≤ 100 := by omega
    generalize L.length = n at *
    generalize m' + 1 = m at *
    refine tail_step 10 fiBody ?_
    show Code.wp _ _ _ _ _
    go_wp2
    refine tail_step 11 fiBody ?_
    show Code.wp _ _ _ _ _
    go_wp2_with (first
      | (go_at_call 10; refine (HFR.out _ (by omega)).mono ?_; rintro e w2 ⟨A2, c2, S2, rfl, hr, hu⟩; have HR2 := Lib.hid hr; have HH2 := Lib.hid (HH.out.fresh hu); have HA2 := Lib.hid (hu.fresh HH.out.at_.lt); have HU2 := Lib.hid hu; clear hr hu HFR)
      | (go_at_call 12; refine (HO.out _ S HH2.out.at_ A2 c2 S2 HR2.out HA2.out).mono ?_; rintro e w3 ⟨rfl, S3, hh, hu⟩; have HH3 := Lib.hid (HH2.out.turn hh hu); have HU3 := Lib.hid (((HU2.out.wider (R := S) (fun _ h => h.elim)).holds fun k hk => .inl hk).trans hu); clear hh hu HO))
    show tailW _ _ _ _ _ _
    exact HLAST.out _ S3 _ HU3.out HH3.out _ _ _ _ _ _ _ _ _ _ _ _ _ _ _ _ _ _ _ _ _ _ _ _ _ _ _ _ _ _ _ _ _ _ _ _ _ _ _ _ _ _ _ _ _ _ _ _ _ _ _ _ _ _ _ _ _ _ _ _ _ _ _ _ _ _ _ _ _ _ _ _ _ _ _ _ _ _ _ _ _ _ _ _ _ _ _ _ _ _ _ _ _ _ _ _ _ _ _ _ _ _ _ _ _ _ _ _ _ _ _ _ _ _ _ _ _
end Go.Proofs.YthmfifcogokpoaaDoor
