/- What is proved here: WatchPieces answers true for every list of calls and number; its row and its tied card. Conditions: none beside the row's own. -/
import Derived.Test.YthmfifcogokpoaaDoorM30
import Derived.Test.YthmfifcogokpoaaDoorM32
import Derived.Deep.SlicePairs
import Derived.Carry
set_option linter.unusedVariables false
set_option linter.unusedSimpArgs false
namespace Go.Proofs.YthmfifcogokpoaaDoor
open Go.ChangeShapes Go.WideShapes Go.ChangeAt Go.RowKit Go.Deep

theorem laidOut_ : laidOutB Tryd.prog = true := by kernel_rfl
theorem byte_of_wf {n : Int} (h : (Lit.int .u8 n).wf = true) : ((UInt8.ofNat n.toNat).toNat : Int) = n := by
  have h2 : 0 ≤ n ∧ n ≤ 255 := by simpa [Lit.wf, IntKind.min, IntKind.max, IntKind.signed, IntKind.bits] using h
  rw [UInt8.toNat_ofNat']
  omega

/-- A slice of bytes, read through its places. -/
theorem rd_of_bytes {H : Type} {enc : TypeId × Value → H} {W : World} {fuel : Nat} {v : Value} {x : DataW H × List MemPlace} (h : DataW.trod enc Tryd.prog W 0 (fun _ => true) true fuel 26 [v] = some x) :
    ∃ (A : Option Addr) (c : Nat) (b : List UInt8), v = .slice A b.length c ∧ Rd W 1 A b.length c (bys b) := by
  rcases open_ints Tryd.underlying26 Tryd.underlying5 (by kernel_rfl) h with ⟨hcs, _⟩ | ⟨a, len, cap, zs, hcs, _, hl, hm, hz, _, hc, hw⟩
  · simp only [List.cons.injEq, and_true] at hcs
    exact ⟨none, 0, [], hcs, Rd.none_ W 1⟩
  · simp only [List.cons.injEq, and_true] at hcs
    simp only [if_true] at hz
    have hb : ((zs.take len).map fun n => UInt8.ofNat n.toNat).length = len := by simp; omega
    have hbs : bys ((zs.take len).map fun n => UInt8.ofNat n.toNat) = (zs.take len).map fun n => Value.int .u8 n := by
      simp only [bys, List.map_map]
      refine List.map_congr_left fun n hn => ?_
      show Value.int .u8 ((UInt8.ofNat n.toNat).toNat : Int) = _
      rw [byte_of_wf (hw n (List.mem_of_mem_take hn))]
    refine ⟨some a, cap, _, by rw [hb]; exact hcs, ?_⟩
    rw [hb, hbs]
    refine ⟨hl, hm, by simp; omega, fun h => (by cases h), fun ad ha => ?_⟩
    cases ha
    refine ⟨fun hp => ?_, fun j u hu => ?_⟩
    · have h1 := World.cell?_spot (hc 0 (by omega))
      simpa [Addr.add] using h1
    · rw [List.getElem?_map, List.getElem?_take] at hu
      split at hu
      · rename_i hj
        have hjz : j < zs.length := by omega
        rw [hc j hjz]
        simp only [List.getElem?_eq_getElem hjz, Option.map_some, Option.some.injEq] at hu
        simp [List.getD, List.getElem?_eq_getElem hjz, hu]
      · cases hu

/-- The calls that are handed in. -/
theorem open_ops {H : Type} {enc : TypeId × Value → H} {W : World} {a : Option Addr} {len cap : Nat} {d : DataW H} {p : List MemPlace} (h : DataW.Trod enc Tryd.prog W 0 (fun _ => true) true 39 (.slice a len cap) d p) :
    ∃ l : List OpS, l.length = len ∧ Rd W 2 a l.length cap (opCells l) ∧ ∀ x ∈ l, Rd W 1 x.A x.b.length x.c (bys x.b) := by
  obtain ⟨fuel, hf⟩ := h
  simp only [Value.cells] at hf
  rcases open_slice_pairs Tryd.underlying39 Tryd.underlying42 (by kernel_rfl) rfl rfl (by kernel_rfl) (by kernel_rfl) hf with ⟨hcs, _⟩ | ⟨a', len', cap', m, n, V0, V1, D0, D1, P0, P1, hcs, _, hl, hm, hmm, _, hx⟩
  · simp at hcs
    obtain ⟨rfl, rfl, rfl⟩ := hcs
    exact ⟨[], rfl, Rd.none_ W 2, fun _ h => by cases h⟩
  · simp at hcs
    obtain ⟨rfl, rfl, rfl⟩ := hcs
    simp only [if_true] at hmm
    subst hmm
    have each : ∀ i, i < len → ∃ x : OpS, V0 i = .int .i64 x.kind ∧ V1 i = .slice x.A x.b.length x.c ∧ Rd W 1 x.A x.b.length x.c (bys x.b) := by
      intro i hi
      obtain ⟨_, _, t0, t1⟩ := hx i (by omega)
      obtain ⟨k, hk, _, _⟩ := DataW.trod_int Tryd.underlying3 t0
      obtain ⟨A, c, b, hv, hr⟩ := rd_of_bytes t1
      simp only [List.cons.injEq, and_true] at hk
      exact ⟨⟨k, A, c, b⟩, hk, hv, hr⟩
    haveI : Inhabited OpS := ⟨⟨0, none, 0, []⟩⟩
    obtain ⟨X, hX⟩ := choose_lt each
    have hlen : ((List.range len).map X).length = len := by simp
    refine ⟨(List.range len).map X, hlen, ⟨by omega, hm, by rw [opCells_length], fun h => (by cases h), fun ad ha => ?_⟩, fun x hx' => ?_⟩
    · cases ha
      refine ⟨fun hp => ?_, fun j u hu => ?_⟩
      · have h1 := World.cell?_spot (hx 0 (by omega)).1
        simpa [Addr.add] using h1
      · have hj : j < len * 2 := by
          have := (List.getElem?_eq_some_iff.1 hu).1
          rw [opCells_length, hlen] at this
          exact this
        have hi : j / 2 < len := by omega
        have hat := opCells_at ((List.range len).map X) (j / 2) (by rw [hlen]; exact hi)
        simp only [List.getElem_map, List.getElem_range] at hat
        obtain ⟨c0, c1, _, _⟩ := hx (j / 2) (by omega)
        rcases (show j = j / 2 * 2 ∨ j = j / 2 * 2 + 1 by omega) with e | e
        · rw [e, hat.1] at hu
          rw [e, c0, (hX _ hi).1]
          exact hu
        · rw [e, hat.2] at hu
          rw [e, c1, (hX _ hi).2.1]
          exact hu
    · obtain ⟨i, hi, rfl⟩ := List.mem_map.1 hx'
      exact (hX i (by simpa using hi)).2.2

set_option maxRecDepth 100000 in
theorem pieces_lifted (os : Os) (started : os.Started) (H : Type) (enc : TypeId × Value → H) :
    ReturnsInHanded {} Tryd.checked os 5 .any (fun w args => (Rows.watchPiecesSpec.pre enc Tryd.prog Tryd.f5 [] false w args ∧ laidMetH Tryd.prog laidL w) ∧ sizedMet enc Tryd.prog Tryd.f5 (OpenSpec.ofChange Rows.watchPiecesSpec) false w args)
      (Rows.watchPiecesSpec.post enc Tryd.prog Tryd.f5 false true false false) := by
  refine handed_and_shaped (C := Tryd.checked) (X := fun w _ => laidMetH Tryd.prog laidL w) (fun _ _ _ hh h => h.of_heap hh) own_ started (by kernel_rfl) Tryd.func5
    (ChangeSpec.witness_shaped (enc := enc) (C := Tryd.checked) (os := os) (X := fun w _ => laidMetH Tryd.prog laidL w) false (World.laidAll Tryd.prog os laidL) #[.slice none 0 0, .int .i64 0] 8 (World.laidAll_os _ _ _)
      (World.shaped_of_ZipB (by kernel_rfl) (by kernel_rfl)) (by kernel_rfl) (by kernel_rfl) (by kernel_rfl) (laid_met os _)) ?_
  intro W base args ds gs before hval0 hW hsh
  have hval : ∀ (j : Nat) t v, Tryd.f5.params[j]? = some t → args[j]? = some v → Value.okWide Tryd.prog W .any base t v := hval0
  have hW' := hW
  obtain ⟨p, q, hA0, hV, rfl, _, _⟩ := hW
  have hA : DataW.TrodAll enc Tryd.prog W 0 (fun _ => true) true Tryd.f5.params.toList args.toList ds p := hA0
  rw [Tryd.params5] at hA hval
  obtain ⟨v0, vs0, d0, ds0, p0, q0, hargs, rfl, rfl, h0, r0⟩ := trodAll_cons hA
  obtain ⟨v1, vs1, d1, ds1, p1, q1, rfl, rfl, rfl, h1, r1⟩ := trodAll_cons r0
  obtain ⟨rfl, rfl, rfl⟩ := trodAll_nil r1
  obtain rfl : args = #[v0, v1] := by cases args; simp_all
  obtain ⟨rfl, rfl⟩ := trodVars_none hV
  obtain ⟨a0, len, cap, rfl⟩ := okWide_slice Tryd.underlying39 (hval 0 39 v0 rfl rfl)
  obtain ⟨a1, rfl, rfl, rfl, w1⟩ := open_int Tryd.underlying3 (hval 1 3 v1 rfl rfl) h1
  clear hA0 hval0
  simp only [List.append_nil] at hW'
  have hlt : ∀ x ∈ p0, x.block < W.heap.size := fun x hx => by simpa using hW'.lt x hx
  obtain ⟨l, rfl, hr, hx⟩ := open_ops h0
  refine (pieces_any l a1 a0 cap W (glob_of_shape hsh) hr hx).mono fun e W' ⟨he, hb⟩ => ?_
  subst he
  have hargs2 := Below.trod laidOut_ (by kernel_rfl) (of_decide_eq_true (by kernel_rfl)) h0 hb hlt
  exact ⟨_, rfl, _, _, _, [], _, [], hW', trodAll_mk1 (shut_bool Tryd.underlying4 _), trodAll_cons_mk hargs2 (trodAll_cons_mk (shut_int Tryd.underlying3 w1) trodAll_mk0), rfl, hb.frame _, fun h => by cases h⟩

theorem pieces_row : Rows.WatchPiecesSaid :=
  OpenClaim.holds_of_wide 5 Tryd.f5 rfl rfl rfl rfl rfl rfl rfl ⟨rfl, rfl, rfl, rfl, rfl⟩ rfl rfl rfl rfl rfl (by kernel_rfl) Tryd.func5 (by kernel_rfl)
    (of_decide_eq_true (by kernel_rfl)) (by unfold Func.isWrapper; first | (rw [if_pos (by decide +kernel)]; kernel_rfl) | (rw [if_neg (by decide +kernel)]; exact ⟨rfl, rfl⟩))
    (fun os started H enc _ => pieces_lifted os started H enc)
theorem pieces_card : Rows.WatchPiecesCardSaid :=
  Claim7.holds_tied_plain_at .later [] [.data, .pinned] true (true, "cbb94c828999c0a157a0782c620773cf40fc9aa7d169be3d48cedb9b398dbc2a") false pieces_row (fun _ h => by cases h) (by kernel_rfl) (fun _ h => by cases h) watchPieces_row_tie rfl ⟨rfl, rfl⟩ (by kernel_rfl) rfl
    (fun f fn hf hfn => by
      obtain rfl : f = 5 := Option.some.inj ((show Tryd.prog.funcNamed "wayleave/wlvlaw27.WatchPieces" = some 5 by kernel_rfl).symm.trans hf) |>.symm
      obtain rfl : fn = Tryd.f5 := (Option.some.inj (Tryd.func5.symm.trans hfn)).symm
      exact ⟨by kernel_rfl, fun j t ht => by
        rw [Tryd.params5] at ht
        have hm : t ∈ [39, 3] := by simpa using Array.mem_of_getElem? ht
        have hall : ([39, 3].all fun u => !Tryd.prog.wantsStandIn u) = true := by kernel_rfl
        exact (show Tryd.prog.wantsStandIn t = false by simpa using List.all_eq_true.1 hall t hm)⟩)
    (by kernel_rfl)
#print axioms pieces_card
end Go.Proofs.YthmfifcogokpoaaDoor
