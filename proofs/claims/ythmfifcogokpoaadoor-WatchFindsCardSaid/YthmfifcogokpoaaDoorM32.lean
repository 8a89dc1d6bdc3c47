/- What is proved here: contracts of the program's functions and plain lemmas that the claim's last text uses, in parts: WatchFinds' plain law: behind a right beginning, eight ways to go wrong; frames as values, slices of frames, slices of those: what a drawn region leaves. -/
import Derived.Test.YthmfifcogokpoaaDoorM31
import Derived.Test.YthmfifcogokpoaaDoorM29
set_option linter.unusedVariables false
set_option linter.unusedSimpArgs false
namespace Go.Proofs.YthmfifcogokpoaaDoor
open Go.RowKit

/-- One stream was asked for. -/
def fS (x : StrS) (win : Int) (g d : Bool) (f : Nat) : WatchS := { headS with highest := 1, m := [(1, x)], window := win, gone := g, dead := d, frames := f }
def fX : StrS := ⟨65535, false, false, false, []⟩
def fA : WatchS := { fS fX 65535 false false 0 with waits := [[]] }
def inB0 : List UInt8 := putB setF ++ putB (askF 1)
theorem in_begin : inS newS (pref ++ inB0) = fA := by
  unfold inB0
  rw [inS_pref, inS_put rfl rfl rfl rfl setF set_fits (by decide), hears_set]
  have h := inS_put (s := { headS with waits := headS.waits ++ [[]] }) rfl rfl rfl rfl (askF 1) (ask_fits 1 (by decide)) (by decide) []
  rw [List.append_nil, hears_ask _ 1 rfl (by decide), inS_nil rfl rfl] at h
  exact h
theorem fA_ok : WOk 100 fA := (in_begin ▸ inS_ok newS_ok (pref ++ inB0)).more (by decide)
def outB0 : List UInt8 := putB setF ++ putB ackF
def fB : WatchS := fS fX 65535 false false 2
theorem out_begin : outS fA outB0 = fB := by
  unfold outB0
  rw [outS_put rfl rfl rfl setF set_fits (by decide), right_set rfl]
  have h1 : judged (true, fA) = { fA with frames := 1 } := rfl
  have h := outS_put (s := { fA with frames := 1 }) rfl rfl rfl ackF ack_fits (by decide) []
  rw [List.append_nil, right_ack rfl (by decide) rfl rfl (by simp [fA, fS, fX, W])] at h
  rw [h1, h]
  exact outS_nil rfl
theorem fB_ok : WOk 200 fB := (out_begin ▸ outS_ok fA_ok outB0 (by decide)).more (by decide)

/-! ### What single frames do here -/
theorem right_headF (x : StrS) (win : Int) (f : Nat) (hf : f ≠ 0) (he : x.ended = false) (hr : x.reset = false) : rightS (fS x win false false f) (headF 1) = (true, fS { x with begun := true, ended := false } win false false f) :=
  right_head (s := fS x win false false f) 1 0 x (by decide) hf rfl (by simp [liveS, idxS, fS, he, hr]) rfl (by simp [fS, headS, newS, firstS]) (by simp [fS, headS, newS, firstS])
theorem right_gone (x : StrS) (win : Int) (f : Nat) (fr : FrameS) : rightS (fS x win true false f) fr = (false, fS x win true false f) := by
  unfold rightS
  rw [if_pos (.inr (.inr rfl))]
def bodyF (fl : Nat) (l : List UInt8) : FrameS := ⟨0, fl, 1, l⟩
theorem body_fits (fl : Nat) (l : List UInt8) (h : fl ≤ 1) (hn : l.length ≤ 16384) : (bodyF fl l).Fits := ⟨by simp [bodyF], by simp [bodyF]; omega, by simp [bodyF], by simp [bodyF]; omega⟩
theorem read_body (fl : Nat) (l : List UInt8) (h : fl ≤ 1) : readS (bodyF fl l) = ({ noPart with data := l, fin := decide (fl = 1) }, noFault) := by
  have h2 : fl = 0 ∨ fl = 1 := by omega
  rcases h2 with rfl | rfl <;> simp [readS, bodyF, bodiedS, bodPrio, bodRest, bodPart, noPart]
theorem right_body (win : Int) (d l : List UInt8) (f fl : Nat) (hfl : fl ≤ 1) (hf : f ≠ 0) (h0 : l.length ≠ 0) (hn : l.length ≤ 16384) (hw : l.length ≤ win) (hw2 : win ≤ 2147483647) :
    rightS (fS ⟨win, true, false, false, d⟩ win false false f) (bodyF fl l) = (true, fS ⟨win - l.length, true, decide (fl = 1), false, d ++ l⟩ (win - l.length) false false f) := by
  have hc : cutW win = win := cutW_id _ ⟨by omega, hw2⟩
  have hl : liveS (fS ⟨win, true, false, false, d⟩ win false false f) 1 = some 0 := rfl
  have hstr : strOf (fS ⟨win, true, false, false, d⟩ win false false f) 0 = ⟨win, true, false, false, d⟩ := rfl
  unfold rightS
  rw [read_body fl l hfl]
  rw [if_neg (by simp [fS, headS, newS, noFault, hf]), if_neg (by simp [bodyF]), if_neg (by simp [bodyF]), if_pos (by rfl)]
  unfold sendsS
  rw [show (bodyF fl l).stream = 1 from rfl, hl]
  simp only [hstr, show (bodyF fl l).body = l from rfl]
  rw [if_neg (by simp [fS, headS, newS, firstS]; omega)]
  have hwin : (fS ⟨win, true, false, false, d⟩ win false false f).window = win := rfl
  rw [hwin, hc, if_neg h0]
  have hsp : spendS win win l.length = (win - l.length, win - l.length, 0) := by
    unfold spendS
    rw [if_neg (by omega)]
  rw [hsp]
  rw [if_neg (by simp)]
  unfold sentTo
  rw [hstr]
  rfl
theorem right_over (win : Int) (d l : List UInt8) (f fl : Nat) (hfl : fl ≤ 1) (hf : f ≠ 0) (h0 : l.length ≠ 0) (hn : l.length ≤ 16384) (hw : win < l.length) (hw1 : 0 ≤ win) :
    rightS (fS ⟨win, true, false, false, d⟩ win false false f) (bodyF fl l) = (false, fS ⟨win, true, false, false, d⟩ win false false f) := by
  have hc : cutW win = win := cutW_id _ ⟨by omega, by omega⟩
  have hl : liveS (fS ⟨win, true, false, false, d⟩ win false false f) 1 = some 0 := rfl
  have hstr : strOf (fS ⟨win, true, false, false, d⟩ win false false f) 0 = ⟨win, true, false, false, d⟩ := rfl
  unfold rightS
  rw [read_body fl l hfl]
  rw [if_neg (by simp [fS, headS, newS, noFault, hf]), if_neg (by simp [bodyF]), if_neg (by simp [bodyF]), if_pos (by rfl)]
  unfold sendsS
  rw [show (bodyF fl l).stream = 1 from rfl, hl]
  simp only [hstr, show (bodyF fl l).body = l from rfl]
  rw [if_neg (by simp [fS, headS, newS, firstS]; omega)]
  have hwin : (fS ⟨win, true, false, false, d⟩ win false false f).window = win := rfl
  rw [hwin, hc, if_neg h0]
  have hsp : spendS win win l.length = (0, 0, 1) := by
    unfold spendS
    rw [if_pos (by omega)]
  rw [hsp]
  rw [if_pos (by simp)]
theorem right_early (x : StrS) (win : Int) (f fl : Nat) (l : List UInt8) (hfl : fl ≤ 1) (hf : f ≠ 0) (hx : x.begun = false ∨ x.ended = true) :
    rightS (fS x win false false f) (bodyF fl l) = (false, fS x win false false f) := by
  unfold rightS
  rw [read_body fl l hfl]
  rw [if_neg (by simp [fS, headS, newS, noFault, hf]), if_neg (by simp [bodyF]), if_neg (by simp [bodyF]), if_pos (by rfl)]
  unfold sendsS
  rw [show (bodyF fl l).stream = 1 from rfl]
  have hl : liveS (fS x win false false f) 1 = if (x.ended || x.reset) = false then some 0 else none := by
    simp [liveS, idxS, fS]
  rw [hl]
  by_cases he : (x.ended || x.reset) = false
  · rw [if_pos he]
    simp only [show strOf (fS x win false false f) 0 = x from rfl]
    rw [if_pos (.inl (by rcases hx with h | h; exact h; rw [h] at he; simp at he))]
  · rw [if_neg he]
def goF : FrameS := ⟨7, 0, 0, numB 1 4 ++ numB 1 4⟩
theorem go_fits : goF.Fits := ⟨by decide, by decide, by decide, by decide⟩
theorem read_go : readS goF = ({ noPart with last := 1, code := 1 }, noFault) := by decide
theorem right_go (x : StrS) (win : Int) (f : Nat) (hf : f ≠ 0) : rightS (fS x win false false f) goF = (true, fS x win true false f) := by
  unfold rightS
  rw [read_go]
  rw [if_neg (by simp [fS, headS, newS, noFault, hf]), if_neg (by decide), if_neg (by decide), if_neg (by decide), if_neg (by decide), if_neg (by decide), if_pos (by rfl)]
  rfl
def blockF : FrameS := ⟨1, 4, 1, [128]⟩
theorem block_fits : blockF.Fits := ⟨by decide, by decide, by decide, by decide⟩
theorem read_block : readS blockF = (⟨[128], 0, 0, 0, 0, [], false, false, true⟩, noFault) := by decide
theorem right_block (x : StrS) (win : Int) (f : Nat) (hf : f ≠ 0) (he : x.ended = false) (hr : x.reset = false) : rightS (fS x win false false f) blockF = (false, fS x win false true f) := by
  have hl : liveS (fS x win false false f) blockF.stream = some 0 := by simp [liveS, idxS, fS, blockF, he, hr]
  have key := answersS_none (s := fS x win false false f) (f := blockF) (p := ⟨[128], 0, 0, 0, 0, [], false, false, true⟩) hl (by simp [fS, headS, newS, firstS, blockF]) (block80 _ _)
  unfold rightS
  rw [read_block]
  rw [if_neg (by simp [fS, headS, newS, noFault, hf]), if_neg (by decide), if_pos (by rfl)]
  simp only [if_true]
  rw [key]
  rfl
theorem right_rstF (x : StrS) (win : Int) (f : Nat) (hf : f ≠ 0) (hr : x.reset = false) : rightS (fS x win false false f) (rstF 1 8) = (true, fS { x with reset := true } win false false f) := by
  have hi : idxS (fS x win false false f) (rstF 1 8).stream = some 0 := rfl
  unfold rightS
  rw [read_rst 1 8 (by omega)]
  rw [if_neg (by simp [fS, headS, newS, noFault, hf, rstF]), if_neg (by simp [rstF]), if_neg (by simp [rstF]), if_neg (by simp [rstF]), if_pos (by rfl), hi]
  simp only [show strOf (fS x win false false f) 0 = x from rfl]
  rw [if_neg (by rw [hr]; simp)]
  rfl
theorem right_updF (x : StrS) (win : Int) (f : Nat) (hf : f ≠ 0) (hr : x.reset = true) : rightS (fS x win false false f) (updF 1 5) = (false, fS x win false false f) := by
  have hi : idxS (fS x win false false f) (updF 1 5).stream = some 0 := rfl
  unfold rightS
  rw [read_upd 1 5 (by omega) (by omega)]
  rw [if_neg (by simp [fS, headS, newS, noFault, hf, updF]), if_neg (by simp [updF]), if_neg (by simp [updF]), if_neg (by simp [updF]), if_neg (by simp [updF]), if_pos (by rfl), if_neg (by simp [updF]), hi]
  simp only [show strOf (fS x win false false f) 0 = x from rfl, hr]
  rfl
theorem judged_fS (x : StrS) (win : Int) (g d : Bool) (f : Nat) : judged (true, fS x win g d f) = fS x win g d (f + 1) := rfl

/-! ### The eight ways -/
def bigF : FrameS := bodyF 0 (zeros 16384)
def endF : FrameS := bodyF 1 [1]
def waysS : List (List FrameS) := [[headF 3], [endF], [headF 1, bigF, bigF, bigF, bigF], [headF 1, endF, endF], [goF, headF 1], [ackF], [blockF], [rstF 1 8, updF 1 5]]
theorem big_fits : bigF.Fits := body_fits 0 _ (by decide) (by rw [zeros_length]; omega)
theorem end_fits : endF.Fits := body_fits 1 _ (by decide) (by decide)
theorem ways_fit : ∀ l ∈ waysS, ∀ f ∈ l, f.Fits := by
  intro l hl f hf
  simp only [waysS, List.mem_cons, List.not_mem_nil, or_false] at hl
  rcases hl with rfl | rfl | rfl | rfl | rfl | rfl | rfl | rfl <;> simp only [List.mem_cons, List.not_mem_nil, or_false] at hf
  · subst hf; exact head_fits 3 (by decide)
  · subst hf; exact end_fits
  · rcases hf with rfl | rfl | rfl | rfl | rfl
    · exact head_fits 1 (by decide)
    all_goals exact big_fits
  · rcases hf with rfl | rfl | rfl
    · exact head_fits 1 (by decide)
    all_goals exact end_fits
  · rcases hf with rfl | rfl
    · exact go_fits
    · exact head_fits 1 (by decide)
  · subst hf; exact ack_fits
  · subst hf; exact block_fits
  · rcases hf with rfl | rfl
    · exact rst_fits 1 8 (by decide)
    · exact upd_fits 1 5 (by decide)
/-- Before the last frame nothing is wrong; the last one is. -/
def Wrong (l : List FrameS) : Prop := ∃ s1 s2, outS fB (allB l.dropLast) = s1 ∧ s1.bad = false ∧ s1.outB = [] ∧ (∀ f, l.getLast? = some f → outS s1 (putB f) = s2) ∧ s2.bad = true ∧ s2.outB = []
theorem wrong_of {x : StrS} {win : Int} {g : Bool} {f : Nat} {fr : FrameS} {s2 : WatchS} {l : List FrameS} (hl : l.getLast? = some fr) (h1 : outS fB (allB l.dropLast) = fS x win g false f) (hf : fr.Fits) (hb : fr.body.length ≤ 16384) (h2 : rightS (fS x win g false f) fr = (false, s2)) (h3 : s2.outB = []) : Wrong l := by
  refine ⟨_, { s2 with bad := true }, h1, rfl, rfl, fun f' hf' => ?_, rfl, h3⟩
  obtain rfl : fr = f' := Option.some.inj (hl.symm.trans hf')
  have h := outS_put (s := fS x win g false f) rfl rfl rfl fr hf hb []
  rw [List.append_nil, h2] at h
  rw [h]
  exact outS_nil h3
theorem allB_nil : allB [] = [] := rfl
theorem big_len : (zeros 16384).length = 16384 := zeros_length _
theorem out_big (win : Int) (d : List UInt8) (f : Nat) (hf : f ≠ 0) (hw : 16384 ≤ win) (hw2 : win ≤ 65535) (r : List UInt8) : outS (fS ⟨win, true, false, false, d⟩ win false false f) (putB bigF ++ r) = outS (fS ⟨win - 16384, true, false, false, d ++ zeros 16384⟩ (win - 16384) false false (f + 1)) r := by
  have h := right_body win d (zeros 16384) f 0 (by decide) hf (by rw [big_len]; decide) (by rw [big_len]; omega) (by rw [big_len]; omega) (by omega)
  rw [big_len] at h
  rw [outS_put rfl rfl rfl bigF big_fits (by show (zeros 16384).length ≤ 16384; rw [big_len]; omega)]
  show outS (judged (rightS _ (bodyF 0 (zeros 16384)))) r = _
  rw [h]
  rfl
theorem out_head (x : StrS) (win : Int) (f : Nat) (hf : f ≠ 0) (he : x.ended = false) (hr : x.reset = false) (r : List UInt8) : outS (fS x win false false f) (putB (headF 1) ++ r) = outS (fS { x with begun := true, ended := false } win false false (f + 1)) r := by
  rw [outS_put rfl rfl rfl (headF 1) (head_fits 1 (by decide)) (by decide), right_headF x win f hf he hr, judged_fS]
theorem ways_wrong : ∀ l ∈ waysS, Wrong l := by
  intro l hl
  simp only [waysS, List.mem_cons, List.not_mem_nil, or_false] at hl
  rcases hl with rfl | rfl | rfl | rfl | rfl | rfl | rfl | rfl
  · exact wrong_of (x := fX) (win := 65535) (g := false) (f := 2) rfl (outS_nil rfl) (head_fits 3 (by decide)) (by decide) (right_unknown (s := fS fX 65535 false false 2) 3 (by decide) (by decide) rfl rfl) rfl
  · exact wrong_of (x := fX) (win := 65535) (g := false) (f := 2) rfl (outS_nil rfl) end_fits (by decide) (right_early fX 65535 2 1 [1] (by decide) (by decide) (.inl rfl)) rfl
  · refine wrong_of (x := ⟨16383, true, false, false, [] ++ zeros 16384 ++ zeros 16384 ++ zeros 16384⟩) (win := 16383) (g := false) (f := 6) (fr := bigF) rfl ?_ big_fits (by show (zeros 16384).length ≤ 16384; rw [big_len]; omega) (right_over 16383 _ (zeros 16384) 6 0 (by decide) (by decide) (by rw [big_len]; decide) (by rw [big_len]; omega) (by rw [big_len]; decide) (by decide)) rfl
    show outS fB (allB [headF 1, bigF, bigF, bigF]) = _
    rw [allB_cons, allB_cons, allB_cons, allB_cons, allB_nil]
    show outS (fS fX 65535 false false 2) _ = _
    rw [out_head fX 65535 2 (by decide) rfl rfl]
    show outS (fS ⟨65535, true, false, false, []⟩ 65535 false false 3) _ = _
    rw [out_big 65535 [] 3 (by decide) (by decide) (by decide), out_big _ _ 4 (by decide) (by decide) (by decide), out_big _ _ 5 (by decide) (by decide) (by decide), outS_nil rfl]
    rfl
  · refine wrong_of (x := ⟨65534, true, true, false, [1]⟩) (win := 65534) (g := false) (f := 4) (fr := endF) rfl ?_ end_fits (by decide) (right_early _ _ 4 1 [1] (by decide) (by decide) (.inr rfl)) rfl
    show outS fB (allB [headF 1, endF]) = _
    rw [allB_cons, allB_cons, allB_nil]
    show outS (fS fX 65535 false false 2) _ = _
    rw [out_head fX 65535 2 (by decide) rfl rfl]
    show outS (fS ⟨65535, true, false, false, []⟩ 65535 false false 3) (putB (bodyF 1 [1]) ++ []) = _
    rw [outS_put rfl rfl rfl (bodyF 1 [1]) end_fits (by decide), right_body 65535 [] [1] 3 1 (by decide) (by decide) (by decide) (by decide) (by decide) (by decide), judged_fS, outS_nil rfl]
    rfl
  · refine wrong_of (x := fX) (win := 65535) (g := true) (f := 3) (fr := headF 1) rfl ?_ (head_fits 1 (by decide)) (by decide) (right_gone fX 65535 3 (headF 1)) rfl
    show outS (fS fX 65535 false false 2) (allB [goF]) = _
    rw [allB_cons, allB_nil, outS_put rfl rfl rfl goF go_fits (by decide), right_go fX 65535 2 (by decide), judged_fS, outS_nil rfl]
  · exact wrong_of (x := fX) (win := 65535) (g := false) (f := 2) (fr := ackF) rfl (outS_nil rfl) ack_fits (by decide) (right_ack_none (s := fS fX 65535 false false 2) rfl (by decide) rfl) rfl
  · exact wrong_of (x := fX) (win := 65535) (g := false) (f := 2) (fr := blockF) rfl (outS_nil rfl) block_fits (by decide) (right_block fX 65535 2 (by decide) rfl rfl) rfl
  · refine wrong_of (x := { fX with reset := true }) (win := 65535) (g := false) (f := 3) (fr := updF 1 5) rfl ?_ (upd_fits 1 5 (by decide)) (by decide) (right_updF _ 65535 3 (by decide) rfl) rfl
    show outS (fS fX 65535 false false 2) (allB [rstF 1 8]) = _
    rw [allB_cons, allB_nil, outS_put rfl rfl rfl (rstF 1 8) (rst_fits 1 8 (by decide)) (by decide), right_rstF fX 65535 2 (by decide) rfl, judged_fS, outS_nil rfl]
end Go.Proofs.YthmfifcogokpoaaDoor
namespace Go.Proofs.YthmfifcogokpoaaDoor
open Go.RowKit

def BytV (T : Own) (l : List UInt8) (w : World) (v : Value) : Prop := ∃ b, v = .slice (some ⟨b, 0, none⟩) l.length l.length ∧ Blk w b 5 (bys l) ∧ l.length ≤ 100 ∧ ¬ T b
/-- The block of a slice's cells: there, and not among T. -/
def Off (T : Own) (w : World) (A : Option Addr) : Prop := ∀ k, blockOf A = some k → k < w.heap.size ∧ ¬ T k
def FrV (T : Own) (f : FrameS) (w : World) (v : Value) : Prop := ∃ A c, v = f.v A c ∧ Rd w 1 A f.body.length c (bys f.body) ∧ Off T w A
def FrsV (T : Own) (l : List FrameS) (w : World) (v : Value) : Prop := ∃ (L : FrL) (b : Nat), L.map (·.1) = l ∧ v = .slice (some ⟨b, 0, none⟩) L.length L.length ∧ Blk w b 29 (frCells L) ∧ ¬ T b ∧ ∀ x ∈ L, Rd w 1 x.2.1 x.1.body.length x.2.2 (bys x.1.body) ∧ Off T w x.2.1
def AllV (T : Own) (ls : List (List FrameS)) (w : World) (v : Value) : Prop := ∃ (b : Nat) (vs : List Value), v = .slice (some ⟨b, 0, none⟩) vs.length vs.length ∧ Blk w b 34 vs ∧ vs.length = ls.length ∧ ∀ (i : Nat) l, ls[i]? = some l → ∃ u, vs[i]? = some u ∧ FrsV T l w u
/-- A frame in a cell block of its own. -/
def PtrV (T : Own) (f : FrameS) (w : World) (b : Nat) : Prop := ∃ A c, Blk w b 29 [.int .i64 f.kind, .int .i64 f.flags, .int .i64 f.stream, .slice A f.body.length c] ∧ Rd w 1 A f.body.length c (bys f.body) ∧ Off T w A

section
variable {T : Own}
theorem Off.grow {w w' : World} {A : Option Addr} (h : Off T w A) (hb : Below w.heap.size w w') : Off T w' A := fun k hk => ⟨Nat.lt_of_lt_of_le (h k hk).1 hb.size, (h k hk).2⟩
theorem BytV.grow {l : List UInt8} {w w' : World} {v : Value} (h : BytV T l w v) (hb : Below w.heap.size w w') : BytV T l w' v := by
  obtain ⟨b, h1, h2, h3⟩ := h
  exact ⟨b, h1, h2.below hb h2.lt, h3⟩
theorem FrV.grow {f : FrameS} {w w' : World} {v : Value} (h : FrV T f w v) (hb : Below w.heap.size w w') : FrV T f w' v := by
  obtain ⟨A, c, h1, h2, h3⟩ := h
  exact ⟨A, c, h1, h2.below hb fun k hk => (h3 k hk).1, h3.grow hb⟩
theorem FrsV.grow {l : List FrameS} {w w' : World} {v : Value} (h : FrsV T l w v) (hb : Below w.heap.size w w') : FrsV T l w' v := by
  obtain ⟨L, b, h1, h2, h3, h4, h5⟩ := h
  exact ⟨L, b, h1, h2, h3.below hb h3.lt, h4, fun x hx => ⟨(h5 x hx).1.below hb fun k hk => ((h5 x hx).2 k hk).1, (h5 x hx).2.grow hb⟩⟩
theorem AllV.grow {ls : List (List FrameS)} {w w' : World} {v : Value} (h : AllV T ls w v) (hb : Below w.heap.size w w') : AllV T ls w' v := by
  obtain ⟨b, vs, h1, h2, h3, h4⟩ := h
  exact ⟨b, vs, h1, h2.below hb h2.lt, h3, fun i l hl => by
    obtain ⟨u, hu, hf⟩ := h4 i l hl
    exact ⟨u, hu, hf.grow hb⟩⟩
theorem PtrV.grow {f : FrameS} {w w' : World} {b : Nat} (h : PtrV T f w b) (hb : Below w.heap.size w w') : PtrV T f w' b := by
  obtain ⟨A, c, h1, h2, h3⟩ := h
  exact ⟨A, c, h1.below hb h1.lt, h2.below hb fun k hk => (h3 k hk).1, h3.grow hb⟩

theorem below_alloc (w : World) (o : Obj) : Below w.heap.size w (w.alloc o) := (Below.refl _ _).alloc (Nat.le_refl _) o
/-! ### How they come about -/
theorem byt_made (l : List UInt8) (cells : Array Value) (hc : (bys l).toArray = cells) (hl : l.length ≤ 100) (w : World) (hN : ∀ k, w.heap.size ≤ k → ¬ T k) : BytV T l (w.alloc (.cells cells 5)) (.slice (some ⟨w.heap.size, 0, none⟩) l.length l.length) := by
  subst hc
  exact ⟨_, rfl, Blk.new w _ _, hl, hN _ (Nat.le_refl _)⟩
theorem fr_made (f : FrameS) (w : World) (v : Value) (h : BytV T f.body w v) : FrV T f w (.agg #[.int .i64 f.kind, .int .i64 f.flags, .int .i64 f.stream, v]) := by
  obtain ⟨b, rfl, h2, h3, h4⟩ := h
  refine ⟨some ⟨b, 0, none⟩, f.body.length, rfl, (Row.made (e := 5) (cs := bys f.body) h2 (Nat.le_refl _) (by simp only [maxLen]; omega) (by rw [bys_length]; omega) (by rw [Nat.mul_one, ← bys_length, List.take_length])).rd, fun k hk => ?_⟩
  obtain rfl : b = k := by simpa [blockOf] using hk
  exact ⟨h2.lt, h4⟩
theorem fr_loaded {f : FrameS} {w : World} {b : Nat} (h : PtrV T f w b) : ∃ A c, w.heap[b]? = some (.cells #[.int .i64 f.kind, .int .i64 f.flags, .int .i64 f.stream, .slice A f.body.length c] 29 (0, 0)) ∧ FrV T f w (.agg #[.int .i64 f.kind, .int .i64 f.flags, .int .i64 f.stream, .slice A f.body.length c]) := by
  obtain ⟨A, c, h1, h2, h3⟩ := h
  exact ⟨A, c, h1, A, c, rfl, h2, h3⟩
theorem fr_called {f : FrameS} {w w' : World} {e : Ending} (hN : ∀ k, w.heap.size ≤ k → ¬ T k) (h : FrQ f w e w') : ∃ v, e = .returned v ∧ FrV T f w' v ∧ Below w.heap.size w w' := by
  obtain ⟨A, c, S, h1, h2, h3⟩ := h
  exact ⟨_, h1, ⟨A, c, rfl, h2.rd, fun k hk => ⟨h2.lt k (h2.block k hk), hN k ((h3.own k (h2.block k hk)).elim (·.elim) id)⟩⟩, h3.below (fun _ h => h.elim) (Nat.le_refl _)⟩
theorem frs_made (L : FrL) (w : World) (hN : ∀ k, w.heap.size ≤ k → ¬ T k) (hL : ∀ x ∈ L, Rd w 1 x.2.1 x.1.body.length x.2.2 (bys x.1.body) ∧ Off T w x.2.1) (l : List FrameS) (hl : L.map (·.1) = l) (n : Nat) (hn : L.length = n) (cells : Array Value) (hc : (frCells L).toArray = cells) :
    FrsV T l (w.alloc (.cells cells 29)) (.slice (some ⟨w.heap.size, 0, none⟩) n n) := by
  subst hl hn hc
  exact ⟨L, _, rfl, rfl, Blk.new w _ _, hN _ (Nat.le_refl _), fun x hx => ⟨(hL x hx).1.below (below_alloc w _) fun k hk => ((hL x hx).2 k hk).1, (hL x hx).2.grow (below_alloc w _)⟩⟩
theorem all_made (ls : List (List FrameS)) (vs : List Value) (w : World) (hlen : vs.length = ls.length) (hv : ∀ (i : Nat) l, ls[i]? = some l → ∃ u, vs[i]? = some u ∧ FrsV T l w u) (n : Nat) (hn : vs.length = n) (cells : Array Value) (hc : vs.toArray = cells) :
    AllV T ls (w.alloc (.cells cells 34)) (.slice (some ⟨w.heap.size, 0, none⟩) n n) := by
  subst hn hc
  exact ⟨_, vs, rfl, Blk.new w _ _, hlen, fun i l hl => by
    obtain ⟨u, hu, hf⟩ := hv i l hl
    exact ⟨u, hu, hf.grow (below_alloc w _)⟩⟩

theorem FrQ.yields {o : Oper} {a : Act} {w : World} {K : Act → World → Prop} {Q : Exit → Act → World → Prop} (f : FuncId) (args : Array Value) (fr : FrameS) (hr : (execOp a.eval o).run Tryd.prog w = .ok (.enter f args) w) (hc : Calls Tryd.prog f args w (FrQ fr w)) (hN : ∀ k, w.heap.size ≤ k → ¬ T k) (hK : ∀ v w', Below w.heap.size w w' → FrV T fr w' v → K (a.put o.dst v) w') : o.wp Tryd.prog a w K Q := by
  unfold Oper.wp
  rw [hr]
  refine hc.mono fun e w' h => ?_
  obtain ⟨v, rfl, h2, h3⟩ := fr_called hN h
  exact hK v w' h3 h2
end
/-! ### What a literal's cells are -/
theorem built_fr (n0 n1 n2 : Int) (A : Option Addr) (n c : Nat) : Tryd.prog.built 29 [(0, .int .i64 n0), (1, .int .i64 n1), (2, .int .i64 n2), (3, .slice A n c)] = some #[.int .i64 n0, .int .i64 n1, .int .i64 n2, .slice A n c] := by kernel_rfl
theorem builtS_1 (a0 a1 a2 a3 : Value) : Tryd.prog.builtSlice 29 1 [(0, .agg #[a0, a1, a2, a3])] = some #[a0, a1, a2, a3] := by kernel_rfl
theorem builtS_2 (a0 a1 a2 a3 b0 b1 b2 b3 : Value) : Tryd.prog.builtSlice 29 2 [(0, .agg #[a0, a1, a2, a3]), (1, .agg #[b0, b1, b2, b3])] = some #[a0, a1, a2, a3, b0, b1, b2, b3] := by kernel_rfl
theorem builtS_3 (a0 a1 a2 a3 b0 b1 b2 b3 c0 c1 c2 c3 : Value) : Tryd.prog.builtSlice 29 3 [(0, .agg #[a0, a1, a2, a3]), (1, .agg #[b0, b1, b2, b3]), (2, .agg #[c0, c1, c2, c3])] = some #[a0, a1, a2, a3, b0, b1, b2, b3, c0, c1, c2, c3] := by kernel_rfl
theorem builtS_5 (a0 a1 a2 a3 b0 b1 b2 b3 c0 c1 c2 c3 d0 d1 d2 d3 e0 e1 e2 e3 : Value) : Tryd.prog.builtSlice 29 5 [(0, .agg #[a0, a1, a2, a3]), (1, .agg #[b0, b1, b2, b3]), (2, .agg #[c0, c1, c2, c3]), (3, .agg #[d0, d1, d2, d3]), (4, .agg #[e0, e1, e2, e3])] = some #[a0, a1, a2, a3, b0, b1, b2, b3, c0, c1, c2, c3, d0, d1, d2, d3, e0, e1, e2, e3] := by kernel_rfl
theorem builtS_b (x : Int) : Tryd.prog.builtSlice 5 1 [(0, .int .u8 x)] = some #[.int .u8 x] := by kernel_rfl
theorem builtS_8 (n0 n1 n2 n3 n4 n5 n6 n7 m0 m1 m2 m3 m4 m5 m6 m7 : Nat) (x0 x1 x2 x3 x4 x5 x6 x7 : Option Addr) : Tryd.prog.builtSlice 34 8 [(0, .slice x0 n0 m0), (1, .slice x1 n1 m1), (2, .slice x2 n2 m2), (3, .slice x3 n3 m3), (4, .slice x4 n4 m4), (5, .slice x5 n5 m5), (6, .slice x6 n6 m6), (7, .slice x7 n7 m7)] = some #[.slice x0 n0 m0, .slice x1 n1 m1, .slice x2 n2 m2, .slice x3 n3 m3, .slice x4 n4 m4, .slice x5 n5 m5, .slice x6 n6 m6, .slice x7 n7 m7] := by kernel_rfl
end Go.Proofs.YthmfifcogokpoaaDoor
