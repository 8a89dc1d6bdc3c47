/- What is proved here: contracts of the program's functions and plain lemmas that the claim's last text uses, in parts: from a call's contract to a row: what the rows of this seat share; the statement's Few; bytes that are the same; WatchPieces' plain law; In with bytes that may be none. -/
import Derived.Test.YthmfifcogokpoaaDoorTie
import Derived.Test.YthmfifcogokpoaaDoorCards
import Derived.Test.YthmfifcogokpoaaDoorM29
import Derived.ProofKit
import Derived.OpenShut
import Derived.LaidMore
import Derived.Lay
import Derived.SevenTiedAt
import Derived.Stop.Joined
import Derived.Shelf.Vars
import Derived.Deep.LoopGhost
set_option linter.unusedVariables false
set_option linter.unusedSimpArgs false
namespace Go.Proofs.YthmfifcogokpoaaDoor
open Go.ChangeShapes Go.WideShapes Go.ChangeAt Go.RowKit

/-- The condition and the world's shape, both handed to the contract. -/
theorem handed_and_shaped {H : Type} {enc : TypeId × Value → H} {a : Assume} {C : Checked} {os : Os} {f : FuncId} {fn : Func} {s : ChangeSpec} {conds : List PathCond} {apart fresh handsOn again : Bool} {X : World → Array Value → Prop}
    (hX : ∀ (w w' : World) (args : Array Value), w.heap = w'.heap → X w args → X w' args)
    (own : ownKnob C.prog.godebug = none) (started : os.Started) (noInit : C.prog.inits.idxOf? f = none) (hfn : C.prog.funcs[f]? = some fn)
    (witness : ∃ (w : World) (tape : Tape) (i : Input), w.os = os ∧ (w.forCall tape i).Shaped C.prog ∧ i.vars = [] ∧ Input.okWide C.prog (w.forCall tape i) .any w.heap.size f i ∧
      ((s.pre enc C.prog fn conds apart (w.forCall tape i).memory i.args ∧ X (w.forCall tape i).memory i.args) ∧ sizedMet enc C.prog fn (OpenSpec.ofChange s) apart (w.forCall tape i).memory i.args) ∧ a.holds C.prog (lone (Frame.enter C.prog f i.args .normal) [] (w.forCall tape i)))
    (contract : ∀ (W : World) (base : Nat) (args : Array Value) (ds gs : List (DataW H)) (before : List MemPlace),
      (∀ (j : Nat) t v, fn.params[j]? = some t → args[j]? = some v → Value.okWide C.prog W .any base t v) →
      DataW.Whole enc C.prog fn.params.toList s.vars apart W args.toList ds gs before → W.ShapedOpen C.prog →
      Calls C.prog f args W fun e W' => ∃ v, e = .returned v ∧ s.post enc C.prog fn apart fresh handsOn again W args v W') :
    ReturnsInHanded a C os f .any (fun w args => (s.pre enc C.prog fn conds apart w args ∧ X w args) ∧ sizedMet enc C.prog fn (OpenSpec.ofChange s) apart w args) (s.post enc C.prog fn apart fresh handsOn again) := by
  refine returnsInHanded_of_calls own started noInit witness ?_
  intro w tape i _ hsh _ hok hpre hholds
  obtain ⟨_, _, _, fn', hfn', _, _, _, _, hval⟩ := hok
  have e : fn' = fn := Option.some.inj (hfn'.symm.trans hfn)
  subst e
  obtain ⟨⟨⟨ds, gs, before, hw, hc⟩, hx⟩, hz⟩ := hpre
  have hw' := DataW.Whole.of_heap (w' := w.forCall tape i) (by rfl) hw
  refine (contract (w.forCall tape i) w.heap.size i.args ds gs before hval hw' hsh).mono fun e W' ⟨v, he, hp⟩ => ?_
  subst he
  exact ChangeSpec.post_blind hp

theorem own_ : ownKnob Tryd.prog.godebug = none := by kernel_rfl
theorem glob_of_shape {W : World} (h : W.ShapedOpen Tryd.prog) : GlobOk W :=
  cell_of_shapedOpen_int (g := 0) (t := 3) (zero := #[.int .i64 0]) h (of_decide_eq_true (by kernel_rfl)) (by kernel_rfl) rfl (by kernel_rfl) (by kernel_rfl) Tryd.underlying3
abbrev laidL : List (String × DataW Unit) := [("unicode/utf8.acceptRanges", Rows.laid_unicode_utf8_acceptRanges), ("unicode/utf8.first", Rows.laid_unicode_utf8_first)]
theorem laid_met (os : Os) (args : Array Value) : laidMetH Tryd.prog laidL ((World.laidAll Tryd.prog os laidL).forCall (fun _ _ => 0) ⟨#[], args, []⟩).memory := by
  rw [MakeChecks.laidMetH_plain _ _ _ (by kernel_rfl)]
  exact laidMet_laidAll _ (by kernel_rfl) (by kernel_rfl)
end Go.Proofs.YthmfifcogokpoaaDoor
namespace Go.Proofs.YthmfifcogokpoaaDoor
open Go.RowKit

/-- A call of the statement's, with where its bytes lie. -/
structure OpS where
  kind : Int
  A : Option Addr
  c : Nat
  b : List UInt8
def opCells (l : List OpS) : List Value := l.flatMap fun x => [.int .i64 x.kind, .slice x.A x.b.length x.c]
theorem opCells_at (l : List OpS) (i : Nat) (h : i < l.length) : (opCells l)[i * 2]? = some (.int .i64 l[i].kind) ∧ (opCells l)[i * 2 + 1]? = some (.slice l[i].A l[i].b.length l[i].c) := by
  induction l generalizing i with
  | nil => simp at h
  | cons x r ih =>
    have hs : opCells (x :: r) = .int .i64 x.kind :: .slice x.A x.b.length x.c :: opCells r := by simp [opCells]
    cases i with
    | zero => rw [hs]; simp
    | succ k =>
      have := ih k (by simpa using h)
      rw [hs]
      rw [show (k + 1) * 2 = k * 2 + 1 + 1 from by omega]
      simpa using this
theorem opCells_length (l : List OpS) : (opCells l).length = l.length * 2 := by
  induction l with
  | nil => rfl
  | cons x r ih => simp [opCells] at *; omega
def capSum (l : List OpS) : Nat := (l.map fun x => min x.b.length 100001).sum
theorem capSum_le (l : List OpS) : capSum l ≤ l.length * 100001 := by
  induction l with
  | nil => simp [capSum]
  | cons x r ih => simp [capSum] at *; omega
theorem capSum_snoc (l : List OpS) (x : OpS) : capSum (l ++ [x]) = capSum l + min x.b.length 100001 := by simp [capSum]
def fewS (l : List OpS) : Bool := decide (l.length ≤ 300) && decide (capSum (l.take 300) ≤ 100000)
theorem take_snoc_at (l : List OpS) (k : Nat) (h : k < l.length) : l.take (k + 1) = l.take k ++ [l[k]] := by
  rw [List.take_succ_eq_append_getElem h]

set_option maxRecDepth 100000 in
set_option maxHeartbeats 1000000 in
theorem few_any (l : List OpS) (A : Option Addr) (c : Nat) (w : World) (hr : Rd w 2 A l.length c (opCells l)) :
    Calls Tryd.prog 17 #[.slice A l.length c] w fun e w' => e = .returned (.bool (fewS l)) ∧ w' = w := by
  have hcap : l.length ≤ 9223372036854775807 := by have h5 := hr.le; have h6 := hr.cap; simp only [maxLen] at h6; omega
  have HR := Lib.hid hr
  clear hr
  go_enter Tryd.func17, Tryd.ntmps17
  go_wp2
  go_loop [3, 4] (fun nv iv => ∃ k : Nat, k ≤ l.length ∧ k ≤ 300 ∧ iv = .int .i64 k ∧ nv = .int .i64 (capSum (l.take k))) (fun _ iv => 300 - (intOf iv).toNat)
  case atStart => exact ⟨0, Nat.zero_le _, Nat.zero_le _, rfl, rfl⟩
  case round =>
    obtain ⟨k, hk, hk3, rfl, rfl⟩ := hrel
    have hcs := capSum_le (l.take k)
    have hlt := List.length_take_le k l
    have hb : capSum (l.take k) ≤ 30000300 := by
      have : (l.take k).length * 100001 ≤ 300 * 100001 := Nat.mul_le_mul_right _ (by omega)
      omega
    clear hcs hlt
    by_cases hkl : k < l.length
    · have t1 : decide (k < l.length) = true := decide_eq_true hkl
      by_cases h300 : k < 300
      · have t2 : decide ((k : Int) < 300) = true := decide_eq_true (by omega)
        obtain ⟨g, o, hA, hcell⟩ := HR.out.form (by omega)
        obtain ⟨k0, k1⟩ := opCells_at l k hkl
        have d1 := hcell _ _ k1
        rw [← Nat.add_assoc] at d1
        have hs := capSum_snoc (l.take k) l[k]
        rw [← take_snoc_at l k hkl] at hs
        have HS := Lib.hid hs
        have j0 : (0 : Int) ≤ (k : Int) := by omega
        have j1 : (k : Int) < (l.length : Int) := by omega
        subst hA
        clear hcell k0 k1 hs
        obtain ⟨q, hq⟩ : ∃ q : Nat, min ((l[k].b.length : Int)) 100001 = q := ⟨min l[k].b.length 100001, by omega⟩
        have hq1 : min l[k].b.length 100001 = q := by omega
        rw [hq1] at HS
        clear hq1
        generalize l[k] = x at *
        go_wp2
        go_round
        case rel => exact ⟨k + 1, by omega, by omega, by go_num, by rw [HS.out]; go_num⟩
        case measure => simp [intOf]; omega
      · have t2 : decide ((k : Int) < 300) = false := decide_eq_false (by omega)
        obtain rfl : k = 300 := by omega
        have hf : fewS l = false := by unfold fewS; rw [decide_eq_false (by omega)]; rfl
        have t3 : decide ((l.length : Int) ≤ 300) = false := decide_eq_false (by omega)
        have HF := Lib.hid hf
        clear hf
        go_wp2
        go_ret
        exact ⟨by rw [HF.out]; rfl, rfl⟩
    · have t1 : decide (k < l.length) = false := decide_eq_false hkl
      obtain rfl : k = l.length := by omega
      have hfull : l.take l.length = l := List.take_length
      have hf : fewS l = decide (capSum l ≤ 100000) := by unfold fewS; rw [decide_eq_true (by omega), List.take_of_length_le (by omega)]; rfl
      have t3 : decide ((l.length : Int) ≤ 300) = true := decide_eq_true (by omega)
      rw [hfull] at hb ⊢
      clear hfull
      by_cases hc : capSum l ≤ 100000
      · have t4 : decide ((capSum l : Int) ≤ 100000) = true := decide_eq_true (by omega)
        rw [decide_eq_true hc] at hf
        have HF := Lib.hid hf
        clear hf hc
        generalize capSum l = cs at *
        go_wp2
        go_ret
        exact ⟨by rw [HF.out]; rfl, rfl⟩
      · have t4 : decide ((capSum l : Int) ≤ 100000) = false := decide_eq_false (by omega)
        rw [decide_eq_false hc] at hf
        have HF := Lib.hid hf
        clear hf hc
        generalize capSum l = cs at *
        go_wp2
        go_ret
        exact ⟨by rw [HF.out]; rfl, rfl⟩

set_option maxRecDepth 100000 in
theorem sameB_any (l : List UInt8) (A : Option Addr) (c : Nat) (A2 : Option Addr) (c2 : Nat) (w : World) (h1 : Rd w 1 A l.length c (bys l)) (h2 : Rd w 1 A2 l.length c2 (bys l)) :
    Calls Tryd.prog 18 #[.slice A l.length c, .slice A2 l.length c2] w fun e w' => e = .returned (.bool true) ∧ Below w.heap.size w w' := by
  have s1 := run_str h1
  have s2 := run_str h2
  clear h1 h2
  go_enter Tryd.func18, Tryd.ntmps18
  go_wp2
  go_ret
  exact ⟨rfl, Below.refl _ _⟩
end Go.Proofs.YthmfifcogokpoaaDoor
namespace Go.Proofs.YthmfifcogokpoaaDoor
open Go.RowKit

/-! ### A Watch that has done what it can -/
def SetO (s : WatchS) : Prop := s.bad = true ∨ s.blind = true ∨ (nextS 16384 s.outB).2.1 = 4
def SetI (s : WatchS) : Prop := s.deaf = true ∨ s.blind = true ∨ (nextS 16384 s.inB).2.1 = 4
theorem runOut_set : ∀ (n : Nat) (s : WatchS), s.outB.length ≤ n → SetO (runOut s)
  | n, s, hn => by
    by_cases hs : s.bad = true ∨ s.blind = true
    · rw [runOut_stop hs]; exact hs.elim .inl fun h => .inr (.inl h)
    have h1 : s.bad = false := by cases h : s.bad <;> simp_all
    have h2 : s.blind = false := by cases h : s.blind <;> simp_all
    by_cases h4 : (nextS 16384 s.outB).2.1 = 4
    · rw [runOut_short h4]; exact .inr (.inr h4)
    by_cases h0 : (nextS 16384 s.outB).2.1 = 0
    · have h3 := nextS_shrinks (by omega) h0
      rw [runOut_next h1 h2 h0]
      match n with
      | 0 => omega
      | n + 1 => exact runOut_set n _ (by rw [judged_outB, rightS_outB]; simp only; omega)
    · rw [runOut_long h1 h2 h4 h0]; exact .inl rfl
theorem runIn_set : ∀ (n : Nat) (s : WatchS), s.inB.length ≤ n → SetI (runIn s)
  | n, s, hn => by
    by_cases hs : s.deaf = true ∨ s.blind = true
    · rw [runIn_stop hs]; exact hs.elim .inl fun h => .inr (.inl h)
    have h1 : s.deaf = false := by cases h : s.deaf <;> simp_all
    have h2 : s.blind = false := by cases h : s.blind <;> simp_all
    by_cases h4 : (nextS 16384 s.inB).2.1 = 4
    · rw [runIn_short h4]; exact .inr (.inr h4)
    by_cases h0 : (nextS 16384 s.inB).2.1 = 0
    · have h3 := nextS_shrinks (by omega) h0
      rw [runIn_next h1 h2 h0]
      match n with
      | 0 => omega
      | n + 1 => exact runIn_set n _ (by rw [hearsS_inB]; simp only; omega)
    · rw [runIn_long h1 h2 h4 h0]; exact .inl rfl
theorem hearsS_bad (s : WatchS) (f : FrameS) : (hearsS s f).bad = s.bad ∧ (hearsS s f).outB = s.outB := by
  unfold hearsS grantedS
  repeat' split
  all_goals exact ⟨rfl, rfl⟩
theorem inLoop_bad : ∀ (n : Nat) (s : WatchS), (inLoop n s).bad = s.bad ∧ (inLoop n s).outB = s.outB
  | 0, _ => ⟨rfl, rfl⟩
  | n + 1, s => by
    unfold inLoop
    split
    · exact ⟨rfl, rfl⟩
    split
    · exact ⟨rfl, rfl⟩
    split
    · have h1 := inLoop_bad n (hearsS { s with inB := (nextS 16384 s.inB).2.2, deaf := false } (nextS 16384 s.inB).1)
      have h2 := hearsS_bad { s with inB := (nextS 16384 s.inB).2.2, deaf := false } (nextS 16384 s.inB).1
      exact ⟨h1.1.trans h2.1, h1.2.trans h2.2⟩
    · exact ⟨rfl, rfl⟩
theorem hearsS_dead (s : WatchS) (f : FrameS) : (hearsS s f).dead = s.dead := by
  unfold hearsS grantedS
  repeat' split
  all_goals rfl
theorem inLoop_dead : ∀ (n : Nat) (s : WatchS), (inLoop n s).dead = s.dead
  | 0, _ => rfl
  | n + 1, s => by
    unfold inLoop
    split
    · rfl
    split
    · rfl
    split
    · rw [inLoop_dead n, hearsS_dead]
    · rfl
theorem inS_dead {s : WatchS} (h : s.dead = true → s.bad = true) (l : List UInt8) : (inS s l).dead = true → (inS s l).bad = true := by
  have h1 : (inS s l).dead = s.dead := inLoop_dead _ _
  have h2 : (inS s l).bad = s.bad := (inLoop_bad _ _).1
  rw [h1, h2]
  exact h
theorem SetO.inS {s : WatchS} (h : SetO s) (l : List UInt8) : SetO (inS s l) := by
  have h1 : (Go.Proofs.YthmfifcogokpoaaDoor.inS s l).bad = s.bad := (inLoop_bad _ _).1
  have h2 : (Go.Proofs.YthmfifcogokpoaaDoor.inS s l).outB = s.outB := (inLoop_bad _ _).2
  rcases h with h | h | h
  · exact .inl (h1.trans h)
  · refine .inr (.inl ?_)
    rw [inS_stop (.inr h)]
    exact h
  · exact .inr (.inr (by rw [h2]; exact h))
theorem shiftAll_deaf (s : WatchS) (by_ : Int) : (shiftAll by_ s).deaf = s.deaf ∧ (shiftAll by_ s).inB = s.inB := by
  unfold shiftAll
  repeat' split
  all_goals exact ⟨rfl, rfl⟩
theorem rightS_deaf (s : WatchS) (f : FrameS) : (rightS s f).2.deaf = s.deaf ∧ (rightS s f).2.inB = s.inB := by
  have ha : (appliesS s).2.deaf = s.deaf ∧ (appliesS s).2.inB = s.inB := by
    unfold appliesS
    split
    · exact ⟨rfl, rfl⟩
    · exact shiftAll_deaf _ _
  have hb : ∀ p, (answersS s f p).2.deaf = s.deaf ∧ (answersS s f p).2.inB = s.inB := fun p => by
    unfold answersS
    repeat' split
    all_goals exact ⟨rfl, rfl⟩
  have hc : ∀ p, (sendsS s f p).2.deaf = s.deaf ∧ (sendsS s f p).2.inB = s.inB := fun p => by
    unfold sendsS sentTo
    repeat' split
    all_goals exact ⟨rfl, rfl⟩
  unfold rightS
  repeat' split
  all_goals first | exact ⟨rfl, rfl⟩ | exact ha | exact hb _ | exact hc _
theorem judged_deaf (r : Bool × WatchS) : (judged r).deaf = r.2.deaf ∧ (judged r).inB = r.2.inB := by
  unfold judged
  split <;> exact ⟨rfl, rfl⟩
theorem outLoop_deaf : ∀ (n : Nat) (s : WatchS), (outLoop n s).deaf = s.deaf ∧ (outLoop n s).inB = s.inB
  | 0, _ => ⟨rfl, rfl⟩
  | n + 1, s => by
    unfold outLoop
    split
    · exact ⟨rfl, rfl⟩
    split
    · exact ⟨rfl, rfl⟩
    split
    · have h1 := outLoop_deaf n (judged (rightS { s with outB := (nextS 16384 s.outB).2.2 } (nextS 16384 s.outB).1))
      have h2 := judged_deaf (rightS { s with outB := (nextS 16384 s.outB).2.2 } (nextS 16384 s.outB).1)
      have h3 := rightS_deaf { s with outB := (nextS 16384 s.outB).2.2 } (nextS 16384 s.outB).1
      exact ⟨h1.1.trans (h2.1.trans h3.1), h1.2.trans (h2.2.trans h3.2)⟩
    · exact ⟨rfl, rfl⟩
theorem SetI.outS {s : WatchS} (h : SetI s) (l : List UInt8) : SetI (outS s l) := by
  have h1 : (Go.Proofs.YthmfifcogokpoaaDoor.outS s l).deaf = s.deaf := (outLoop_deaf _ _).1
  have h2 : (Go.Proofs.YthmfifcogokpoaaDoor.outS s l).inB = s.inB := (outLoop_deaf _ _).2
  rcases h with h | h | h
  · exact .inl (h1.trans h)
  · refine .inr (.inl ?_)
    rw [outS_stop (.inr h)]
    exact h
  · exact .inr (.inr (by rw [h2]; exact h))
theorem outS_idle {s : WatchS} (h : SetO s) : outS s [] = s := by
  have e : s.withOut (s.outB ++ []) = s := by cases s; simp
  rw [outS_run, e]
  rcases h with h | h | h
  · exact runOut_stop (.inl h)
  · exact runOut_stop (.inr h)
  · exact runOut_short h
theorem inS_idle {s : WatchS} (h : SetI s) : inS s [] = s := by
  have e : takeS s [] = s := by cases s; simp [takeS]
  rw [inS_run, e]
  rcases h with h | h | h
  · exact runIn_stop (.inl h)
  · exact runIn_stop (.inr h)
  · exact runIn_short h
/-- What a call does. -/
noncomputable def opRun (s : WatchS) (x : OpS) : WatchS := if x.kind = 0 then inS s x.b else outS s x.b
def opsTotal (l : List OpS) : Nat := (l.map fun x => x.b.length).sum
theorem opsTotal_snoc (l : List OpS) (x : OpS) : opsTotal (l ++ [x]) = opsTotal l + x.b.length := by simp [opsTotal]
theorem opsTotal_few : ∀ (l : List OpS), capSum l ≤ 100000 → opsTotal l = capSum l
  | [], _ => rfl
  | x :: r, h => by
    have h1 : capSum (x :: r) = min x.b.length 100001 + capSum r := rfl
    have h2 : opsTotal (x :: r) = x.b.length + opsTotal r := rfl
    have h3 := opsTotal_few r (by omega)
    omega
theorem opsTotal_take (l : List OpS) (k : Nat) : opsTotal (l.take k) ≤ opsTotal l := by
  have h : opsTotal (l.take k) + opsTotal (l.drop k) = opsTotal l := by
    unfold opsTotal
    rw [← List.sum_append, ← List.map_append, List.take_append_drop]
  omega
/-- What holds between two calls. -/
structure Mid (B : Nat) (s : WatchS) : Prop where
  ok : WOk B s
  i : SetI s
  o : SetO s
  d : s.dead = true → s.bad = true
theorem newS_mid : Mid 0 newS := ⟨newS_ok, .inr (.inr rfl), .inr (.inr rfl), fun h => by cases h⟩
theorem Mid.opRun {B : Nat} {s : WatchS} (h : Mid B s) (x : OpS) (hB : B + x.b.length ≤ 1000000000) : Mid (B + x.b.length) (opRun s x) := by
  unfold Go.Proofs.YthmfifcogokpoaaDoor.opRun
  split
  · exact ⟨inS_ok h.ok _, by rw [inS_run]; exact runIn_set _ _ (Nat.le_refl _), h.o.inS _, inS_dead h.d _⟩
  · exact ⟨outS_ok h.ok _ hB, h.i.outS _, by rw [outS_run]; exact runOut_set _ _ (Nat.le_refl _), outS_dead h.d _⟩
end Go.Proofs.YthmfifcogokpoaaDoor
