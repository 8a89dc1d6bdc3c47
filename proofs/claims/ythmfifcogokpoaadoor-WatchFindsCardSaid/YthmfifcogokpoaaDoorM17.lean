/- What is proved here: contracts of the program's functions and plain lemmas that the claim's last text uses, in parts: package watch: what a Watch holds; package watch: New, Frames, live; package watch: granted. -/
import Derived.Test.YthmfifcogokpoaaDoorM16
set_option linter.unusedVariables false
set_option linter.unusedSimpArgs false
namespace Go.Proofs.YthmfifcogokpoaaDoor
open Go.RowKit
open Go.ChangeMaps (setBlock)

structure StrS where
  window : Int
  begun : Bool
  ended : Bool
  reset : Bool
  data : List UInt8
deriving DecidableEq
structure WatchS where
  head : Nat
  inB : List UInt8
  outB : List UInt8
  deaf : Bool
  blind : Bool
  bad : Bool
  highest : Nat
  m : List (Nat × StrS)
  window : Int
  waits : List (List (Nat × Nat))
  sets : SetsS
  tab : List FieldS
  most : Int
  dead : Bool
  frames : Nat
  gone : Bool
/-- Where its parts lie. -/
structure Locs where
  ib : Nat
  ob : Nat
  mb : Nat
  db : Nat
  wA : Option Addr
  wc : Nat
  kbs : List Nat

def newS : WatchS := ⟨0, [], [], false, false, false, 0, [], 65535, [], firstS, [], 4096, false, 0, false⟩
def WatchS.cells (s : WatchS) (v : Locs) : List Value :=
  [.int .i64 s.head, .pointer (some ⟨v.ib, 0, none⟩), .pointer (some ⟨v.ob, 0, none⟩), .bool s.deaf, .bool s.blind, .bool s.bad, .int .i64 s.highest, .map (some v.mb), .int .i64 s.window, .slice v.wA s.waits.length v.wc,
    .int .i64 s.sets.table, .int .i64 s.sets.push, .int .i64 s.sets.streams, .int .i64 s.sets.window, .int .i64 s.sets.frame, .int .i64 s.sets.list, .pointer (some ⟨v.db, 0, none⟩), .int .i64 s.frames, .bool s.gone]

def streamP (kb : Nat) (x : StrS) : Part where
  p w S := ∃ A c S1, Blk w kb 71 [.int .i64 x.window, .bool x.begun, .bool x.ended, .bool x.reset, .slice A x.data.length c] ∧ Row 5 1 A x.data.length c (bys x.data) S1 w ∧ ¬ S1 kb ∧ ∀ k, S k ↔ k = kb ∨ S1 k
  keep h hk := by
    obtain ⟨A, c, S1, h1, h2, h3, h4⟩ := h
    exact ⟨A, c, S1, h1.keep (hk kb ((h4 kb).2 (.inl rfl))), h2.loc fun k hs => hk k ((h4 k).2 (.inr hs)), h3, h4⟩
  lt h k hk := by
    obtain ⟨A, c, S1, h1, h2, h3, h4⟩ := h
    rcases (h4 k).1 hk with rfl | h5
    · exact h1.lt
    · exact h2.lt k h5
def strsL (kbs : List Nat) (m : List (Nat × StrS)) : List Part := List.zipWith (fun kb x => streamP kb x.2) kbs m
def setsRow (A : Option Addr) (c : Nat) (l : List (Nat × Nat)) : Part := rowP 66 2 A l.length c (setCells l)
/-- The settings that wait. -/
def waitsP (wA : Option Addr) (wc : Nat) (waits : List (List (Nat × Nat))) : Part where
  p w S := ∃ hs : List (Option Addr × Nat), hs.length = waits.length ∧
    StarL (rowP 63 1 wA waits.length wc (List.zipWith (fun h l => Value.slice h.1 l.length h.2) hs waits) :: List.zipWith (fun h l => setsRow h.1 h.2 l) hs waits) w S
  keep h hk := by
    obtain ⟨hs, h1, h2⟩ := h
    exact ⟨hs, h1, h2.keep hk⟩
  lt h := by
    obtain ⟨hs, h1, h2⟩ := h
    exact h2.lt

def mapL (v : Locs) (s : WatchS) : List (Int × Nat) := List.zipWith (fun (x : Nat × StrS) kb => ((x.1 : Int), kb)) s.m v.kbs
def watL (b : Nat) (v : Locs) (s : WatchS) : List Part :=
  [blkP b 59 (s.cells v), parP v.ib 16384 s.inB, parP v.ob 16384 s.outB, mapP v.mb (mapL v s), starP (strsL v.kbs s.m), waitsP v.wA v.wc s.waits, decP s.dead v.db s.tab s.most]
/-- A Watch in order. -/
structure WAt (w : World) (b : Nat) (v : Locs) (s : WatchS) (S : Own) : Prop where
  kbs : v.kbs.length = s.m.length
  star : StarL (watL b v s) w S
  glob : GlobOk w
  g0 : ¬ S 0

theorem WAt.keep {w w' : World} {b : Nat} {v : Locs} {s : WatchS} {S : Own} (h : WAt w b v s S) (hk : ∀ k, S k → w'.heap[k]? = w.heap[k]?) (hg : GlobOk w') : WAt w' b v s S := ⟨h.kbs, h.star.keep hk, hg, h.g0⟩
theorem WAt.below {w w' : World} {b : Nat} {v : Locs} {s : WatchS} {S : Own} (h : WAt w b v s S) (hb : Below w.heap.size w w') : WAt w' b v s S := h.keep (fun k hk => hb.block k (h.star.lt k hk)) (h.glob.below hb h.glob.pos)
theorem WAt.alloc {w : World} {b : Nat} {v : Locs} {s : WatchS} {S : Own} (h : WAt w b v s S) (o : Obj) : WAt (w.alloc o) b v s S := h.below ((Below.refl _ _).alloc (Nat.le_refl _) o)
theorem WAt.drew {w : World} {b : Nat} {v : Locs} {s : WatchS} {S : Own} (h : WAt w b v s S) : WAt w.drew b v s S := h.keep (fun _ _ => rfl) h.glob
theorem WAt.drewN {w : World} {b : Nat} {v : Locs} {s : WatchS} {S : Own} (h : WAt w b v s S) (n : Nat) : WAt (w.drewN n) b v s S := h.keep (fun _ _ => rfl) h.glob
theorem WAt.upd {w w' : World} {b : Nat} {v : Locs} {s : WatchS} {S T T' : Own} (h : WAt w b v s S) (hu : Upd T T' w w') (ha : Apart S T) (h0 : ¬ T 0) : WAt w' b v s S := h.keep (fun k hk => hu.block k (h.star.lt k hk) (ha k hk)) (h.glob.upd hu h0)
theorem WAt.lt {w : World} {b : Nat} {v : Locs} {s : WatchS} {S : Own} (h : WAt w b v s S) : ∀ k, S k → k < w.heap.size := h.star.lt
/-- One part of it turned. -/
theorem WAt.focus {w : World} {b : Nat} {v : Locs} {s : WatchS} {S : Own} (h : WAt w b v s S) (i : Nat) {p : Part} (hi : (watL b v s)[i]? = some p) :
    ∃ S1, p.p w S1 ∧ (∀ k, S1 k → S k) ∧ ∀ (w' : World) (S1' : Own) (p' : Part) (v' : Locs) (s' : WatchS), p'.p w' S1' → Upd S1 S1' w w' → (watL b v s).set i p' = watL b v' s' → v'.kbs.length = s'.m.length → ∃ S', WAt w' b v' s' S' ∧ Upd S S' w w' := by
  obtain ⟨S1, h1, h2, h3⟩ := h.star.focus i hi
  refine ⟨S1, h1, h2, fun w' S1' p' v' s' hp hu he hk => ?_⟩
  obtain ⟨S', h4, h5⟩ := h3 w' S1' p' hp hu
  refine ⟨S', ⟨hk, he ▸ h4, h.glob.upd h5 h.g0, fun h0 => ?_⟩, h5⟩
  rcases h5.own 0 h0 with h6 | h6
  · exact h.g0 h6
  · have := h.glob.pos; omega
theorem WAt.blk {w : World} {b : Nat} {v : Locs} {s : WatchS} {S : Own} (h : WAt w b v s S) : Blk w b 59 (s.cells v) := by
  obtain ⟨S1, h1, -, -⟩ := h.focus 0 rfl
  exact h1.1
theorem WAt.base {w : World} {b : Nat} {v : Locs} {s : WatchS} {S : Own} (h : WAt w b v s S) : S b := by
  obtain ⟨S1, h1, h2, -⟩ := h.focus 0 rfl
  exact h2 b ((h1.2 b).2 rfl)
/-- A field that is no part of its own. -/
theorem WAt.set {w : World} {b : Nat} {v : Locs} {s : WatchS} {S : Own} (h : WAt w b v s S) (i : Nat) (x : Value) (s' : WatchS) (hc : (s.cells v).set i x = s'.cells v) (hr : (watL b v s).drop 1 = (watL b v s').drop 1) (hm : s'.m.length = s.m.length) :
    ∃ S', WAt (w.setCell ⟨b, i, none⟩ x) b v s' S' ∧ Upd S S' w (w.setCell ⟨b, i, none⟩ x) := by
  obtain ⟨S1, h1, h2, h3⟩ := h.focus 0 rfl
  obtain ⟨g1, g2⟩ := blkP_set h1 i x
  refine h3 _ _ (blkP b 59 (s'.cells v)) v s' (hc ▸ g1) g2 ?_ (by rw [hm]; exact h.kbs)
  simp only [watL, List.set_cons_zero, List.drop_succ_cons, List.drop_zero] at hr ⊢
  rw [hr]
theorem WAt.map {w : World} {b : Nat} {v : Locs} {s : WatchS} {S : Own} (h : WAt w b v s S) : MapAt w v.mb (mapL v s) := by
  obtain ⟨S1, h1, -, -⟩ := h.focus 3 rfl
  exact h1.1
/-- Where a stream stands. -/
def idxS (s : WatchS) (n : Nat) : Option Nat := s.m.findIdx? (fun x => x.1 == n)
theorem strsL_at {kbs : List Nat} {m : List (Nat × StrS)} {i : Nat} {kb : Nat} {x : Nat × StrS} (hk : kbs[i]? = some kb) (hm : m[i]? = some x) : (strsL kbs m)[i]? = some (streamP kb x.2) := by simp [strsL, List.getElem?_zipWith, hk, hm]
theorem strsL_set {kbs : List Nat} {m : List (Nat × StrS)} {i : Nat} {kb : Nat} {x : Nat × StrS} (hk : kbs[i]? = some kb) : (strsL kbs m).set i (streamP kb x.2) = strsL kbs (m.set i x) := by
  refine List.ext_getElem? fun j => ?_
  simp only [strsL, List.getElem?_set, List.getElem?_zipWith, List.length_zipWith]
  by_cases hj : i = j
  · subst hj
    have h1 := (List.getElem?_eq_some_iff.1 hk).1
    by_cases h2 : i < m.length
    · have h5 : kbs[i] = kb := (List.getElem?_eq_some_iff.1 hk).2
      simp [h5, h2, h1, Nat.lt_min]
    · have h3 : m[i]? = none := List.getElem?_eq_none (by omega)
      have h4 : ¬ i < min kbs.length m.length := by omega
      simp [h2, h3, h4]
  · simp [hj]
/-- A stream of it, and what may be done with it. -/
theorem WAt.stream {w : World} {b : Nat} {v : Locs} {s : WatchS} {S : Own} (h : WAt w b v s S) {i : Nat} {x : Nat × StrS} (hi : s.m[i]? = some x) :
    ∃ kb S1, v.kbs[i]? = some kb ∧ (streamP kb x.2).p w S1 ∧ (∀ k, S1 k → S k) ∧
      ∀ (w' : World) (S1' : Own) (y : StrS), (streamP kb y).p w' S1' → Upd S1 S1' w w' → ∃ S', WAt w' b v { s with m := s.m.set i (x.1, y) } S' ∧ Upd S S' w w' := by
  have hlen := (List.getElem?_eq_some_iff.1 hi).1
  have hk : v.kbs[i]? = some (v.kbs[i]'(by rw [h.kbs]; exact hlen)) := by simp
  obtain ⟨T, h1, h2, h3⟩ := h.focus 4 rfl
  obtain ⟨S1, g1, g2, g3⟩ := StarL.focus i h1 (strsL_at hk hi)
  refine ⟨_, S1, hk, g1, fun k hs => h2 k (g2 k hs), fun w' S1' y hp hu => ?_⟩
  obtain ⟨T', g4, g5⟩ := g3 w' S1' (streamP _ y) hp hu
  refine h3 w' T' (starP (strsL v.kbs (s.m.set i (x.1, y)))) v _ ?_ g5 ?_ (by simpa using h.kbs)
  · have := strsL_set (m := s.m) (x := (x.1, y)) hk
    simp only at this
    rw [this] at g4
    exact g4
  · have hmap : mapL v { s with m := s.m.set i (x.1, y) } = mapL v s := by
      refine List.ext_getElem? fun j => ?_
      simp only [mapL, List.getElem?_zipWith, List.getElem?_set]
      by_cases hj : i = j
      · subst hj
        have h6 : s.m[i] = x := (List.getElem?_eq_some_iff.1 hi).2
        simp only [hlen, if_true, hi]
        cases v.kbs[i]? <;> rfl
      · simp [hj]
    simp only [watL, List.set_cons_succ, List.set_cons_zero, hmap]
    rfl
/-- The look-up of a stream. -/
theorem WAt.look {w : World} {b : Nat} {v : Locs} {s : WatchS} {S : Own} (h : WAt w b v s S) (n : Nat) :
    (idxS s n = none ∧ lookM (mapL v s) n = none) ∨ ∃ i x kb, idxS s n = some i ∧ s.m[i]? = some (n, x) ∧ v.kbs[i]? = some kb ∧ lookM (mapL v s) n = some kb := by
  have key : ∀ (m : List (Nat × StrS)) (kbs : List Nat), kbs.length = m.length →
      (m.findIdx? (fun x => x.1 == n) = none ∧ lookM (List.zipWith (fun (x : Nat × StrS) kb => ((x.1 : Int), kb)) m kbs) n = none) ∨
      ∃ i x kb, m.findIdx? (fun x => x.1 == n) = some i ∧ m[i]? = some (n, x) ∧ kbs[i]? = some kb ∧ lookM (List.zipWith (fun (x : Nat × StrS) kb => ((x.1 : Int), kb)) m kbs) n = some kb := by
    intro m
    induction m with
    | nil => intro kbs hk; exact .inl ⟨rfl, by simp [lookM]⟩
    | cons y r ih =>
      intro kbs hk
      cases kbs with
      | nil => simp at hk
      | cons kb ks =>
        by_cases hy : y.1 = n
        · refine .inr ⟨0, y.2, kb, by simp [List.findIdx?_cons, hy], by simp [← hy], rfl, by simp [lookM, hy]⟩
        · have h1 : (y.1 == n) = false := beq_eq_false_iff_ne.2 hy
          have h2 : ((y.1 : Int) == (n : Int)) = false := beq_eq_false_iff_ne.2 (by omega)
          have e1 : lookM (List.zipWith (fun (x : Nat × StrS) kb => ((x.1 : Int), kb)) (y :: r) (kb :: ks)) n = lookM (List.zipWith (fun (x : Nat × StrS) kb => ((x.1 : Int), kb)) r ks) n := by simp only [lookM, List.zipWith_cons_cons, List.find?_cons, h2]
          rcases ih ks (by simpa using hk) with ⟨g1, g2⟩ | ⟨i, x, kb', g1, g2, g3, g4⟩
          · exact .inl ⟨by simp [List.findIdx?_cons, h1, g1], by rw [e1]; exact g2⟩
          · exact .inr ⟨i + 1, x, kb', by simp [List.findIdx?_cons, h1, g1], by simpa using g2, by simpa using g3, by rw [e1]; exact g4⟩
  exact key s.m v.kbs h.kbs
end Go.Proofs.YthmfifcogokpoaaDoor
namespace Go.Proofs.YthmfifcogokpoaaDoor
open Go.RowKit
open Go.ChangeMaps (setBlock)

theorem StarL.cons {p : Part} {r : List Part} {w : World} {S1 S2 : Own} (hp : p.p w S1) (hr : StarL r w S2) (ha : Apart S1 S2) : StarL (p :: r) w (or_ S1 S2) := ⟨S1, S2, hp, hr, ha, fun _ => Iff.rfl⟩

theorem frames_any (w : World) (b : Nat) (v : Locs) (s : WatchS) (S : Own) (h : WAt w b v s S) :
    Calls Tryd.prog 13 #[.pointer (some ⟨b, 0, none⟩)] w (fun e w' => w' = w ∧ e = .returned (.int .i64 s.frames)) := by
  have e17 := h.blk.cell 17
  simp only [WatchS.cells, List.getElem?_cons_succ, List.getElem?_cons_zero] at e17
  clear h
  go_enter Tryd.func13, Tryd.ntmps13
  go_wp2
  go_ret
  exact ⟨rfl, rfl⟩

def liveS (s : WatchS) (n : Nat) : Option Nat :=
  match idxS s n with
  | none => none
  | some i => if ((s.m[i]?).map fun x => x.2.ended || x.2.reset) = some false then some i else none

set_option maxRecDepth 100000 in
theorem live_any (w : World) (b : Nat) (v : Locs) (s : WatchS) (S : Own) (h : WAt w b v s S) (n : Nat) :
    Calls Tryd.prog 52 #[.pointer (some ⟨b, 0, none⟩), .int .i64 n] w (fun e w' => w' = w ∧ match liveS s n with | none => e = .returned (.pointer none) | some i => ∃ kb, v.kbs[i]? = some kb ∧ e = .returned (.pointer (some ⟨kb, 0, none⟩))) := by
  have e7 := h.blk.cell 7
  simp only [WatchS.cells, List.getElem?_cons_succ, List.getElem?_cons_zero] at e7
  have hl := run_look w v.mb (mapL v s) h.map n
  unfold liveS
  rcases h.look n with ⟨h1, h2⟩ | ⟨i, x, kb, h1, h2, h3, h4⟩
  · rw [h2] at hl
    rw [h1]
    simp only [ptrM] at hl
    clear h h1 h2
    go_enter Tryd.func52, Tryd.ntmps52
    go_wp2
    go_ret
    exact ⟨rfl, rfl⟩
  · rw [h4] at hl
    rw [h1]
    simp only [ptrM] at hl
    obtain ⟨kb', S1, g1, g2, -, -⟩ := h.stream h2
    rw [h3] at g1
    obtain rfl : kb = kb' := by simpa using g1
    obtain ⟨A, c, S2, f1, -⟩ := g2
    have c2 := f1.cell 2
    have c3 := f1.cell 3
    simp only [List.getElem?_cons_succ, List.getElem?_cons_zero] at c2 c3
    simp only [h2, Option.map_some, Option.some.injEq]
    obtain ⟨xw, xb, xe, xr, xd⟩ := x
    simp only at c2 c3 ⊢
    have H3 := Lib.hid h3
    clear h h1 h2 h3 h4 f1 g1
    cases xe <;> cases xr
    · go_enter Tryd.func52, Tryd.ntmps52
      go_wp2
      go_ret
      exact ⟨rfl, kb, H3.out, rfl⟩
    all_goals
      go_enter Tryd.func52, Tryd.ntmps52
      go_wp2
      go_ret
      exact ⟨rfl, rfl⟩

theorem parserNew {W : World} {b : Nat} (h : Blk W b 73 [.int .i64 16384, .slice none 0 0]) : (parP b 16384 []).p W (one_ b) :=
  ⟨none, 0, none_, h, Row.nil _ _ _, fun h => h, fun k => ⟨.inl, fun h => h.elim id False.elim⟩⟩
theorem newStar {W : World} {b ib ob mb db : Nat} {Sd : Own} (hb : Blk W b 59 (newS.cells ⟨ib, ob, mb, db, none, 0, []⟩)) (hi : Blk W ib 73 [.int .i64 16384, .slice none 0 0]) (ho : Blk W ob 73 [.int .i64 16384, .slice none 0 0]) (hm : MapAt W mb []) (hd : DecAt W db [] 4096 Sd)
    (n : Nat) (h1 : ib = n) (h2 : ob = n + 1) (h3 : mb = n + 2) (h4 : ∀ k, Sd k → n + 3 ≤ k ∧ k < b) (h5 : n + 3 ≤ b) :
    ∃ S, StarL (watL b ⟨ib, ob, mb, db, none, 0, []⟩ newS) W S ∧ ∀ k, S k → n ≤ k := by
  have z7 : StarL [] W none_ := fun k h => h
  have z6 := StarL.cons (p := decP false db [] 4096) hd z7 (fun k _ h => h)
  have z5 := StarL.cons (p := waitsP none 0 []) (S1 := or_ none_ none_) ⟨[], rfl, StarL.cons (p := rowP 63 1 none 0 0 []) (Row.nil _ _ _) z7 (fun k h => h.elim)⟩ z6 (fun k h => h.elim (·.elim) (·.elim))
  have z4 := StarL.cons (p := starP []) z7 z5 (fun k h => h.elim)
  have z3 := StarL.cons (p := mapP mb []) (S1 := one_ mb) ⟨hm, fun _ => Iff.rfl⟩ z4 (fun k h hk => by
    have h : k = mb := h
    rcases hk with hk | (hk | hk) | hk | hk
    · exact hk
    · exact hk
    · exact hk
    · have := h4 k hk; omega
    · exact hk)
  have z2 := StarL.cons (parserNew ho) z3 (fun k h hk => by
    have h : k = ob := h
    rcases hk with hk | hk | (hk | hk) | hk | hk
    · have hk : k = mb := hk; omega
    · exact hk
    · exact hk
    · exact hk
    · have := h4 k hk; omega
    · exact hk)
  have z1 := StarL.cons (parserNew hi) z2 (fun k h hk => by
    have h : k = ib := h
    rcases hk with hk | hk | hk | (hk | hk) | hk | hk
    · have hk : k = ob := hk; omega
    · have hk : k = mb := hk; omega
    · exact hk
    · exact hk
    · exact hk
    · have := h4 k hk; omega
    · exact hk)
  refine ⟨_, StarL.cons (p := blkP b _ _) (S1 := one_ b) ⟨hb, fun _ => Iff.rfl⟩ z1 (fun k h hk => ?_), fun k hk => ?_⟩
  · have h : k = b := h
    rcases hk with hk | hk | hk | hk | (hk | hk) | hk | hk
    · have hk : k = ib := hk; omega
    · have hk : k = ob := hk; omega
    · have hk : k = mb := hk; omega
    · exact hk
    · exact hk
    · exact hk
    · have := h4 k hk; omega
    · exact hk
  · rcases hk with hk | hk | hk | hk | hk | (hk | hk) | hk | hk
    · have hk : k = b := hk; omega
    · have hk : k = ib := hk; omega
    · have hk : k = ob := hk; omega
    · have hk : k = mb := hk; omega
    · exact hk.elim
    · exact hk.elim
    · exact hk.elim
    · have := h4 k hk; omega
    · exact hk.elim

set_option maxRecDepth 100000 in
theorem watchNew_any (w : World) (hg : GlobOk w) :
    Calls Tryd.prog 8 #[] w (fun e w' => ∃ b v S, e = .returned (.pointer (some ⟨b, 0, none⟩)) ∧ WAt w' b v newS S ∧ Upd none_ S w w') := by
  have HG := Lib.hid hg
  clear hg
  have hmk : ∀ W : World, (Instr.makeMap 51 none).run Tryd.prog W = .ok (.map (some W.heap.size)) (W.alloc (.map #[] 0)) := fun W => by kernel_rfl
  go_enter Tryd.func8, Tryd.ntmps8
  go_wp2_with (first | (go_at_call 21; refine (frameNew_any _ _).mono ?_; rintro e w1 ⟨rfl, rfl⟩) | (go_at_call 22; refine (setsFirst_any _).mono ?_; rintro e w2 ⟨rfl, hb⟩; have HB := Lib.hid hb; clear hb; unfold firstS SetsS.cells) | (go_at_call 23; refine (unpackNew_any _).mono ?_; rintro e w3 ⟨db, Sd, rfl, hd, hu⟩; have HD := Lib.hid hd; have HU := Lib.hid hu; clear hd hu))
  refine bodyPost_ret (v := .pointer (some ⟨w3.heap.size, 0, none⟩)) (by simp [results, Tryd.results8, go_sem]) rfl ?_
  have h03 := bcall (HU.out.below (fun _ h => h.elim) (Nat.le_refl _)) HB.out
  have hlt : w.heap.size + 3 ≤ w3.heap.size := by have := h03.size; simpa using this
  obtain ⟨S, h1, h2⟩ := newStar (W := w3.alloc (.cells (newS.cells ⟨w.heap.size, w.heap.size + 1, w.heap.size + 1 + 1, db, none, 0, []⟩).toArray 59)) (b := w3.heap.size) (ib := w.heap.size) (ob := w.heap.size + 1) (mb := w.heap.size + 1 + 1) (db := db) (Sd := Sd) (Blk.new w3 _ _)
    (((((Blk.new w 73 [.int .i64 16384, .slice none 0 0]).alloc _).alloc _).below h03 (by simp; omega)).alloc _)
    ((((Blk.push (W := w.alloc (.cells #[.int .i64 16384, .slice none 0 0] 73)) (t := 73) (cs := [.int .i64 16384, .slice none 0 0]) (by simp)).alloc _).below h03 (by simp)).alloc _)
    ((Below.heap_alloc w3 _ _ (by omega)).trans ((h03.block _ (by simp)).trans (by simpa [ents] using heap_alloc_new ((w.alloc (.cells #[.int .i64 16384, .slice none 0 0] 73)).alloc (.cells #[.int .i64 16384, .slice none 0 0] 73)) (.map #[] 0))))
    (HD.out.loc fun k hk => Below.heap_alloc w3 _ k (HD.out.lt k hk)) w.heap.size rfl rfl rfl
    (fun k hk => ⟨by
      rcases HU.out.own k hk with h | h
      · exact h.elim
      · have := HB.out.size; simp at this; omega, HD.out.lt k hk⟩) hlt
  have hb4 : Below w.heap.size w (w3.alloc (.cells (newS.cells ⟨w.heap.size, w.heap.size + 1, w.heap.size + 1 + 1, db, none, 0, []⟩).toArray 59)) := (bcall h03 (by go_grown)).alloc (by omega) _
  have hp := HG.out.pos
  exact ⟨w3.heap.size, _, S, rfl, ⟨rfl, h1, HG.out.below hb4 hp, fun h => by have := h2 0 h; omega⟩, Upd.of_below hb4 fun k hk => .inr (h2 k hk)⟩
end Go.Proofs.YthmfifcogokpoaaDoor
namespace Go.Proofs.YthmfifcogokpoaaDoor
open Go.RowKit
open Go.ChangeMaps (setBlock)

def strOf (s : WatchS) (i : Nat) : StrS := (s.m.getD i (0, ⟨0, false, false, false, []⟩)).2
theorem strOf_at {s : WatchS} {i : Nat} {x : Nat × StrS} (h : s.m[i]? = some x) : strOf s i = x.2 := by simp [strOf, List.getD, h]
/-- More room. -/
def grantedS (s : WatchS) (n : Nat) (step : Int) : WatchS :=
  if n = 0 then { s with window := (grantS (cutW 0) (cutW s.window) 0 step).2.1, blind := (grantS (cutW 0) (cutW s.window) 0 step).2.2.bad }
  else match idxS s n with
    | none => s
    | some i => { s with m := s.m.set i (n, { strOf s i with window := (grantS (cutW (strOf s i).window) (cutW 0) step 0).1 }), blind := (grantS (cutW (strOf s i).window) (cutW 0) step 0).2.2.bad }
theorem grantS_W (s c a b : Int) (hs : W s) (hc : W c) : W (grantS s c a b).1 ∧ W (grantS s c a b).2.1 := by
  unfold grantS
  unfold W at *
  split
  · exact ⟨by simp, by simp⟩
  split
  · exact ⟨by simp, by simp⟩
  split
  · exact ⟨by simp, by simp⟩
  · simp only
    omega

set_option maxRecDepth 100000 in
set_option maxHeartbeats 1000000 in
theorem granted_conn (w : World) (b : Nat) (v : Locs) (s : WatchS) (S : Own) (h : WAt w b v s S) (hwin : W s.window) (step : Int) :
    Calls Tryd.prog 33 #[.pointer (some ⟨b, 0, none⟩), .int .i64 (0 : Nat), .int .i64 step] w (fun e w' => e = .returned (.tuple #[]) ∧ ∃ S', WAt w' b v (grantedS s 0 step) S' ∧ Upd S S' w w') := by
  have HW := Lib.hid h
  have hwb : -9223372036854775808 ≤ s.window ∧ s.window ≤ 9223372036854775807 := by unfold W at hwin; omega
  have HG := Lib.hid (fun W1 => grant_any (cutW 0) (cutW s.window) 0 step W1 (cutW_W 0) (cutW_W s.window))
  have HGW := Lib.hid (grantS_W (cutW 0) (cutW s.window) 0 step (cutW_W 0) (cutW_W s.window))
  simp only [grantedS, if_true]
  have e8 := h.blk.cell 8
  simp only [WatchS.cells, List.getElem?_cons_succ, List.getElem?_cons_zero] at e8
  have e4 := h.blk.cell 4
  simp only [WatchS.cells, List.getElem?_cons_succ, List.getElem?_cons_zero] at e4
  have f8 := h.blk.frozen 8
  have f4 := h.blk.frozen 4
  have hlt := h.blk.lt
  generalize grantS (cutW 0) (cutW s.window) 0 step = g at *
  obtain ⟨g1, g2, g3, g4, g5⟩ := g
  simp only at HG HGW ⊢
  clear h hwin
  go_enter Tryd.func33, Tryd.ntmps33
  go_wp2_with (first | (go_at_call 47; refine (windows_any 0 s.window _ (by omega) (by omega) hwb.1 hwb.2).mono ?_; rintro e w1 ⟨rfl, rfl⟩) | (go_at_call 46; refine (HG.out _).mono ?_; rintro e w1 ⟨rfl, hb⟩; obtain ⟨hc1, hf1⟩ := bcell hb; have hz := hb.size; have HB := Lib.hid hb; clear hb))
  have hne : w1.heap.size ≠ b := by omega
  have hne2 : b ≠ w1.heap.size := by omega
  have hx : (w1.alloc (.cells #[.bool g3, .bool g4, .int .i64 g5] 84)).cell? ⟨w1.heap.size, 0, none⟩ = some (.bool g3) := (Blk.new w1 84 [.bool g3, .bool g4, .int .i64 g5]).cell 0
  have kW := (HW.out.below HB.out).alloc (.cells #[.bool g3, .bool g4, .int .i64 g5] 84)
  have uW := ((Upd.of_below HB.out fun _ h => .inl h : Upd S S w w1)).alloc (.cells #[.bool g3, .bool g4, .int .i64 g5] 84)
  have HKW := Lib.hid kW
  have HUW := Lib.hid uW
  have q8 := kW.blk.cell 8
  have q4 := kW.blk.cell 4
  have qf8 := kW.blk.frozen 8
  have qf4 := kW.blk.frozen 4
  simp only [WatchS.cells, List.getElem?_cons_succ, List.getElem?_cons_zero] at q8 q4
  clear hc1 hf1 e8 e4 f8 f4 hz hlt HW HB HG kW uW
  generalize w1.alloc (.cells #[.bool g3, .bool g4, .int .i64 g5] 84) = W at *
  generalize w1.heap.size = xb at *
  refine wp_region_S (fun W => W.cell? ⟨xb, 0, none⟩ = some (.bool g3)) 12 (by kernel_rfl) (hx) (fun hHeld => ?_)
  refine AnyS_take (i := 0) (v := ?_) rfl (by kernel_rfl) (by kernel_rfl) (by kernel_rfl) (by kernel_rfl) (by kernel_rfl) (fun _ _ _ h => h) (Or.inl ⟨by rfl, ?_⟩) hHeld ?_
  rotate_left
  · intro w' hSw
    (try dsimp only at hSw)
    go_simp
    try with_reducible rfl
  try simp only [Act.put, List.setIfInBounds_toArray, List.set_cons_zero, List.set_cons_succ]
  refine AnyS_take (i := 1) (v := ?_) rfl (by kernel_rfl) (by kernel_rfl) (by kernel_rfl) (by kernel_rfl) (by kernel_rfl) (fun _ _ _ h => h) (Or.inl ⟨by rfl, ?_⟩) hHeld ?_
  rotate_left
  · intro w' hSw
    (try dsimp only at hSw)
    go_simp
    try with_reducible rfl
  try simp only [Act.put, List.setIfInBounds_toArray, List.set_cons_zero, List.set_cons_succ]
  refine AnyS_take (i := 2) (v := ?_) rfl (by kernel_rfl) (by kernel_rfl) (by kernel_rfl) (by kernel_rfl) (by kernel_rfl) (fun _ _ _ h => h) (Or.inl ⟨by rfl, ?_⟩) hHeld ?_
  rotate_left
  · intro w' hSw
    (try dsimp only at hSw)
    go_simp
    try with_reducible rfl
  try simp only [Act.put, List.setIfInBounds_toArray, List.set_cons_zero, List.set_cons_succ]
  refine AnyS_take (i := 4) (v := ?_) rfl (by kernel_rfl) (by kernel_rfl) (by kernel_rfl) (by kernel_rfl) (by kernel_rfl) (fun _ _ _ h => h) (Or.inl ⟨by rfl, ?_⟩) hHeld ?_
  rotate_left
  · intro w' hSw
    (try dsimp only at hSw)
    go_simp
    try with_reducible rfl
  try simp only [Act.put, List.setIfInBounds_toArray, List.set_cons_zero, List.set_cons_succ]
  refine AnyS_take (i := 5) (v := ?_) rfl (by kernel_rfl) (by kernel_rfl) (by kernel_rfl) (by kernel_rfl) (by kernel_rfl) (fun _ _ _ h => h) (Or.inl ⟨by rfl, ?_⟩) hHeld ?_
  rotate_left
  · intro w' hSw
    (try dsimp only at hSw)
    go_simp
    try with_reducible rfl
  try simp only [Act.put, List.setIfInBounds_toArray, List.set_cons_zero, List.set_cons_succ]
  refine AnyS_step (i := 3) rfl (by kernel_rfl) rfl (fun K hK => ?_)
  go_simp
  refine (conn_any g1 g2 _ HGW.out.1 HGW.out.2).mono ?_
  rintro e w2 ⟨rfl, rfl⟩
  refine hK.out _ _ (hHeld) (fun hHeld => ?_)
  clear hK K
  try simp only [Act.put, List.setIfInBounds_toArray, List.set_cons_zero, List.set_cons_succ]
  refine AnyS_take (i := 6) (v := ?_) rfl (by kernel_rfl) (by kernel_rfl) (by kernel_rfl) (by kernel_rfl) (by kernel_rfl) (fun _ _ _ h => h) (Or.inl ⟨by rfl, ?_⟩) hHeld ?_
  rotate_left
  · intro w' hSw
    (try dsimp only at hSw)
    go_simp
    try with_reducible rfl
  try simp only [Act.put, List.setIfInBounds_toArray, List.set_cons_zero, List.set_cons_succ]
  refine AnyS_take (i := 7) (v := ?_) rfl (by kernel_rfl) (by kernel_rfl) (by kernel_rfl) (by kernel_rfl) (by kernel_rfl) (fun _ _ _ h => h) (Or.inl ⟨by rfl, ?_⟩) hHeld ?_
  rotate_left
  · intro w' hSw
    (try dsimp only at hSw)
    go_simp
    try with_reducible rfl
  try simp only [Act.put, List.setIfInBounds_toArray, List.set_cons_zero, List.set_cons_succ]
  refine AnyS_step (i := 8) rfl (by kernel_rfl) rfl (fun K hK => ?_)
  go_simp
  refine hK.out _ _ ((World.cell?_of_block (heap_set_other (a := ⟨b, 8, none⟩) _ hne)).trans hHeld) (fun hHeld => ?_)
  clear hK K
  try simp only [Act.put, List.setIfInBounds_toArray, List.set_cons_zero, List.set_cons_succ]
  refine AnyS_take (i := 9) (v := ?_) rfl (by kernel_rfl) (by kernel_rfl) (by kernel_rfl) (by kernel_rfl) (by kernel_rfl) (fun _ _ _ h => h) (Or.inl ⟨by rfl, ?_⟩) hHeld ?_
  rotate_left
  · intro w' hSw
    (try dsimp only at hSw)
    go_simp
    try with_reducible rfl
  try simp only [Act.put, List.setIfInBounds_toArray, List.set_cons_zero, List.set_cons_succ]
  refine AnyS_take (i := 10) (v := ?_) rfl (by kernel_rfl) (by kernel_rfl) (by kernel_rfl) (by kernel_rfl) (by kernel_rfl) (fun _ _ _ h => h) (Or.inl ⟨by rfl, ?_⟩) hHeld ?_
  rotate_left
  · intro w' hSw
    (try dsimp only at hSw)
    go_simp
    try with_reducible rfl
  try simp only [Act.put, List.setIfInBounds_toArray, List.set_cons_zero, List.set_cons_succ]
  refine AnyS_step (i := 11) rfl (by kernel_rfl) rfl (fun K hK => ?_)
  go_simp
  refine hK.out _ _ ((World.cell?_of_block (heap_set_other (a := ⟨b, 4, none⟩) _ hne)).trans hHeld) (fun hHeld => ?_)
  clear hK K
  try simp only [Act.put, List.setIfInBounds_toArray, List.set_cons_zero, List.set_cons_succ]
  refine AnyS_done (by kernel_rfl) (NoPanic.normal ?_) _
  try simp only [Act.put, List.setIfInBounds_toArray, List.set_cons_zero, List.set_cons_succ]
  go_wp2
  refine bodyPost_ret (results_none rfl _ _ _) rfl ?_
  obtain ⟨S1, k1, u1⟩ := HKW.out.drew.set 8 (.int .i64 g2) { s with window := g2 } rfl rfl rfl
  obtain ⟨S2, k2, u2⟩ := k1.set 4 (.bool g3) { s with window := g2, blind := g3 } rfl rfl rfl
  exact ⟨rfl, S2, k2, HUW.out.drew.trans (u1.trans u2)⟩

set_option maxRecDepth 100000 in
theorem granted_none (w : World) (b : Nat) (v : Locs) (s : WatchS) (S : Own) (h : WAt w b v s S) (n : Nat) (hn : n ≠ 0) (hi : idxS s n = none) (step : Int) :
    Calls Tryd.prog 33 #[.pointer (some ⟨b, 0, none⟩), .int .i64 n, .int .i64 step] w (fun e w' => e = .returned (.tuple #[]) ∧ w' = w) := by
  have t0 : ((n : Int) == 0) = false := beq_eq_false_iff_ne.2 (by omega)
  have e7 := h.blk.cell 7
  simp only [WatchS.cells, List.getElem?_cons_succ, List.getElem?_cons_zero] at e7
  have hl := run_look w v.mb (mapL v s) h.map n
  have hnone : lookM (mapL v s) n = none := by
    rcases h.look n with ⟨-, h2⟩ | ⟨i, x, kb, h1, -⟩
    · exact h2
    · rw [hi] at h1; cases h1
  rw [hnone] at hl
  simp only [ptrM] at hl
  clear h hn hi hnone
  go_enter Tryd.func33, Tryd.ntmps33
  go_wp2
  go_end0
  exact ⟨rfl, rfl⟩

set_option maxRecDepth 100000 in
set_option maxHeartbeats 1000000 in
theorem granted_some (w : World) (b : Nat) (v : Locs) (s : WatchS) (S : Own) (h : WAt w b v s S) (n : Nat) (hn : n ≠ 0) (i : Nat) (x : StrS) (hi : idxS s n = some i) (hx : s.m[i]? = some (n, x)) (hwin : W x.window) (step : Int) (g : Int × Int × Fault) (hg : grantS (cutW x.window) (cutW 0) step 0 = g) :
    Calls Tryd.prog 33 #[.pointer (some ⟨b, 0, none⟩), .int .i64 n, .int .i64 step] w (fun e w' => e = .returned (.tuple #[]) ∧ ∃ S', WAt w' b v { s with m := s.m.set i (n, { x with window := g.1 }), blind := g.2.2.bad } S' ∧ Upd S S' w w') := by
  have t0 : ((n : Int) == 0) = false := beq_eq_false_iff_ne.2 (by omega)
  have hwb : -9223372036854775808 ≤ x.window ∧ x.window ≤ 9223372036854775807 := by unfold W at hwin; omega
  have HG := Lib.hid (fun W1 => grant_any (cutW x.window) (cutW 0) step 0 W1 (cutW_W x.window) (cutW_W 0))
  have HGW := Lib.hid (grantS_W (cutW x.window) (cutW 0) step 0 (cutW_W x.window) (cutW_W 0))
  have e7 := h.blk.cell 7
  simp only [WatchS.cells, List.getElem?_cons_succ, List.getElem?_cons_zero] at e7
  have hl := run_look w v.mb (mapL v s) h.map n
  obtain ⟨kb, S1, y1, y2, y3, y4⟩ := h.stream hx
  have hsome : lookM (mapL v s) n = some kb := by
    rcases h.look n with ⟨h1, -⟩ | ⟨i', x', kb', h1, h2, h3, h4⟩
    · rw [hi] at h1; cases h1
    · rw [hi] at h1
      obtain rfl : i = i' := by simpa using h1
      rw [y1] at h3
      rw [h4, h3]
  rw [hsome] at hl
  simp only [ptrM] at hl
  obtain ⟨A, c, S2, k1, k2, k3, k4⟩ := y2
  have d0 := k1.cell 0
  simp only [List.getElem?_cons_zero] at d0
  have hltk := k1.lt
  have hltb := h.blk.lt
  have hkb : kb ≠ b := k1.ne h.blk (by decide)
  have HH := Lib.hid h
  have HX := Lib.hid hx
  have HK := Lib.hid y1
  rw [hg] at HG HGW
  obtain ⟨g1, g2, g3, g4, g5⟩ := g
  simp only at HG HGW d0 ⊢
  obtain ⟨xw, xb, xe, xr, xd⟩ := x
  simp only at d0 hwb ⊢
  clear hg h hn hi hx hwin y1 y3 y4 hsome k1 k2 k3 k4
  go_enter Tryd.func33, Tryd.ntmps33
  go_wp2_with (first | (go_at_call 47; refine (windows_any xw 0 _ hwb.1 hwb.2 (by omega) (by omega)).mono ?_; rintro e w1 ⟨rfl, rfl⟩) | (go_at_call 46; refine (HG.out _).mono ?_; rintro e w1 ⟨rfl, hb⟩; obtain ⟨hc1, hf1⟩ := bcell hb; have hz := hb.size; have HB := Lib.hid hb; clear hb))
  have hx1 : (w1.alloc (.cells #[.bool g3, .bool g4, .int .i64 g5] 84)).cell? ⟨w1.heap.size, 0, none⟩ = some (.bool g3) := (Blk.new w1 84 [.bool g3, .bool g4, .int .i64 g5]).cell 0
  have hne : w1.heap.size ≠ b := by omega
  have hne2 : b ≠ w1.heap.size := by omega
  have hne3 : w1.heap.size ≠ kb := by omega
  have hne4 : kb ≠ w1.heap.size := by omega
  have kW := (HH.out.below HB.out).alloc (.cells #[.bool g3, .bool g4, .int .i64 g5] 84)
  have uW := ((Upd.of_below HB.out fun _ h => .inl h : Upd S S w w1)).alloc (.cells #[.bool g3, .bool g4, .int .i64 g5] 84)
  have HKW := Lib.hid kW
  have HUW := Lib.hid uW
  have q4 := kW.blk.cell 4
  have qf4 := kW.blk.frozen 4
  obtain ⟨kb', S3, y1, ⟨A3, c3, S4, k1, k2, k3, k4⟩, y3, y4⟩ := kW.stream HX.out
  obtain rfl : kb = kb' := by have := HK.out; rw [y1] at this; simpa using this.symm
  have p0 := k1.cell 0
  have pf0 := k1.frozen 0
  simp only [WatchS.cells, List.getElem?_cons_succ, List.getElem?_cons_zero] at q4 p0
  have HST := Lib.hid (y4 _ S3 ⟨g1, xb, xe, xr, xd⟩ ⟨A3, c3, S4, k1.set 0 (.int .i64 g1), k2.loc fun k hk => heap_set_other (a := ⟨kb, 0, none⟩) _ (fun h => k3 (by rw [← show k = kb from h]; exact hk)), k3, k4⟩ ((Upd.refl S3 _).setCell (.inl ((k4 kb).2 (.inl rfl))) _))
  clear hc1 hf1 e7 d0 hz hltk hltb HH HB HG kW uW hl y1 y3 y4 k1 k2 k3 k4
  generalize w1.alloc (.cells #[.bool g3, .bool g4, .int .i64 g5] 84) = W at *
  generalize w1.heap.size = fb at *
  have hkb2 : b ≠ kb := fun h => hkb h.symm
  refine wp_region_S (fun W => W.cell? ⟨fb, 0, none⟩ = some (.bool g3)) 12 (by kernel_rfl) (hx1) (fun hHeld => ?_)
  refine AnyS_take (i := 0) (v := ?_) rfl (by kernel_rfl) (by kernel_rfl) (by kernel_rfl) (by kernel_rfl) (by kernel_rfl) (fun _ _ _ h => h) (Or.inl ⟨by rfl, ?_⟩) hHeld ?_
  rotate_left
  · intro w' hSw
    (try dsimp only at hSw)
    go_simp
    try with_reducible rfl
  try simp only [Act.put, List.setIfInBounds_toArray, List.set_cons_zero, List.set_cons_succ]
  refine AnyS_take (i := 1) (v := ?_) rfl (by kernel_rfl) (by kernel_rfl) (by kernel_rfl) (by kernel_rfl) (by kernel_rfl) (fun _ _ _ h => h) (Or.inl ⟨by rfl, ?_⟩) hHeld ?_
  rotate_left
  · intro w' hSw
    (try dsimp only at hSw)
    go_simp
    try with_reducible rfl
  try simp only [Act.put, List.setIfInBounds_toArray, List.set_cons_zero, List.set_cons_succ]
  refine AnyS_take (i := 2) (v := ?_) rfl (by kernel_rfl) (by kernel_rfl) (by kernel_rfl) (by kernel_rfl) (by kernel_rfl) (fun _ _ _ h => h) (Or.inl ⟨by rfl, ?_⟩) hHeld ?_
  rotate_left
  · intro w' hSw
    (try dsimp only at hSw)
    go_simp
    try with_reducible rfl
  try simp only [Act.put, List.setIfInBounds_toArray, List.set_cons_zero, List.set_cons_succ]
  refine AnyS_take (i := 4) (v := ?_) rfl (by kernel_rfl) (by kernel_rfl) (by kernel_rfl) (by kernel_rfl) (by kernel_rfl) (fun _ _ _ h => h) (Or.inl ⟨by rfl, ?_⟩) hHeld ?_
  rotate_left
  · intro w' hSw
    (try dsimp only at hSw)
    go_simp
    try with_reducible rfl
  try simp only [Act.put, List.setIfInBounds_toArray, List.set_cons_zero, List.set_cons_succ]
  refine AnyS_take (i := 5) (v := ?_) rfl (by kernel_rfl) (by kernel_rfl) (by kernel_rfl) (by kernel_rfl) (by kernel_rfl) (fun _ _ _ h => h) (Or.inl ⟨by rfl, ?_⟩) hHeld ?_
  rotate_left
  · intro w' hSw
    (try dsimp only at hSw)
    go_simp
    try with_reducible rfl
  try simp only [Act.put, List.setIfInBounds_toArray, List.set_cons_zero, List.set_cons_succ]
  refine AnyS_step (i := 3) rfl (by kernel_rfl) rfl (fun K hK => ?_)
  go_simp
  refine (stream_any g1 g2 _ HGW.out.1 HGW.out.2).mono ?_
  rintro e w2 ⟨rfl, rfl⟩
  refine hK.out _ _ (hHeld) (fun hHeld => ?_)
  clear hK K
  try simp only [Act.put, List.setIfInBounds_toArray, List.set_cons_zero, List.set_cons_succ]
  refine AnyS_take (i := 6) (v := ?_) rfl (by kernel_rfl) (by kernel_rfl) (by kernel_rfl) (by kernel_rfl) (by kernel_rfl) (fun _ _ _ h => h) (Or.inl ⟨by rfl, ?_⟩) hHeld ?_
  rotate_left
  · intro w' hSw
    (try dsimp only at hSw)
    go_simp
    try with_reducible rfl
  try simp only [Act.put, List.setIfInBounds_toArray, List.set_cons_zero, List.set_cons_succ]
  refine AnyS_take (i := 7) (v := ?_) rfl (by kernel_rfl) (by kernel_rfl) (by kernel_rfl) (by kernel_rfl) (by kernel_rfl) (fun _ _ _ h => h) (Or.inl ⟨by rfl, ?_⟩) hHeld ?_
  rotate_left
  · intro w' hSw
    (try dsimp only at hSw)
    go_simp
    try with_reducible rfl
  try simp only [Act.put, List.setIfInBounds_toArray, List.set_cons_zero, List.set_cons_succ]
  refine AnyS_step (i := 8) rfl (by kernel_rfl) rfl (fun K hK => ?_)
  go_simp
  refine hK.out _ _ ((World.cell?_of_block (heap_set_other (a := ⟨kb, 0, none⟩) _ hne3)).trans hHeld) (fun hHeld => ?_)
  clear hK K
  try simp only [Act.put, List.setIfInBounds_toArray, List.set_cons_zero, List.set_cons_succ]
  refine AnyS_take (i := 9) (v := ?_) rfl (by kernel_rfl) (by kernel_rfl) (by kernel_rfl) (by kernel_rfl) (by kernel_rfl) (fun _ _ _ h => h) (Or.inl ⟨by rfl, ?_⟩) hHeld ?_
  rotate_left
  · intro w' hSw
    (try dsimp only at hSw)
    go_simp
    try with_reducible rfl
  try simp only [Act.put, List.setIfInBounds_toArray, List.set_cons_zero, List.set_cons_succ]
  refine AnyS_take (i := 10) (v := ?_) rfl (by kernel_rfl) (by kernel_rfl) (by kernel_rfl) (by kernel_rfl) (by kernel_rfl) (fun _ _ _ h => h) (Or.inl ⟨by rfl, ?_⟩) hHeld ?_
  rotate_left
  · intro w' hSw
    (try dsimp only at hSw)
    go_simp
    try with_reducible rfl
  try simp only [Act.put, List.setIfInBounds_toArray, List.set_cons_zero, List.set_cons_succ]
  refine AnyS_step (i := 11) rfl (by kernel_rfl) rfl (fun K hK => ?_)
  go_simp
  refine hK.out _ _ ((World.cell?_of_block (heap_set_other (a := ⟨b, 4, none⟩) _ hne)).trans hHeld) (fun hHeld => ?_)
  clear hK K
  try simp only [Act.put, List.setIfInBounds_toArray, List.set_cons_zero, List.set_cons_succ]
  refine AnyS_done (by kernel_rfl) (NoPanic.normal ?_) _
  try simp only [Act.put, List.setIfInBounds_toArray, List.set_cons_zero, List.set_cons_succ]
  go_wp2
  go_end0
  obtain ⟨S5, j1, u1⟩ := HST.out
  obtain ⟨S6, j2, u2⟩ := j1.drew.set 4 (.bool g3) { s with m := s.m.set i (n, ⟨g1, xb, xe, xr, xd⟩), blind := g3 } rfl rfl rfl
  exact ⟨rfl, S6, j2, HUW.out.trans (u1.drew.trans u2)⟩

theorem granted_any (w : World) (b : Nat) (v : Locs) (s : WatchS) (S : Own) (h : WAt w b v s S) (hwin : W s.window) (hm : ∀ x ∈ s.m, W x.2.window) (n : Nat) (step : Int) :
    Calls Tryd.prog 33 #[.pointer (some ⟨b, 0, none⟩), .int .i64 n, .int .i64 step] w (fun e w' => e = .returned (.tuple #[]) ∧ ∃ S', WAt w' b v (grantedS s n step) S' ∧ Upd S S' w w') := by
  by_cases hn : n = 0
  · subst hn
    exact granted_conn w b v s S h hwin step
  · simp only [grantedS, if_neg hn]
    rcases h.look n with ⟨h1, h2⟩ | ⟨i, x, kb, h1, h2, h3, h4⟩
    · rw [h1]
      refine (granted_none w b v s S h n hn h1 step).mono ?_
      rintro e w' ⟨rfl, rfl⟩
      exact ⟨rfl, S, h, Upd.refl _ _⟩
    · rw [h1]
      simp only [strOf_at h2]
      exact granted_some w b v s S h n hn i x h1 h2 (hm _ (List.mem_of_getElem? h2)) step _ rfl
end Go.Proofs.YthmfifcogokpoaaDoor
