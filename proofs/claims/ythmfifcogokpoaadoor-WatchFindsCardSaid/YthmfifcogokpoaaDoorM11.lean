/- What is proved here: contracts of the program's functions and plain lemmas that the claim's last text uses, in parts: package dyn: Limit, New, Add; package dyn: Add; the shelf's contracts of strings.Cut and strings.Split at this program; stat.Get. -/
import Derived.Test.YthmfifcogokpoaaDoorM10
import Derived.Outline
import Derived.Shelf.Strings.Cut
import Derived.Shelf.Strings.Split
import Derived.Test.YthmfifcogokpoaaDoorProg
import Derived.Lib.SplitLaws
set_option linter.unusedVariables false
set_option linter.unusedSimpArgs false
namespace Go.Proofs.YthmfifcogokpoaaDoor
open Go.RowKit

theorem shrinkL_mem (room : Int) (l : List FieldS) : ∀ f ∈ shrinkL room l, f ∈ l := by
  induction l with
  | nil => intro f hf; exact hf
  | cons x r ih =>
    intro f hf
    simp only [shrinkL] at hf
    split at hf
    · exact List.mem_cons_of_mem _ (ih f hf)
    · exact hf
theorem shrinkL_total (room : Int) (l : List FieldS) : totalF (shrinkL room l) ≤ totalF l := by
  induction l with
  | nil => exact Nat.le_refl _
  | cons x r ih =>
    simp only [shrinkL]
    split
    · rw [totalF_cons]; omega
    · exact Nat.le_refl _
theorem length_total (l : List FieldS) : l.length ≤ totalF l := by
  induction l with
  | nil => exact Nat.le_refl _
  | cons x r ih => rw [totalF_cons, List.length_cons]; have : 32 ≤ sizeF x := by unfold sizeF; omega
                   omega

theorem limit_bad (b : Nat) (n : Int) (w : World) (h : n < 0 ∨ 4096 < n) : Calls Tryd.prog 37 #[.pointer (some ⟨b, 0, none⟩), .int .i64 n] w fun e w' => e = .returned (.int .i64 1) ∧ w = w' := by
  rcases h with h | h
  · go_enter Tryd.func37, Tryd.ntmps37
    go_wp2
    go_ret
    exact ⟨rfl, rfl⟩
  · have h2 : ¬ n < 0 := by omega
    go_enter Tryd.func37, Tryd.ntmps37
    go_wp2
    go_ret
    exact ⟨rfl, rfl⟩

def LimitQ (b : Nat) (l : List FieldS) (n : Int) (S : Own) (w : World) (e : Ending) (w' : World) : Prop := e = .returned (.int .i64 0) ∧ ∃ S', TableAt w' b l n S' ∧ Upd S S' w w'

set_option maxRecDepth 100000 in
set_option maxHeartbeats 1000000 in
theorem limit_any (b : Nat) (l : List FieldS) (most : Int) (S : Own) (w : World) (h : TableAt w b l most S) (n : Int) (hn : 0 ≤ n ∧ n ≤ 4096) (hok : ∀ f ∈ l, f.Ok) (htot : totalF l ≤ 1000000000000) :
    Calls Tryd.prog 37 #[.pointer (some ⟨b, 0, none⟩), .int .i64 n] w (LimitQ b (shrinkL n l) n S w) := by
  obtain ⟨n1, n2⟩ := hn
  obtain ⟨A, c, S1, hblk, hrow, hns, hS⟩ := h
  have e2 := hblk.cell 2
  have f2 := hblk.frozen 2
  simp only [List.getElem?_cons_succ, List.getElem?_cons_zero] at e2
  have ht2 : TableAt (w.setCell ⟨b, 2, none⟩ (.int .i64 n)) b l n S := ⟨A, c, S1, hblk.set 2 _, hrow.loc fun j hj => heap_set_other _ (fun h => hns (by rw [← show j = b from h]; exact hj)), hns, hS⟩
  have HC := Lib.hid (shrinks_any b l n S _ ht2 n ⟨by omega, by omega⟩ hok htot)
  have hU : Upd S S w (w.setCell ⟨b, 2, none⟩ (.int .i64 n)) := (Upd.refl S w).setCell (.inl ((hS b).2 (.inl rfl))) _
  have HU := Lib.hid hU
  have hlen : (shrinkL n l).length ≤ 1000000000000 := Nat.le_trans (length_total _) (Nat.le_trans (shrinkL_total n l) htot)
  have HS := Lib.hid hS
  have t1 : ¬ n < 0 := by omega
  have t2 : ¬ 4096 < n := by omega
  generalize shrinkL n l = l2 at *
  clear hblk hrow hns hS hok htot ht2 hU
  go_enter Tryd.func37, Tryd.ntmps37
  go_wp2_with (first | (go_at_call 57; refine HC.out.mono ?_; rintro e w1 ⟨rfl, ⟨A1, c1, S2, hb1, hr1, hn1, hS1⟩, hu1⟩; have e0 := hb1.cell 0; have f0 := hb1.frozen 0; have hlt := hb1.lt; simp only [List.getElem?_cons_succ, List.getElem?_cons_zero] at e0; have HB1 := Lib.hid hb1; have HR1 := Lib.hid hr1; have HU1 := Lib.hid hu1; have HN1 := Lib.hid hn1; have HS1 := Lib.hid hS1; clear hb1 hr1 hu1 hn1 hS1) | (go_at_call 58; refine (cloneFields_any _ _ _ _ _ HR1.out.rd (fieldCells_one l2) hlen).mono ?_; rintro e w2 ⟨A2, c2, S3, rfl, hr2, hu2⟩; have hb2 := hu2.below (fun _ h => h.elim) (Nat.le_refl _); obtain ⟨hc1, hf1⟩ := bcell hb2; have hz := hb2.size; have HR2 := Lib.hid hr2; have HU2 := Lib.hid hu2; clear hr2 hu2))
  go_ret
  have hSb : S b := (HS.out b).2 (.inl rfl)
  have hown : ∀ k, S3 k → w1.heap.size ≤ k := fun k hk => (HU2.out.own k hk).elim (·.elim) id
  refine ⟨rfl, fun k => k = b ∨ S3 k, ⟨A2, c2, S3, ?_, ?_, ?_, fun k => Iff.rfl⟩, ?_⟩
  · exact (HB1.out.upd HU2.out (fun h => h)).set 0 _
  · exact HR2.out.loc fun j hj => heap_set_other _ (by have := hown j hj; intro h; simp only at h; omega)
  · intro h; have := hown b h; omega
  · refine Upd.setCell (p := ⟨b, 0, none⟩) ?_ (.inl hSb) _
    refine (HU.out.trans HU1.out).trans (((HU2.out.wider (R := S) (fun k h => h.elim))).holds ?_)
    rintro k (rfl | hk)
    · exact .inl hSb
    · exact .inr (hown k hk)

set_option maxRecDepth 100000 in
theorem dynNew_any (n : Int) (w : World) (hn : 0 ≤ n ∧ n ≤ 4096) :
    Calls Tryd.prog 30 #[.int .i64 n] w fun e w' => e = .returned (.tuple #[.pointer (some ⟨w.heap.size, 0, none⟩), .int .i64 0]) ∧ ∃ S, TableAt w' w.heap.size [] n S ∧ Upd none_ S w w' := by
  have hT : TableAt (w.alloc (.cells #[.slice none 0 0, .int .i64 0, .int .i64 0] 91)) w.heap.size [] 0 (one_ w.heap.size) := ⟨none, 0, none_, Blk.new w _ [.slice none 0 0, .int .i64 0, .int .i64 0], Row.nil _ _ _, fun h => h, fun k => ⟨fun h => .inl h, fun h => h.elim id (·.elim)⟩⟩
  have HC := Lib.hid (limit_any w.heap.size [] 0 _ _ hT n hn (by simp) (by simp [totalF]))
  clear hT
  go_enter Tryd.func30, Tryd.ntmps30
  go_wp2_with (go_at_call 37; refine HC.out.mono ?_; rintro e w1 ⟨rfl, S', ht, hu⟩; have HT := Lib.hid ht; have HU := Lib.hid hu; clear ht hu)
  go_ret2
  refine ⟨rfl, S', HT.out, ?_⟩
  have h1 : Upd none_ (one_ w.heap.size) w (w.alloc (.cells #[.slice none 0 0, .int .i64 0, .int .i64 0] 91)) := ((Upd.refl none_ w).alloc _).holds (fun k hk => .inr (by rw [show k = w.heap.size from hk]; exact Nat.le_refl _))
  exact h1.trans HU.out
end Go.Proofs.YthmfifcogokpoaaDoor
namespace Go.Proofs.YthmfifcogokpoaaDoor
open Go.RowKit

def addL (most : Int) (l : List FieldS) (f : FieldS) : List FieldS := if (sizeF f : Int) ≤ most then shrinkL (most - sizeF f) l ++ [⟨f.name, f.value, false⟩] else shrinkL (most - sizeF f) l
def AddQ (b : Nat) (l : List FieldS) (most : Int) (S : Own) (w : World) (e : Ending) (w' : World) : Prop := e = .returned (.tuple #[]) ∧ ∃ S', TableAt w' b l most S' ∧ Upd S S' w w'
theorem totalF_append (a b : List FieldS) : totalF (a ++ b) = totalF a + totalF b := by simp [totalF]

set_option maxRecDepth 100000 in
set_option maxHeartbeats 1000000 in
theorem add_any (b : Nat) (l : List FieldS) (most : Int) (S : Own) (w : World) (h : TableAt w b l most S) (f : FieldS) (hf : f.Ok) (hm : 0 ≤ most ∧ most ≤ 1000000) (hok : ∀ f ∈ l, f.Ok) (htot : totalF l ≤ 1000000000) :
    Calls Tryd.prog 71 #[.pointer (some ⟨b, 0, none⟩), f.v] w (AddQ b (addL most l f) most S w) := by
  obtain ⟨m1, m2⟩ := hm
  have HT := Lib.hid h
  have HSLT := Lib.hid h.lt
  have hb0 := h.base
  have hlt : b < w.heap.size := h.lt b hb0
  obtain ⟨A, c, S1, hblk, hrow, hns, hS⟩ := h
  have e2 := hblk.cell 2
  simp only [List.getElem?_cons_succ, List.getElem?_cons_zero] at e2
  have hz1 : sizeF f ≤ 2000000032 := by have := hf.name; have := hf.value; unfold sizeF; omega
  have HSZ := Lib.hid (fun w => statSize_any f hf w)
  have HC := Lib.hid (fun W (hk : ∀ k, S k → W.heap[k]? = w.heap[k]?) => shrinks_any b l most S W (HT.out.loc hk) (most - sizeF f) ⟨by omega, by omega⟩ hok (by omega))
  have HTOT := Lib.hid (Nat.le_trans (shrinkL_total (most - sizeF f) l) htot)
  have hrm : IntKind.i64.wrap (most - (sizeF f : Int)) = most - (sizeF f : Int) := IntWalk.i64_in _ (by omega)
  have HS := Lib.hid hS
  have HB0 := Lib.hid hb0
  clear hblk hrow hns hS hok htot hf hb0
  have hb1lt : b < w.heap.size + 1 := by omega
  unfold FieldS.v at HSZ ⊢
  unfold addL
  generalize shrinkL (most - sizeF f) l = l2 at *
  have HUP := Lib.hid (show ∀ w2 w3, Below (w.alloc (.cells #[.string f.name, .string f.value, .bool f.never] 109)).heap.size (w.alloc (.cells #[.string f.name, .string f.value, .bool f.never] 109)) w2 → Upd S S w2 w3 → Upd S S w w3 from
    fun w2 w3 h1 h2 => (((Upd.refl S w).alloc _).trans (Upd.of_below h1 (fun k hk => .inl hk))).trans h2)
  by_cases hle : (sizeF f : Int) ≤ most
  · rw [if_pos hle]
    go_enter Tryd.func71, Tryd.ntmps71
    go_wp2_with (first | (go_at_call 66; refine (HSZ.out _).mono ?_; rintro e w2 ⟨rfl, hb⟩; obtain ⟨hc1, hf1⟩ := bcell hb; have hz := hb.size; have HB := Lib.hid hb; clear hb) | (go_at_call 57; refine (HC.out w2 (fun k hk => (HB.out.block k (by have := HSLT.out k hk; simp; omega)).trans (Below.heap_alloc w _ k (HSLT.out k hk)))).mono ?_; rintro e w3 ⟨rfl, ⟨A1, c1, S2, hb1, hr1, hn1, hS1⟩, hu1⟩; have g0 := hb1.cell 0; have g1 := hb1.cell 1; have g2 := hb1.cell 2; have fb0 := hb1.frozen 0; have fb1 := hb1.frozen 1; have hlt3 := hb1.lt; simp only [List.getElem?_cons_succ, List.getElem?_cons_zero] at g0 g1 g2; have BX := (((Blk.new w 109 [.string f.name, .string f.value, .bool f.never]).below HB.out (by simp)).upd hu1 (fun h => by have := HSLT.out _ h; omega)); have x0 := BX.cell 0; have x1 := BX.cell 1; have x2 := BX.cell 2; have y0 := BX.frozen 0; have y1 := BX.frozen 1; have y2 := BX.frozen 2; simp only [List.getElem?_cons_succ, List.getElem?_cons_zero] at x0 x1 x2; have HB1 := Lib.hid hb1; have HR1 := Lib.hid hr1; have HU1 := Lib.hid hu1; have HN1 := Lib.hid hn1; have HS1 := Lib.hid hS1; have HBX := Lib.hid BX; clear hb1 hr1 hu1 hn1 hS1 BX hc1 hf1))
    have hnx : ¬ S2 w.heap.size := fun h => by
      have h2 := (HS1.out _).2 (.inr h)
      have := HSLT.out _ h2
      omega
    have nb1 : ¬ b = w.heap.size := by omega
    have nb2 : ¬ w.heap.size = b := by omega
    have hn1 := HN1.out
    have hll := length_total l2
    have htt := HTOT.out
    have hlt3x : w.heap.size < w3.heap.size := HBX.out.lt
    have hrow1 := HR1.out
    have BW := HBX.out.set 2 (.bool false)
    have TW := HB1.out.far (a := ⟨w.heap.size, 2, none⟩) (by simpa using nb1) (.bool false)
    have RW : Row 109 3 A1 l2.length c1 (fieldCells l2) S2 (w3.setCell ⟨w.heap.size, 2, none⟩ (.bool false)) := hrow1.loc fun j hj => heap_set_other _ (fun h => hnx (by rw [← show j = w.heap.size from h]; exact hj))
    have UW : Upd S (or_ (one_ b) S2) w (w3.setCell ⟨w.heap.size, 2, none⟩ (.bool false)) := ((HUP.out _ _ HB.out HU1.out).setCell (.inr (Nat.le_refl _)) _).holds (fun k hk => .inl ((HS1.out k).2 hk))
    have hlt4 : b < (w3.setCell ⟨w.heap.size, 2, none⟩ (.bool false)).heap.size := TW.lt
    have hltx : w.heap.size < (w3.setCell ⟨w.heap.size, 2, none⟩ (.bool false)).heap.size := BW.lt
    have HSUM := Lib.hid (show (totalF l2 : Int) + (sizeF f : Int) = (totalF (l2 ++ [⟨f.name, f.value, false⟩]) : Int) from by rw [totalF_append]; simp [totalF, sizeF])
    clear g0 g1 g2 fb0 fb1 hlt3 x0 x1 x2 y0 y1 y2 hrow1 HU1 HB HBX HR1 HB1 HUP HC HSZ HT e2
    generalize w3.setCell ⟨w.heap.size, 2, none⟩ (.bool false) = W at *
    have g0 := TW.cell 0
    have g1 := TW.cell 1
    have fb0 := TW.frozen 0
    have fb1 := TW.frozen 1
    have x0 := BW.cell 0
    have x1 := BW.cell 1
    have x2 := BW.cell 2
    simp only [List.getElem?_cons_succ, List.getElem?_cons_zero, List.set_cons_succ, List.set_cons_zero] at g0 g1 x0 x1 x2
    have HKS := Lib.hid (show ∀ (W' : World) (S' : Own), Upd S2 S' W W' → W'.cell? ⟨b, 0, none⟩ = some (.slice A1 l2.length c1) ∧ W'.cell? ⟨b, 1, none⟩ = some (.int .i64 (totalF l2)) ∧ W'.frozen? ⟨b, 0, none⟩ = false ∧ W'.frozen? ⟨b, 1, none⟩ = false ∧ W'.cell? ⟨w.heap.size, 0, none⟩ = some (.string f.name) ∧ W'.cell? ⟨w.heap.size, 1, none⟩ = some (.string f.value) ∧ W'.cell? ⟨w.heap.size, 2, none⟩ = some (.bool false) from
      fun W' S' hu => ⟨(hu.cell (a := ⟨b, 0, none⟩) hlt4 hn1).trans g0, (hu.cell (a := ⟨b, 1, none⟩) hlt4 hn1).trans g1, (hu.frozen (a := ⟨b, 0, none⟩) hlt4 hn1).trans fb0, (hu.frozen (a := ⟨b, 1, none⟩) hlt4 hn1).trans fb1, (hu.cell (a := ⟨w.heap.size, 0, none⟩) hltx hnx).trans x0, (hu.cell (a := ⟨w.heap.size, 1, none⟩) hltx hnx).trans x1, (hu.cell (a := ⟨w.heap.size, 2, none⟩) hltx hnx).trans x2⟩)
    have wadd : IntKind.i64.wrap ((totalF l2 : Int) + (sizeF f : Int)) = (totalF l2 : Int) + (sizeF f : Int) := IntWalk.i64_in _ (by omega)
    have HROWQ := Lib.hid (show ∀ q : Nat, Row 109 3 A1 l2.length c1 (fieldCells l2) S2 ((W.drewN q).alloc (.cells #[.string f.name, .string f.value, .bool false] 109)) from fun q => RW.loc fun j hj => Below.heap_alloc (W.drewN q) _ j (RW.lt j hj))
    have HSRCQ := Lib.hid (show ∀ q : Nat, Src Tryd.prog ((W.drewN q).alloc (.cells #[.string f.name, .string f.value, .bool false] 109)) 3 (.slice (some ⟨W.heap.size, 0, none⟩) 1 1) 1 [.string f.name, .string f.value, .bool false] from fun q => Src.of_rd (Row.made (e := 109) (cs := [.string f.name, .string f.value, .bool false]) (Blk.push (by simp)) (Nat.le_refl _) (by simp [maxLen]) (by simp) rfl).rd (by simp [Value.oneCell']))
    have h63 : l2.length + 1 ≤ maxLen := by simp only [maxLen]; omega
    have hbb : (l2.length + 1) * 40 ≤ big := by simp only [big]; omega
    have HTW := Lib.hid TW
    have HRW := Lib.hid RW
    have HUW := Lib.hid UW
    clear TW RW UW BW hll htt
    refine wp_region_S (fun w' => w'.cell? ⟨b, 0, none⟩ = some (.slice A1 l2.length c1) ∧ w'.cell? ⟨b, 1, none⟩ = some (.int .i64 (totalF l2)) ∧ w'.frozen? ⟨b, 0, none⟩ = false ∧ w'.frozen? ⟨b, 1, none⟩ = false ∧ w'.cell? ⟨w.heap.size, 0, none⟩ = some (.string f.name) ∧ w'.cell? ⟨w.heap.size, 1, none⟩ = some (.string f.value) ∧ w'.cell? ⟨w.heap.size, 2, none⟩ = some (.bool false)) 17 (by kernel_rfl) (⟨g0, g1, fb0, fb1, x0, x1, x2⟩) (fun hHeld => ?_)
    refine AnyS_plain (i := 0) (v := ?_) rfl (by kernel_rfl) (by kernel_rfl) (by kernel_rfl) (by kernel_rfl) (fun _ _ _ h => h) (Or.inl ⟨by rfl, ?_⟩) hHeld ?_
    rotate_left
    · intro w' hSw
      (try dsimp only at hSw)
      go_simp
      try with_reducible rfl
    try simp only [Act.put, List.setIfInBounds_toArray, List.set_cons_zero, List.set_cons_succ]
    refine AnyS_plain (i := 1) (v := ?_) rfl (by kernel_rfl) (by kernel_rfl) (by kernel_rfl) (by kernel_rfl) (fun _ _ _ h => h) (Or.inl ⟨by rfl, ?_⟩) hHeld ?_
    rotate_left
    · intro w' hSw
      (try dsimp only at hSw)
      go_simp
      try with_reducible rfl
    try simp only [Act.put, List.setIfInBounds_toArray, List.set_cons_zero, List.set_cons_succ]
    refine AnyS_plain (i := 2) (v := ?_) rfl (by kernel_rfl) (by kernel_rfl) (by kernel_rfl) (by kernel_rfl) (fun _ _ _ h => h) (Or.inl ⟨by rfl, ?_⟩) hHeld ?_
    rotate_left
    · intro w' hSw
      (try dsimp only at hSw)
      go_simp
      try with_reducible rfl
    try simp only [Act.put, List.setIfInBounds_toArray, List.set_cons_zero, List.set_cons_succ]
    refine AnyS_plain (i := 3) (v := ?_) rfl (by kernel_rfl) (by kernel_rfl) (by kernel_rfl) (by kernel_rfl) (fun _ _ _ h => h) (Or.inl ⟨by rfl, ?_⟩) hHeld ?_
    rotate_left
    · intro w' hSw
      (try dsimp only at hSw)
      go_simp
      try with_reducible rfl
    try simp only [Act.put, List.setIfInBounds_toArray, List.set_cons_zero, List.set_cons_succ]
    refine AnyS_plain (i := 4) (v := ?_) rfl (by kernel_rfl) (by kernel_rfl) (by kernel_rfl) (by kernel_rfl) (fun _ _ _ h => h) (Or.inl ⟨by rfl, ?_⟩) hHeld ?_
    rotate_left
    · intro w' hSw
      (try dsimp only at hSw)
      go_simp
      try with_reducible rfl
    try simp only [Act.put, List.setIfInBounds_toArray, List.set_cons_zero, List.set_cons_succ]
    refine AnyS_take (i := 5) (v := ?_) rfl (by kernel_rfl) (by kernel_rfl) (by kernel_rfl) (by kernel_rfl) (by kernel_rfl) (fun _ _ _ h => h) (Or.inl ⟨by rfl, ?_⟩) hHeld ?_
    rotate_left
    · intro w' hSw
      (try dsimp only at hSw)
      go_simp
      try with_reducible rfl
    try simp only [Act.put, List.setIfInBounds_toArray, List.set_cons_zero, List.set_cons_succ]
    refine AnyS_take (i := 6) (v := ?_) rfl (by kernel_rfl) (by kernel_rfl) (by kernel_rfl) (by kernel_rfl) (by kernel_rfl) (fun _ _ _ h => h) (Or.inl ⟨by rfl, ?_⟩) hHeld ?_
    rotate_left
    · intro w' hSw
      (try dsimp only at hSw)
      go_simp
      try with_reducible rfl
    try simp only [Act.put, List.setIfInBounds_toArray, List.set_cons_zero, List.set_cons_succ]
    refine AnyS_plain (i := 9) (v := ?_) rfl (by kernel_rfl) (by kernel_rfl) (by kernel_rfl) (by kernel_rfl) (fun _ _ _ h => h) (Or.inl ⟨by rfl, ?_⟩) hHeld ?_
    rotate_left
    · intro w' hSw
      (try dsimp only at hSw)
      go_simp
      try with_reducible rfl
    try simp only [Act.put, List.setIfInBounds_toArray, List.set_cons_zero, List.set_cons_succ]
    refine AnyS_plain (i := 10) (v := ?_) rfl (by kernel_rfl) (by kernel_rfl) (by kernel_rfl) (by kernel_rfl) (fun _ _ _ h => h) (Or.inl ⟨by rfl, ?_⟩) hHeld ?_
    rotate_left
    · intro w' hSw
      (try dsimp only at hSw)
      go_simp
      try with_reducible rfl
    try simp only [Act.put, List.setIfInBounds_toArray, List.set_cons_zero, List.set_cons_succ]
    refine AnyS_plain (i := 11) (v := ?_) rfl (by kernel_rfl) (by kernel_rfl) (by kernel_rfl) (by kernel_rfl) (fun _ _ _ h => h) (Or.inl ⟨by rfl, ?_⟩) hHeld ?_
    rotate_left
    · intro w' hSw
      (try dsimp only at hSw)
      go_simp
      try with_reducible rfl
    try simp only [Act.put, List.setIfInBounds_toArray, List.set_cons_zero, List.set_cons_succ]
    refine AnyS_take (i := 12) (v := ?_) rfl (by kernel_rfl) (by kernel_rfl) (by kernel_rfl) (by kernel_rfl) (by kernel_rfl) (fun _ _ _ h => h) (Or.inl ⟨by rfl, ?_⟩) hHeld ?_
    rotate_left
    · intro w' hSw
      (try dsimp only at hSw)
      go_simp
      try with_reducible rfl
    try simp only [Act.put, List.setIfInBounds_toArray, List.set_cons_zero, List.set_cons_succ]
    refine AnyS_plain (i := 13) (v := ?_) rfl (by kernel_rfl) (by kernel_rfl) (by kernel_rfl) (by kernel_rfl) (fun _ _ _ h => h) (Or.inl ⟨by rfl, ?_⟩) hHeld ?_
    rotate_left
    · intro w' hSw
      (try dsimp only at hSw)
      go_simp
      try with_reducible rfl
    try simp only [Act.put, List.setIfInBounds_toArray, List.set_cons_zero, List.set_cons_succ]
    refine AnyS_plain (i := 14) (v := ?_) rfl (by kernel_rfl) (by kernel_rfl) (by kernel_rfl) (by kernel_rfl) (fun _ _ _ h => h) (Or.inl ⟨by rfl, ?_⟩) hHeld ?_
    rotate_left
    · intro w' hSw
      (try dsimp only at hSw)
      go_simp
      try with_reducible rfl
    try simp only [Act.put, List.setIfInBounds_toArray, List.set_cons_zero, List.set_cons_succ]
    refine AnyS_step (i := 7) rfl (by kernel_rfl) rfl (fun K hK => ?_)
    go_simp
    refine hK.out _ _ (HKS.out _ S2 ((Upd.refl _ _).drew.alloc _)) (fun hHeld => ?_)
    clear hK K
    try simp only [Act.put, List.setIfInBounds_toArray, List.set_cons_zero, List.set_cons_succ]
    refine AnyS_step (i := 8) rfl (by kernel_rfl) rfl (fun K hK => ?_)
    refine wp_append _ _ _ _ (by rfl) 109 3 40 tyFields tyFields.src A1 l2.length c1 (fieldCells l2) S2 (.slice (some ⟨W.heap.size, 0, none⟩) 1 1) 1 [.string f.name, .string f.value, .bool false] (by rfl) (by rfl) (HROWQ.out 1) (HSRCQ.out 1) h63 hbb ?_
    intro A5 c5 w5 S5 hr5 hu5 ha5
    refine hK.out _ _ (HKS.out _ S5 (((Upd.refl _ _).drew.alloc _).trans hu5)) (fun hHeld => ?_)
    clear hK K
    try simp only [Act.put, List.setIfInBounds_toArray, List.set_cons_zero, List.set_cons_succ]
    refine AnyS_plain (i := 15) (v := ?_) rfl (by kernel_rfl) (by kernel_rfl) (by kernel_rfl) (by kernel_rfl) (fun _ _ _ h => h) (Or.inl ⟨by rfl, ?_⟩) hHeld ?_
    rotate_left
    · intro w' hSw
      (try dsimp only at hSw)
      go_simp
      try with_reducible rfl
    try simp only [Act.put, List.setIfInBounds_toArray, List.set_cons_zero, List.set_cons_succ]
    refine AnyS_plain (i := 16) (v := ?_) rfl (by kernel_rfl) (by kernel_rfl) (by kernel_rfl) (by kernel_rfl) (fun _ _ _ h => h) (Or.inl ⟨by rfl, ?_⟩) hHeld ?_
    rotate_left
    · intro w' hSw
      (try dsimp only at hSw)
      go_simp
      try with_reducible rfl
    try simp only [Act.put, List.setIfInBounds_toArray, List.set_cons_zero, List.set_cons_succ]
    refine AnyS_stepT (i := 17) rfl (by kernel_rfl) (by kernel_rfl) rfl (fun K hK => ?_)
    obtain ⟨q0, q1, qf0, qf1, -, -, -⟩ := hHeld
    go_simp
    refine hK.out _ _ ?_
    clear hK K
    try simp only [Act.put, List.setIfInBounds_toArray, List.set_cons_zero, List.set_cons_succ]
    refine AnyS_free (i := 18) (v := ?_) rfl (by kernel_rfl) (by kernel_rfl) (by kernel_rfl) (by kernel_rfl) (fun _ _ _ h => h) (Or.inl ⟨by rfl, ?_⟩) ?_
    rotate_left
    · intro w' hSw
      (try dsimp only at hSw)
      go_simp
      try with_reducible rfl
    try simp only [Act.put, List.setIfInBounds_toArray, List.set_cons_zero, List.set_cons_succ]
    refine AnyS_free (i := 19) (v := ?_) rfl (by kernel_rfl) (by kernel_rfl) (by kernel_rfl) (by kernel_rfl) (fun _ _ _ h => h) (Or.inl ⟨by rfl, ?_⟩) ?_
    rotate_left
    · intro w' hSw
      (try dsimp only at hSw)
      go_simp
      try with_reducible rfl
    try simp only [Act.put, List.setIfInBounds_toArray, List.set_cons_zero, List.set_cons_succ]
    refine AnyS_stepT (i := 20) rfl (by kernel_rfl) (by kernel_rfl) rfl (fun K hK => ?_)
    go_simp
    refine hK.out _ _ ?_
    clear hK K
    refine AnyS_done (by kernel_rfl) (NoPanic.normal ?_) _
    try simp only [Act.put, List.setIfInBounds_toArray, List.set_cons_zero, List.set_cons_succ]
    go_wp2
    have h5b : ∀ j, S5 j → j ≠ b := fun j hj => by
      rintro rfl
      rcases hu5.own _ hj with h | h
      · exact hn1 h
      · simp at h; omega
    go_end0
    refine ⟨rfl, fun k => k = b ∨ S5 k, ⟨A5, c5, S5, ?_, ?_, fun h => h5b b h rfl, fun k => Iff.rfl⟩, ?_⟩
    · rw [← HSUM.out, List.length_append]
      exact ((((HTW.out.drewN 1).alloc _).upd hu5 hn1).set 0 _).set 1 _
    · rw [fieldCells_append, List.length_append]
      exact hr5.loc fun j hj => (heap_set_other _ (h5b j hj)).trans (heap_set_other _ (h5b j hj))
    · have hSb := HB0.out
      refine Upd.setCell (p := ⟨b, 1, none⟩) (Upd.setCell (p := ⟨b, 0, none⟩) ?_ (.inl hSb) _) (.inl hSb) _
      refine HUW.out.trans ((((Upd.refl (or_ (one_ b) S2) W).drewN 1).alloc _).trans ((hu5.wider (R := or_ (one_ b) S2) (fun k h => .inr h)).holds ?_))
      rintro k (rfl | hk)
      · exact .inl (.inl rfl)
      · rcases hu5.own k hk with h | h
        · exact .inl (.inr h)
        · exact .inr h
  · rw [if_neg hle]
    go_enter Tryd.func71, Tryd.ntmps71
    go_wp2_with (first | (go_at_call 66; refine (HSZ.out _).mono ?_; rintro e w2 ⟨rfl, hb⟩; obtain ⟨hc1, hf1⟩ := bcell hb; have hz := hb.size; have HB := Lib.hid hb; clear hb) | (go_at_call 57; refine (HC.out w2 (fun k hk => (HB.out.block k (by have := HSLT.out k hk; simp; omega)).trans (Below.heap_alloc w _ k (HSLT.out k hk)))).mono ?_; rintro e w3 ⟨rfl, ⟨A1, c1, S2, hb1, hr1, hn1, hS1⟩, hu1⟩; have g0 := hb1.cell 0; have g1 := hb1.cell 1; have g2 := hb1.cell 2; have fb0 := hb1.frozen 0; have fb1 := hb1.frozen 1; have hlt3 := hb1.lt; simp only [List.getElem?_cons_succ, List.getElem?_cons_zero] at g0 g1 g2; have BX := (((Blk.new w 109 [.string f.name, .string f.value, .bool f.never]).below HB.out (by simp)).upd hu1 (fun h => by have := HSLT.out _ h; omega)); have x0 := BX.cell 0; have x1 := BX.cell 1; have x2 := BX.cell 2; have y0 := BX.frozen 0; have y1 := BX.frozen 1; have y2 := BX.frozen 2; simp only [List.getElem?_cons_succ, List.getElem?_cons_zero] at x0 x1 x2; have HB1 := Lib.hid hb1; have HR1 := Lib.hid hr1; have HU1 := Lib.hid hu1; have HN1 := Lib.hid hn1; have HS1 := Lib.hid hS1; have HBX := Lib.hid BX; clear hb1 hr1 hu1 hn1 hS1 BX hc1 hf1))
    go_end0
    exact ⟨rfl, S, ⟨A1, c1, S2, HB1.out, HR1.out, HN1.out, HS1.out⟩, HUP.out _ _ HB.out HU1.out⟩
end Go.Proofs.YthmfifcogokpoaaDoor
namespace Go.Proofs
open Go.Shelf
def Tryd.lays145_ren : Go.Shelf.Ren := ⟨fun | 145 => 82 | 220 => 85 | 219 => 89 | 217 => 93 | 225 => 94 | 224 => 95 | 267 => 96 | 266 => 98 | 314 => 99 | n => n, fun | 9 => 9 | 4 => 4 | 59 => 145 | 3 => 3 | 5 => 5 | 46 => 80 | 146 => 155 | 51 => 154 | n => n, fun | 1 => 0 | n => n⟩
theorem Tryd.lays145 : Go.Proofs.Lays.n145 Tryd.prog Tryd.lays145_ren := {
  mixed := by kernel_rfl
  f145 := Tryd.func82.trans (congrArg some (by kernel_rfl))
  f217 := Tryd.func93.trans (congrArg some (by kernel_rfl))
  f219 := Tryd.func89.trans (congrArg some (by kernel_rfl))
  f220 := Tryd.func85.trans (congrArg some (by kernel_rfl))
  f224 := Tryd.func95.trans (congrArg some (by kernel_rfl))
  f225 := Tryd.func94.trans (congrArg some (by kernel_rfl))
  f266 := Tryd.func98.trans (congrArg some (by kernel_rfl))
  f267 := Tryd.func96.trans (congrArg some (by kernel_rfl))
  f314 := Tryd.func99.trans (congrArg some (by kernel_rfl))
  t3 := Tryd.underlying3
  a3 := Tryd.isAgg3
  z3 := Tryd.sizeOf3
  v3 := Tryd.zeroValue3
  t4 := Tryd.underlying4
  a4 := Tryd.isAgg4
  z4 := Tryd.sizeOf4
  v4 := Tryd.zeroValue4
  t5 := Tryd.underlying5
  a5 := Tryd.isAgg5
  z5 := Tryd.sizeOf5
  v5 := Tryd.zeroValue5
  t9 := Tryd.underlying9
  a9 := Tryd.isAgg9
  z9 := Tryd.sizeOf9
  v9 := Tryd.zeroValue9
  t46 := Tryd.underlying80
  a46 := Tryd.isAgg80
  z46 := Tryd.sizeOf80
  v46 := Tryd.zeroValue80
  t51 := Tryd.underlying154
  a51 := Tryd.isAgg154
  z51 := Tryd.sizeOf154
  v51 := Tryd.zeroValue154
  t59 := Tryd.underlying145
  a59 := Tryd.isAgg145
  z59 := Tryd.sizeOf145
  v59 := Tryd.zeroValue145
  t146 := Tryd.underlying155
  a146 := Tryd.isAgg155
  z146 := Tryd.sizeOf155
  v146 := Tryd.zeroValue155
  g1 := by kernel_rfl }
open Go.RowKit Go.Lib in
/-- strings.Cut: "Cut slices s around the first instance of sep, returning the text before and after sep. The found result reports whether sep appears in s. If sep does not appear in s, cut returns s, "", false.": IT RETURNS 'Lib.cut s sep'; the world is as it was but for the count of draws. (LAID: no walk: one application.) -/
theorem Tryd.strings_Cut (s sep : ByteArray) (m : Int) (w : World) (hs : s.size < 4294967281) (hm : w.cell? ⟨0, 0, none⟩ = some (.int .i64 m)) :
    Calls Tryd.prog 82 #[.string s, .string sep] w fun e w' => e = .returned (.tuple #[.string ⟨(Lib.cut s.data.toList sep.data.toList).1.toArray⟩, .string ⟨(Lib.cut s.data.toList sep.data.toList).2.1.toArray⟩, .bool (Lib.cut s.data.toList sep.data.toList).2.2]) ∧ ∃ n, w' = w.drewN n := Any.strings_Cut Tryd.lays145 s sep m w hs hm
def Tryd.lays146_ren : Go.Shelf.Ren := ⟨fun | 146 => 80 | 221 => 83 | 268 => 86 | 138 => 87 | 143 => 88 | 195 => 90 | 197 => 91 | 218 => 92 | 219 => 89 | 260 => 97 | 217 => 93 | 225 => 94 | 224 => 95 | 267 => 96 | 266 => 98 | 314 => 99 | n => n, fun | 9 => 9 | 31 => 137 | 3 => 3 | 4 => 4 | 0 => 0 | 105 => 151 | 21 => 21 | 5 => 5 | 46 => 80 | 119 => 157 | 139 => 160 | 138 => 159 | 146 => 155 | 51 => 154 | n => n, fun | 1 => 0 | 3 => 1 | 4 => 2 | n => n⟩
theorem Tryd.lays146 : Go.Proofs.Lays.n146 Tryd.prog Tryd.lays146_ren := {
  mixed := by kernel_rfl
  f138 := Tryd.func87.trans (congrArg some (by kernel_rfl))
  f143 := Tryd.func88.trans (congrArg some (by kernel_rfl))
  f146 := Tryd.func80.trans (congrArg some (by kernel_rfl))
  f195 := Tryd.func90.trans (congrArg some (by kernel_rfl))
  f197 := Tryd.func91.trans (congrArg some (by kernel_rfl))
  f217 := Tryd.func93.trans (congrArg some (by kernel_rfl))
  f218 := Tryd.func92.trans (congrArg some (by kernel_rfl))
  f219 := Tryd.func89.trans (congrArg some (by kernel_rfl))
  f221 := Tryd.func83.trans (congrArg some (by kernel_rfl))
  f224 := Tryd.func95.trans (congrArg some (by kernel_rfl))
  f225 := Tryd.func94.trans (congrArg some (by kernel_rfl))
  f260 := Tryd.func97.trans (congrArg some (by kernel_rfl))
  f266 := Tryd.func98.trans (congrArg some (by kernel_rfl))
  f267 := Tryd.func96.trans (congrArg some (by kernel_rfl))
  f268 := Tryd.func86.trans (congrArg some (by kernel_rfl))
  f314 := Tryd.func99.trans (congrArg some (by kernel_rfl))
  t0 := Tryd.underlying0
  a0 := Tryd.isAgg0
  z0 := Tryd.sizeOf0
  v0 := Tryd.zeroValue0
  t3 := Tryd.underlying3
  a3 := Tryd.isAgg3
  z3 := Tryd.sizeOf3
  v3 := Tryd.zeroValue3
  t4 := Tryd.underlying4
  a4 := Tryd.isAgg4
  z4 := Tryd.sizeOf4
  v4 := Tryd.zeroValue4
  t5 := Tryd.underlying5
  a5 := Tryd.isAgg5
  z5 := Tryd.sizeOf5
  v5 := Tryd.zeroValue5
  t9 := Tryd.underlying9
  a9 := Tryd.isAgg9
  z9 := Tryd.sizeOf9
  v9 := Tryd.zeroValue9
  t21 := Tryd.underlying21
  a21 := Tryd.isAgg21
  z21 := Tryd.sizeOf21
  v21 := Tryd.zeroValue21
  t31 := Tryd.underlying137
  a31 := Tryd.isAgg137
  z31 := Tryd.sizeOf137
  v31 := Tryd.zeroValue137
  t46 := Tryd.underlying80
  a46 := Tryd.isAgg80
  z46 := Tryd.sizeOf80
  v46 := Tryd.zeroValue80
  t51 := Tryd.underlying154
  a51 := Tryd.isAgg154
  z51 := Tryd.sizeOf154
  v51 := Tryd.zeroValue154
  t105 := Tryd.underlying151
  a105 := Tryd.isAgg151
  z105 := Tryd.sizeOf151
  v105 := Tryd.zeroValue151
  t119 := Tryd.underlying157
  a119 := Tryd.isAgg157
  z119 := Tryd.sizeOf157
  t138 := Tryd.underlying159
  a138 := Tryd.isAgg159
  z138 := Tryd.sizeOf159
  v138 := Tryd.zeroValue159
  t139 := Tryd.underlying160
  a139 := Tryd.isAgg160
  z139 := Tryd.sizeOf160
  v139 := Tryd.zeroValue160
  t146 := Tryd.underlying155
  a146 := Tryd.isAgg155
  z146 := Tryd.sizeOf155
  v146 := Tryd.zeroValue155
  g1 := by kernel_rfl
  g3 := by kernel_rfl
  g4 := by kernel_rfl }
open Go.RowKit Go.Lib in
/-- strings.Split. (LAID: no walk: one application.) -/
theorem Tryd.strings_Split (s sep : ByteArray) (m : Int) (w : World) (hs : s.size < 4294967281) (hm : w.cell? ⟨0, 0, none⟩ = some (.int .i64 m)) (h1 : 1 ≤ sep.size) :
    Calls Tryd.prog 80 #[.string s, .string sep] w fun e w' =>
      e = .returned (.slice (some ⟨w.heap.size, 0, none⟩) (Lib.countB s sep + 1) (Lib.countB s sep + 1)) ∧ w' = w.alloc (.cells ((Lib.splitB sep 0 (Lib.countB s sep) s).map Value.string).toArray 9) := Any.strings_Split Tryd.lays146 (by kernel_rfl) s sep m w hs hm h1
end Go.Proofs
namespace Go.Proofs.YthmfifcogokpoaaDoor
open Go.RowKit

/-- The library's variable that Split and Cut read. -/
def GlobOk (w : World) : Prop := ∃ m, w.cell? ⟨0, 0, none⟩ = some (.int .i64 m)
theorem GlobOk.below {B : Nat} {w w' : World} (h : GlobOk w) (hb : Below B w w') (hB : 0 < B) : GlobOk w' := by
  obtain ⟨m, h⟩ := h
  exact ⟨m, (hb.cell (p := ⟨0, 0, none⟩) hB).trans h⟩
theorem GlobOk.pos {w : World} (h : GlobOk w) : 0 < w.heap.size := by
  obtain ⟨m, h⟩ := h
  exact World.block_lt_of_cell? _ _ h

def splitF (s : ByteArray) : FieldS := ⟨⟨(Lib.cut s.data.toList [32]).1.toArray⟩, ⟨(Lib.cut s.data.toList [32]).2.1.toArray⟩, false⟩

set_option maxRecDepth 100000 in
theorem statSplit_any (s : ByteArray) (hs : s.size < 4294967281) (w : World) (hg : GlobOk w) :
    Calls Tryd.prog 79 #[.string s] w fun e w' => e = .returned (splitF s).v ∧ Below w.heap.size w w' := by
  have hp := hg.pos
  obtain ⟨m, hm⟩ := hg
  have hm2 : ∀ o, (w.alloc o).cell? ⟨0, 0, none⟩ = some (.int .i64 m) := fun o => (World.cell?_alloc_lt w o _ hp).trans hm
  have HC := Lib.hid (fun o => Tryd.strings_Cut s ⟨#[32]⟩ m (w.alloc o) hs (hm2 o))
  unfold splitF FieldS.v
  simp only [List.toList_toArray] at HC
  generalize Lib.cut s.data.toList [32] = r at *
  clear hm2
  go_enter Tryd.func79, Tryd.ntmps79
  go_wp2_with (go_at_call 82; refine (HC.out _).mono ?_; rintro e w' ⟨rfl, nq, rfl⟩)
  exact bodyPost_ret (v := .agg #[.string ⟨r.1.toArray⟩, .string ⟨r.2.1.toArray⟩, .bool false]) (by simp [results, Tryd.results79, go_sem]) rfl ⟨rfl, by (focus repeat' (first | (with_reducible exact Below.refl _ _) | (with_reducible assumption) | (with_reducible refine Below.alloc ?_ ?_ _) | (with_reducible refine Below.drew ?_) | (with_reducible refine below_drewN ?_ _) | (with_reducible refine Below.setCell ?_ ?_ _) | (with_reducible refine Below.frame ?_ _) | go_size))⟩

/-- The first string that a body hands to a call. -/
def opStr (o : Oper) : Option ByteArray := match o.op with
  | .call c => match (c.args.toList.head? : Option Operand) with
    | some (Operand.const (Value.string s)) => some s
    | _ => none
  | _ => none
def codeStr : Code → Option ByteArray
  | .seq a b => match codeStr a with
    | some s => some s
    | none => codeStr b
  | .region _ ops _ => (ops.toList.filterMap opStr).head?
  | .cond _ a b => match codeStr a with
    | some s => some s
    | none => codeStr b
  | .block _ c => codeStr c
  | _ => none
noncomputable def knownB : ByteArray := (Tryd.f75.body.bind codeStr).getD ByteArray.empty
def barB : ByteArray := ⟨#[124]⟩
/-- The static table's texts. -/
noncomputable def tabS : List ByteArray := Lib.splitB barB 0 (Lib.countB knownB barB) knownB
theorem known_size : knownB.size < 4294967281 := by decide +kernel
theorem known_count : Lib.countB knownB barB = 60 := by decide +kernel
theorem tabS_len : tabS.length = 61 := by
  unfold tabS
  rw [Lib.splitB_all barB (by decide) 0 (Lib.countB knownB barB) knownB rfl, known_count]
theorem splitB_small (sep : ByteArray) : ∀ (k : Nat) (s : ByteArray), ∀ x ∈ Lib.splitB sep 0 k s, x.size ≤ s.size
  | 0, s, x, hx => by rw [Lib.splitB_zero, List.mem_singleton] at hx; rw [hx]; exact Nat.le_refl _
  | k + 1, s, x, hx => by
    simp only [Lib.splitB] at hx
    split at hx
    · rw [List.mem_singleton] at hx; rw [hx]; exact Nat.le_refl _
    · rcases List.mem_cons.1 hx with rfl | h
      · rw [ByteArray.size_extract]; omega
      · have := splitB_small sep k _ x h
        rw [ByteArray.size_extract] at this
        omega
theorem known_small : knownB.size ≤ 2000 := by decide +kernel
theorem tabS_small : ∀ x ∈ tabS, x.size ≤ 2000 := fun x hx => Nat.le_trans (splitB_small _ _ _ x hx) known_small
theorem splitF_ok (s : ByteArray) (h : s.size ≤ 100000000) : (splitF s).Ok := by
  have hl : s.data.toList.length = s.size := by simp
  have h1 : (Lib.cut s.data.toList [32]).1.length ≤ s.size ∧ (Lib.cut s.data.toList [32]).2.1.length ≤ s.size := by
    unfold Lib.cut
    split
    · simp only [List.length_take, List.length_drop]; omega
    · simp only [List.length_nil]; omega
  refine ⟨?_, ?_⟩
  · show (Lib.cut s.data.toList [32]).1.toArray.size ≤ _
    rw [List.size_toArray]; omega
  · show (Lib.cut s.data.toList [32]).2.1.toArray.size ≤ _
    rw [List.size_toArray]; omega
noncomputable def statGet (i : Int) : FieldS × Bool := if i < 1 ∨ 61 < i then (noField, false) else (splitF (tabS.getD (i.toNat - 1) ByteArray.empty), true)

theorem statCall (s : ByteArray) (hk : knownB = s) (w : World) (hg : GlobOk w) :
    Calls Tryd.prog 80 #[.string s, .string ⟨#[124]⟩] w fun e w' => e = .returned (.slice (some ⟨w.heap.size, 0, none⟩) 61 61) ∧ w' = w.alloc (.cells (tabS.map Value.string).toArray 9) := by
  subst hk
  obtain ⟨m, hm⟩ := hg
  refine (Tryd.strings_Split knownB barB m w known_size hm (by decide)).mono ?_
  rintro e w' ⟨rfl, rfl⟩
  rw [known_count]
  exact ⟨rfl, by unfold tabS; rw [known_count]⟩

set_option maxRecDepth 100000 in
set_option maxHeartbeats 1000000 in
theorem statGet_any (i : Int) (w : World) (hg : GlobOk w) :
    Calls Tryd.prog 75 #[.int .i64 i] w fun e w' => e = .returned (.tuple #[(statGet i).1.v, .bool (statGet i).2]) ∧ Below w.heap.size w w' := by
  have hp := hg.pos
  unfold statGet
  by_cases hb : i < 1 ∨ 61 < i
  · rw [if_pos hb]
    rcases hb with hb | hb
    · go_enter Tryd.func75, Tryd.ntmps75
      go_wp2
      exact bodyPost_ret (v := .tuple #[noField.v, .bool false]) (by (simp [results, Tryd.results75, go_sem, noField, FieldS.v]; try rfl)) rfl ⟨rfl, by (focus repeat' (first | (with_reducible exact Below.refl _ _) | (with_reducible assumption) | (with_reducible refine Below.alloc ?_ ?_ _) | (with_reducible refine Below.drew ?_) | (with_reducible refine below_drewN ?_ _) | (with_reducible refine Below.setCell ?_ ?_ _) | (with_reducible refine Below.frame ?_ _) | go_size))⟩
    · have hb2 : ¬ i < 1 := by omega
      go_enter Tryd.func75, Tryd.ntmps75
      go_wp2
      exact bodyPost_ret (v := .tuple #[noField.v, .bool false]) (by (simp [results, Tryd.results75, go_sem, noField, FieldS.v]; try rfl)) rfl ⟨rfl, by (focus repeat' (first | (with_reducible exact Below.refl _ _) | (with_reducible assumption) | (with_reducible refine Below.alloc ?_ ?_ _) | (with_reducible refine Below.drew ?_) | (with_reducible refine below_drewN ?_ _) | (with_reducible refine Below.setCell ?_ ?_ _) | (with_reducible refine Below.frame ?_ _) | go_size))⟩
  · rw [if_neg hb]
    obtain ⟨n, rfl⟩ := Int.eq_ofNat_of_zero_le (show 0 ≤ i by omega)
    rw [Int.toNat_natCast]
    have hkl : n - 1 < tabS.length := by rw [tabS_len]; omega
    have hx : tabS.getD (n - 1) ByteArray.empty = tabS[n - 1] := by rw [List.getD_eq_getElem?_getD, List.getElem?_eq_getElem hkl]; rfl
    have hsm := tabS_small _ (List.getElem_mem hkl)
    have hcell : (tabS.map Value.string)[n - 1]? = some (.string tabS[n - 1]) := by rw [List.getElem?_map, List.getElem?_eq_getElem hkl]; rfl
    rw [hx]
    have t1 : ¬ (n : Int) < 1 := by omega
    have t2 : ¬ (61 : Int) < (n : Int) := by omega
    have t3 : ¬ 61 < n := by omega
    have j1 : (n : Int) - 1 < 61 := by omega
    have j0 : (0 : Int) ≤ (n : Int) - 1 := by omega
    have hn1 : ((n : Int) - 1).toNat = n - 1 := by omega
    generalize hT : tabS.map Value.string = T at *
    have HT := Lib.hid hT
    generalize tabS[n - 1] = s at *
    have HG := Lib.hid (fun (o : Obj) => hg.below ((Below.refl w.heap.size w).alloc (Nat.le_refl _) o) hp)
    have HG2 := Lib.hid (fun (o o2 : Obj) => hg.below (((Below.refl w.heap.size w).alloc (Nat.le_refl _) o).alloc (by simp) o2) hp)
    clear hb hT hx hkl
    have hsz : s.size < 4294967281 := by omega
    have HSP := Lib.hid (fun W hg => statSplit_any s hsz W hg)
    unfold FieldS.v at HSP ⊢
    generalize splitF s = f at *
    go_enter Tryd.func75, Tryd.ntmps75
    go_wp2_with (first | (go_at_call 80; refine (statCall _ (by kernel_rfl) _ (HG.out _)).mono ?_; rintro e w' ⟨rfl, rfl⟩; rw [HT.out]) | (go_at_call 79; refine (HSP.out _ (HG2.out _ _)).mono ?_; rintro e w' ⟨rfl, hb⟩; obtain ⟨hc1, hf1⟩ := bcell hb; have hz := hb.size; replace hb : Below w.heap.size w w' := bcall hb (by (focus repeat' (first | (with_reducible exact Below.refl _ _) | (with_reducible assumption) | (with_reducible refine Below.alloc ?_ ?_ _) | (with_reducible refine Below.drew ?_) | (with_reducible refine below_drewN ?_ _) | (with_reducible refine Below.setCell ?_ ?_ _) | (with_reducible refine Below.frame ?_ _) | go_size)))))
    have RB := (Blk.new w 109 [.string ⟨#[]⟩, .string ⟨#[]⟩, .bool false]).alloc (.cells T.toArray 9)
    have r0 := (hc1 w.heap.size 0 (by simp; omega)).trans (RB.cell 0)
    have r1 := (hc1 w.heap.size 1 (by simp; omega)).trans (RB.cell 1)
    have r2 := (hc1 w.heap.size 2 (by simp; omega)).trans (RB.cell 2)
    simp only [List.getElem?_cons_succ, List.getElem?_cons_zero] at r0 r1 r2
    exact bodyPost_ret (v := .tuple #[.agg #[.string f.name, .string f.value, .bool f.never], .bool true]) (by (simp [results, Tryd.results75, go_sem, r0, r1, r2]; try omega)) rfl ⟨rfl, by (focus repeat' (first | (with_reducible exact Below.refl _ _) | (with_reducible assumption) | (with_reducible refine Below.alloc ?_ ?_ _) | (with_reducible refine Below.drew ?_) | (with_reducible refine below_drewN ?_ _) | (with_reducible refine Below.setCell ?_ ?_ _) | (with_reducible refine Below.frame ?_ _) | go_size))⟩
theorem statGet_ok (i : Int) : (statGet i).1.Ok := by
  unfold statGet
  split
  · exact ⟨Nat.zero_le _, Nat.zero_le _⟩
  · refine splitF_ok _ ?_
    rw [List.getD_eq_getElem?_getD]
    cases h : tabS[i.toNat - 1]? with
    | none => exact Nat.zero_le _
    | some x => have := tabS_small x (List.mem_of_getElem? h); simp only [Option.getD_some]; omega
end Go.Proofs.YthmfifcogokpoaaDoor
