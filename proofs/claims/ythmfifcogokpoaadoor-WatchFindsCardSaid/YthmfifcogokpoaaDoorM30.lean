/- What is proved here: contracts of the program's functions and plain lemmas that the claim's last text uses, in parts: WatchBlind's plain law; WatchBlind answers true; append onto a slice that has no room: it is only read; WatchBlind answers true, its other half; whole; from a call's contract to a row: what the rows of this seat share. -/
import Derived.Test.YthmfifcogokpoaaDoorM29
import Derived.Test.YthmfifcogokpoaaDoorM02
import Derived.Lib.SlBytesConst
import Derived.Test.YthmfifcogokpoaaDoorTie
import Derived.Test.YthmfifcogokpoaaDoorCards
import Derived.ProofKit
import Derived.OpenShut
import Derived.LaidMore
import Derived.Lay
import Derived.SevenTiedAt
import Derived.Stop.Joined
import Derived.Shelf.Vars
set_option linter.unusedVariables false
set_option linter.unusedSimpArgs false
namespace Go.Proofs.YthmfifcogokpoaaDoor
open Go.RowKit

/-- Behind the client's beginning. -/
def sA : WatchS := { headS with waits := [[]] }
theorem in_hello : inS newS (pref ++ putB setF) = sA := by
  have h := inS_put (s := headS) rfl rfl rfl rfl setF set_fits (by decide) []
  rw [List.append_nil] at h
  rw [inS_pref, h, hears_set, inS_nil rfl rfl]
  rfl
def sB : WatchS := { sA with frames := 1 }
theorem out_hello : outS sA (putB setF) = sB := by
  have h := outS_put (s := sA) rfl rfl rfl setF set_fits (by decide) []
  rw [List.append_nil, right_set rfl] at h
  rw [h, outS_nil rfl]
  rfl
theorem sA_ok : WOk 100 sA := ⟨by simp [sA, headS, newS], by simp [sA, headS, newS], by simp [sA, headS, newS], by simp [sA, headS, newS], by simp [sA, headS, newS], by simp [sA, headS, newS], by simp [sA, headS, newS, W], by simp [sA, headS, newS, firstS]⟩
theorem sB_ok : WOk 100 sB := ⟨by simp [sB, sA, headS, newS], by simp [sB, sA, headS, newS], by simp [sB, sA, headS, newS], by simp [sB, sA, headS, newS], by simp [sB, sA, headS, newS], by simp [sB, sA, headS, newS], by simp [sB, sA, headS, newS, W], by simp [sB, sA, headS, newS, firstS]⟩
/-- Bytes that are no frame. -/
def wild : List UInt8 := [255, 255, 255, 0, 0, 0, 0, 0, 0]
def sC : WatchS := { sB with inB := wild, deaf := true }
theorem in_wild : inS sB wild = sC := by
  rw [inS_run, takeS_full rfl]
  exact runIn_long rfl rfl (by decide) (by decide)
theorem sC_ok : WOk 200 sC := (in_wild ▸ inS_ok sB_ok wild).more (by decide)
def askF (n : Nat) : FrameS := ⟨1, 4, n, [130]⟩
def headF (n : Nat) : FrameS := ⟨1, 4, n, [136]⟩
theorem ask_fits (n : Nat) (h : n ≤ 2147483647) : (askF n).Fits := ⟨by simp [askF], by simp [askF], h, by simp [askF]⟩
theorem head_fits (n : Nat) (h : n ≤ 2147483647) : (headF n).Fits := ⟨by simp [headF], by simp [headF], h, by simp [headF]⟩
def sD : WatchS := { sC with inB := wild ++ putB (askF 1) }
theorem in_deaf : inS sC (putB (askF 1)) = sD := by
  rw [inS_stop (.inl rfl), takeS_full rfl]
  rfl
theorem sD_ok : WOk 300 sD := (in_deaf ▸ inS_ok sC_ok (putB (askF 1))).more (by decide)
theorem read_head (n : Nat) (h : n ≠ 0) : readS (headF n) = ({ noPart with data := [136], whole := true }, noFault) := by
  simp [readS, headF, bodiedS, h, bodPrio, bodRest, bodPart, noPart]
theorem right_unknown {s : WatchS} (n : Nat) (h : n ≠ 0) (hf : s.frames ≠ 0) (hg : s.gone = false) (hl : liveS s n = none) : rightS s (headF n) = (false, s) := by
  unfold rightS
  rw [read_head n h, hg]
  simp only [hf, noFault, false_and, false_or, Bool.false_eq_true, if_false]
  rw [if_neg (by simp [headF]), if_pos (by rfl)]
  simp only [if_true]
  unfold answersS
  rw [show (headF n).stream = n from rfl, hl]
def sE : WatchS := { sD with bad := true }
theorem out_deaf : outS sD (putB (headF 1)) = sE := by
  have h := outS_put (s := sD) rfl rfl rfl (headF 1) (head_fits 1 (by decide)) (by decide) []
  rw [List.append_nil, right_unknown 1 (by decide) (by decide) rfl rfl] at h
  rw [h, outS_nil rfl]
  rfl
/-! ### A grant -/
def updF (n step : Nat) : FrameS := ⟨8, 0, n, numB step 4⟩
theorem upd_fits (n step : Nat) (h : n ≤ 2147483647) : (updF n step).Fits := ⟨by simp [updF], by simp [updF], h, by simp [updF, numB_length]⟩
theorem read_upd (n step : Nat) (h1 : 1 ≤ step) (h2 : step ≤ 2147483647) : readS (updF n step) = ({ noPart with step := step }, noFault) := by
  have e : num4 (numB step 4) = step := by have := numB_get4 step (by omega) []; rwa [List.append_nil] at this
  have h0 : step ≠ 0 := by omega
  simp [readS, updF, updateS, numB_length, e, and31_id _ h2, h0]
theorem hears_upd (s : WatchS) (n step : Nat) (h1 : 1 ≤ step) (h2 : step ≤ 2147483647) : hearsS s (updF n step) = grantedS s n step := by
  unfold hearsS
  rw [read_upd n step h1 h2]
  simp [updF, noFault]
def sF (step : Nat) : WatchS := if 2147483647 < 65535 + (step : Int) then { sB with window := 0, blind := true } else { sB with window := 65535 + step }
theorem in_grant (step : Nat) (h1 : 1 ≤ step) (h2 : step ≤ 2147483647) : inS sB (putB (updF 0 step)) = sF step := by
  have h := inS_put (s := sB) rfl rfl rfl rfl (updF 0 step) (upd_fits 0 step (by decide)) (by simp [updF, numB_length]) []
  have e1 : cutW 0 = 0 := by decide
  have e2 : cutW sB.window = 65535 := by decide
  have hg : grantedS sB 0 step = sF step := by
    unfold grantedS sF
    rw [if_pos rfl, e1, e2]
    unfold grantS
    split
    · omega
    · split
      · rfl
      · split
        · omega
        · rfl
  rw [List.append_nil, hears_upd _ _ _ h1 h2, hg] at h
  rw [h]
  refine inS_nil ?_ ?_
  · unfold sF; split <;> rfl
  · unfold sF; split <;> rfl
theorem sF_ok (step : Nat) (h1 : 1 ≤ step) (h2 : step ≤ 2147483647) : WOk 300 (sF step) := (in_grant step h1 h2 ▸ inS_ok sB_ok (putB (updF 0 step))).more (by rw [putB_length]; simp [updF, numB_length])
def sG (step : Nat) : WatchS := if 2147483647 < 65535 + (step : Int) then { sB with window := 0, blind := true, outB := putB pushF } else { sB with window := 65535 + step, bad := true }
theorem out_grant (step : Nat) : outS (sF step) (putB pushF) = sG step := by
  unfold sF sG
  split
  · rw [outS_stop (.inr rfl)]
    rfl
  · have h := outS_put (s := { sB with window := 65535 + step }) rfl rfl rfl pushF push_fits (by decide) []
    rw [List.append_nil, right_push] at h
    rw [h, outS_nil rfl]
    rfl
theorem sF_live (step : Nat) : (sF step).dead = false ∧ (sG step).frames = 1 ∧ (sG step).bad = decide (65535 + (step : Int) ≤ 2147483647) := by
  unfold sF sG
  split
  · refine ⟨rfl, rfl, ?_⟩
    rw [decide_eq_false (by omega)]
    rfl
  · refine ⟨rfl, rfl, ?_⟩
    rw [decide_eq_true (by omega)]
end Go.Proofs.YthmfifcogokpoaaDoor
namespace Go.Proofs.YthmfifcogokpoaaDoor
open Go.RowKit

theorem frames_blk (l : FrL) {W : World} {g : Nat} (hb : Blk W g 29 (frCells l)) (hlen : l.length ≤ 100) (hf : ∀ x ∈ l, x.1.Fits ∧ Rd W 1 x.2.1 x.1.body.length x.2.2 (bys x.1.body) ∧ ∀ k, blockOf x.2.1 = some k → k < W.heap.size) (htot : (allB (l.map (·.1))).length ≤ 1000000000) :
    Calls Tryd.prog 10 #[.slice (some ⟨g, 0, none⟩) l.length l.length] W (OwnQ (allB (l.map (·.1))) W) :=
  frames_law l (some ⟨g, 0, none⟩) l.length W (Row.made (e := 29) (cs := frCells l) hb (Nat.le_refl _) (by simp only [maxLen]; omega) (by rw [frCells_length]; exact Nat.le_refl _) (by rw [← frCells_length, List.take_length])).rd hf htot
theorem frames_one (f : FrameS) (hf : f.Fits) (W : World) {A : Option Addr} {c : Nat} {S1 : Own} (hr : Row 5 1 A f.body.length c (bys f.body) S1 W) (g : Nat) (hg : g = W.heap.size) :
    Calls Tryd.prog 10 #[.slice (some ⟨g, 0, none⟩) 1 1] (W.alloc (.cells #[.int .i64 f.kind, .int .i64 f.flags, .int .i64 f.stream, .slice A f.body.length c] 29)) (OwnQ (putB f) (W.alloc (.cells #[.int .i64 f.kind, .int .i64 f.flags, .int .i64 f.stream, .slice A f.body.length c] 29))) := by
  subst hg
  have hb := hf.body
  have h := frames_blk [(f, A, c)] (W := W.alloc (.cells #[.int .i64 f.kind, .int .i64 f.flags, .int .i64 f.stream, .slice A f.body.length c] 29)) (g := W.heap.size) (Blk.new W _ [.int .i64 f.kind, .int .i64 f.flags, .int .i64 f.stream, .slice A f.body.length c]) (by simp) (fun x hx => by
    rw [List.mem_singleton] at hx
    subst hx
    exact ⟨hf, hr.rd.alloc (by omega) _, fun k hk => by have := hr.lt k (hr.block k hk); simp; omega⟩) (by simp [allB, putB_length]; omega)
  simpa [allB] using h

/-- The state of a walk that holds one Watch. -/
structure Hold (w W : World) (b : Nat) (s : WatchS) (S : Own) : Prop where
  at_ : HAt W b s S
  upd : Upd none_ S w W
theorem Hold.fresh {w W W' : World} {b : Nat} {s : WatchS} {S T : Own} (h : Hold w W b s S) (hu : Upd none_ T W W') : Hold w W' b s S :=
  ⟨h.at_.upd hu, h.upd.trans ((hu.wider (R := S) (fun _ h => h.elim)).holds fun k hk => .inl hk)⟩
theorem Hold.below {w W W' : World} {b : Nat} {s : WatchS} {S : Own} (h : Hold w W b s S) (hb : Below W.heap.size W W') : Hold w W' b s S := h.fresh (T := none_) (Upd.of_below hb fun _ h => h.elim)
theorem Hold.alloc {w W : World} {b : Nat} {s : WatchS} {S : Own} (h : Hold w W b s S) (o : Obj) : Hold w (W.alloc o) b s S := h.below ((Below.refl _ _).alloc (Nat.le_refl _) o)
theorem Hold.drew {w W : World} {b : Nat} {s : WatchS} {S : Own} (h : Hold w W b s S) : Hold w W.drew b s S := h.below (Below.refl _ _).drew
theorem Hold.turn {w W W' : World} {b : Nat} {s s' : WatchS} {S S' : Own} (h : Hold w W b s S) (h2 : HAt W' b s' S') (hu : Upd S S' W W') : Hold w W' b s' S' := ⟨h2, h.upd.trans hu⟩
theorem Hold.glob {w W : World} {b : Nat} {s : WatchS} {S : Own} (h : Hold w W b s S) : GlobOk W := h.at_.glob
theorem Hold.end_ {w W : World} {b : Nat} {s : WatchS} {S : Own} (h : Hold w W b s S) : Below w.heap.size w W := h.upd.below (fun _ h => h.elim) (Nat.le_refl _)

noncomputable def blBody : Code := Tryd.f4.body.getD .skip
def TrueQ (w : World) (e : Ending) (w' : World) : Prop := e = .returned (.bool true) ∧ Below w.heap.size w w'
abbrev BlP (w : World) : Exit → Act → World → Prop := bodyPost Tryd.prog Tryd.f4 (TrueQ w)

set_option maxRecDepth 100000 in
set_option maxHeartbeats 1000000 in
theorem bl_deaf (w W : World) (b : Nat) (S : Own) (h : Hold w W b sB S) (u1 u2 u3 u4 u6 u8 u9 u10 u11 u12 u13 u14 u15 u16 u17 u18 u19 u20 u21 u22 u23 u24 u25 u26 u27 u28 u29 u30 u31 u32 u33 u34 u35 u36 u37 u38 u39 u40 u41 u42 u43 u44 u45 u46 u47 u48 u49 u50 u51 u52 u53 u54 u55 u56 u57 u58 u59 u60 u61 u62 u63 u64 u65 u66 u67 u68 u69 u70 u71 u72 u73 u74 u75 u76 u77 u78 u79 u80 u81 u82 u83 u84 u85 u86 u87 u88 u89 u90 u91 u92 u93 u94 u95 u96 u97 u98 u99 u100 u101 u102 : Value) :
    tailW Tryd.prog 7 blBody (BlP w) ⟨#[.bool true, u1, u2, u3, u4, .pointer (some ⟨b, 0, none⟩), u6, .int .i64 0, u8, u9, u10, u11, u12, u13, u14, u15, u16, u17, u18, u19, u20, u21, u22, u23, u24, u25, u26, u27, u28, u29, u30, u31, u32, u33, u34, u35, u36, u37, u38, u39, u40, u41, u42, u43, u44, u45, u46, u47, u48, u49, u50, u51, u52, u53, u54, u55, u56, u57, u58, u59, u60, u61, u62, u63, u64, u65, u66, u67, u68, u69, u70, u71, u72, u73, u74, u75, u76, u77, u78, u79, u80, u81, u82, u83, u84, u85, u86, u87, u88, u89, u90, u91, u92, u93, u94, u95, u96, u97, u98, u99, u100, u101, u102], []⟩ W := by
  have HH := Lib.hid h
  have HI1 := Lib.hid (fun (W : World) (S : Own) (h : HAt W b sB S) (A : Option Addr) (c : Nat) (S1 : Own) (hr : Row 5 1 A wild.length c (bys wild) S1 W) (ha : Apart S1 S) => in_row h sB_ok hr ha (by decide) _ in_wild)
  have hl : (putB (askF 1)).length ≤ 100 := by decide
  have hl2 : (putB (headF 1)).length ≤ 100 := by decide
  have HI2 := Lib.hid (fun (W : World) (S : Own) (h : HAt W b sC S) (A : Option Addr) (c : Nat) (S1 : Own) (hr : Row 5 1 A (putB (askF 1)).length c (bys (putB (askF 1))) S1 W) (ha : Apart S1 S) => in_row h sC_ok hr ha (by omega) _ in_deaf)
  have HO := Lib.hid (fun (W : World) (S : Own) (h : HAt W b sD S) (A : Option Addr) (c : Nat) (S1 : Own) (hr : Row 5 1 A (putB (headF 1)).length c (bys (putB (headF 1))) S1 W) (ha : Apart S1 S) => out_row h sD_ok (fun h => by cases h) hr ha (by omega) _ out_deaf 2 rfl)
  have HF1 := Lib.hid (fun (W : World) (A : Option Addr) (c : Nat) (S1 : Own) (hr : Row 5 1 A 1 c [.int .u8 130] S1 W) (g : Nat) (hg : g = W.heap.size) => show Calls Tryd.prog 10 #[.slice (some ⟨g, 0, none⟩) 1 1] (W.alloc (.cells #[.int .i64 1, .int .i64 4, .int .i64 1, .slice A 1 c] 29)) (OwnQ (putB (askF 1)) (W.alloc (.cells #[.int .i64 1, .int .i64 4, .int .i64 1, .slice A 1 c] 29))) from frames_one (askF 1) (ask_fits 1 (by decide)) W hr g hg)
  have HF2 := Lib.hid (fun (W : World) (A : Option Addr) (c : Nat) (S1 : Own) (hr : Row 5 1 A 1 c [.int .u8 136] S1 W) (g : Nat) (hg : g = W.heap.size) => show Calls Tryd.prog 10 #[.slice (some ⟨g, 0, none⟩) 1 1] (W.alloc (.cells #[.int .i64 1, .int .i64 4, .int .i64 1, .slice A 1 c] 29)) (OwnQ (putB (headF 1)) (W.alloc (.cells #[.int .i64 1, .int .i64 4, .int .i64 1, .slice A 1 c] 29))) from frames_one (headF 1) (head_fits 1 (by decide)) W hr g hg)
  unfold OwnQ at HF1 HF2
  unfold InQ at HI1 HI2
  unfold OutR at HO
  have HWI := Lib.hid (show ∀ W : World, Row 5 1 (some ⟨W.heap.size, 0, none⟩) wild.length 9 (bys wild) (· = W.heap.size) (W.alloc (.cells #[.int .u8 255, .int .u8 255, .int .u8 255, .int .u8 0, .int .u8 0, .int .u8 0, .int .u8 0, .int .u8 0, .int .u8 0] 5)) from fun W => Row.made (cs := bys wild) (Blk.new W _ (bys wild)) (by decide) (by simp [maxLen]) (by decide) rfl)
  have HB1 := Lib.hid (show ∀ (W : World) (x : Int), Row 5 1 (some ⟨W.heap.size, 0, none⟩) 1 1 [.int .u8 x] (· = W.heap.size) (W.alloc (.cells #[.int .u8 x] 5)) from fun W x => Row.made (cs := [.int .u8 x]) (Blk.new W _ [.int .u8 x]) (by decide) (by simp [maxLen]) (by simp) rfl)
  clear h
  rw [show wild.length = 9 from rfl] at HI1 HWI
  generalize putB (askF 1) = l1 at *
  generalize putB (headF 1) = l2 at *
  clear hl hl2
  show Code.wp _ _ _ _ _
  go_wp2_with (first
    | (go_at_call 9; refine (HI1.out _ S ((HH.out.alloc _).at_) _ 9 _ (HWI.out W) (fun k (h1 : k = W.heap.size) h2 => by have := HH.out.at_.lt k h2; omega)).mono ?_; rintro e w1 ⟨rfl, S1, hh, hu⟩; have HH1 := Lib.hid ((HH.out.alloc _).turn hh hu); clear hh hu HI1)
    | (go_at_call 10; refine (HF1.out _ _ _ _ (HB1.out w1 130) _ (by simp)).mono ?_; rintro e w2 ⟨A2, c2, S2, rfl, hr, hu⟩; have HR2 := Lib.hid hr; have HH2 := Lib.hid (((HH1.out.alloc _).alloc _).fresh hu); have HA2 := Lib.hid (hu.fresh ((HH1.out.alloc _).alloc _).at_.lt); clear hr hu HF1)
    | (go_at_call 9; refine (HI2.out _ S1 HH2.out.at_ A2 c2 S2 HR2.out HA2.out).mono ?_; rintro e w3 ⟨rfl, S3, hh, hu⟩; have HH3 := Lib.hid (HH2.out.turn hh hu); clear hh hu HI2)
    | (go_at_call 7; refine (first_any _ HH3.out.glob).mono ?_; rintro e w4 ⟨rfl, hb⟩; have HH4 := Lib.hid (HH3.out.below hb); clear hb)
    | (go_at_call 10; refine (HF2.out _ _ _ _ (HB1.out w4 136) _ (by simp)).mono ?_; rintro e w5 ⟨A5, c5, S5, rfl, hr, hu⟩; have HR5 := Lib.hid hr; have HH5 := Lib.hid (((HH4.out.alloc _).alloc _).fresh hu); have HA5 := Lib.hid (hu.fresh ((HH4.out.alloc _).alloc _).at_.lt); clear hr hu HF2)
    | (go_at_call 12; refine (HO.out _ S3 HH5.out.at_ A5 c5 S5 HR5.out HA5.out).mono ?_; rintro e w6 ⟨rfl, S6, hh, hu⟩; have HH6 := Lib.hid (HH5.out.turn hh hu); clear hh hu HO))
  go_ret
  exact ⟨rfl, HH6.out.end_⟩
end Go.Proofs.YthmfifcogokpoaaDoor
namespace Go.Proofs.YthmfifcogokpoaaDoor
open Go.RowKit

section
variable {P : Program}
theorem run_append_grow {w : World} {t u e : TypeId} (ty : TypeId) {size bytes : Nat} (ht : ElemTy P t e size bytes) (hu : SrcTy P u)
    {A : Option Addr} {n c : Nat} {xs : List Value} (h : Rd w size A n c xs) (hone0 : ∀ v ∈ xs, v.oneCell' = true) {x : Value} {m : Nat} {news : List Value} (hs : Src P w size x m news)
    (hroom : c < n + m) (h63 : n + m ≤ maxLen) (hbytes : (n + m) * bytes ≤ big) :
    ∃ A' c' w' S', (Builtin.append_ #[t, u] ty #[.slice A n c, x]).run P w = .ok (.slice A' (n + m) c') w' ∧ Row e size A' (n + m) c' (xs ++ news) S' w' ∧ Upd none_ S' w w' := by
  obtain ⟨hsl, i, z, hi, hz, hsize, hby, hzs⟩ := ht
  obtain ⟨d, hd, hnd⟩ := hu
  subst hsize
  subst hby
  have hint : ∀ W : World, (underlying u).run P W = .ok d W := fun W => run_underlying hd (w := W)
  have hlen : (xs ++ news).length = (n + m) * i.size := by rw [List.length_append, h.len, hs.len, Nat.add_mul]
  have h3 := h.len
  obtain ⟨hl1, hl2, hl3, hl4⟩ := hs
  have hroom' : ¬ n + m ≤ c := by omega
  have h63' : ¬ (9223372036854775807 < ((n : Int) + (m : Int))) := by simp only [maxLen] at h63; omega
  have h48' : ¬ (281474976710656 < Builtin.nextslicecap (n + m) c * i.bytes) := by
    have := growslice_fits (need := n + m) (old := c) (by omega) hbytes
    omega
  have hone : ∀ W : World, W.heap = w.heap → (Builtin.firstCells i.size n (.slice A n c)).run P W = .ok xs.toArray W := (Src.of_rd (P := P) h hone0).cells
  have hgc := grownCap_ge w (n + m) c e
  have hgm := grownCap_le_maxLen w (n + m) c e h63
  have hsz : (xs.toArray ++ news.toArray ++ Builtin.zeroCells z.cells (grownCap w (n + m) c e - (n + m))).size = grownCap w (n + m) c e * i.size := by
    simp only [Array.size_append, List.size_toArray, size_zeroCells, hzs, h3, hl2, ← Nat.add_mul]
    congr 1
    omega
  refine ⟨some ⟨w.heap.size, 0, none⟩, grownCap w (n + m) c e, w.drew.alloc (.cells (xs.toArray ++ news.toArray ++ Builtin.zeroCells z.cells (grownCap w (n + m) c e - (n + m))) e), (· = w.heap.size), ?_, ?_, ?_⟩
  · rcases hnd with ⟨e2, rfl⟩ | rfl <;> simp [Builtin.append_, run_underlying hsl, hint, sizeOf, typeInfo, zeroValue, hi, hz, hl1, hroom', h63', h48', Question.forced, hone w.drew rfl, hl4 w.drew rfl, newRow, grownCap] <;> simp only [← List.append_toArray, Array.append_assoc]
  · refine ⟨hgc, hgm, hlen, .inr ⟨w.heap.size, 0, _, rfl, heap_alloc_new w.drew _, by rw [hsz]; omega, fun j v hv => ?_, fun k => Iff.rfl⟩⟩
    have hlt := (List.getElem?_eq_some_iff.1 hv).1
    rw [Nat.zero_add, Array.getElem?_append_left (by simpa using hlt)]
    rw [← hv]
    simp
  · exact ⟨rfl, rfl, rfl, by simp, fun k hk _ => Below.heap_alloc w.drew _ k hk, fun k hk => .inr (by rw [hk]; exact Nat.le_refl _)⟩
theorem wpList_append_grow {w : World} {ops : Array Oper} {rest : List Oper} {o : Oper} {a : Act} {Q : Exit → Act → World → Prop} (hgd : o.guard = none) (s x : Operand) (t u : TypeId)
    (ho : o.op = .call { callee := .builtin .append, args := #[s, x], argTypes := #[t, u] })
    (e : TypeId) (size bytes : Nat) (ht : ElemTy P t e size bytes) (hu : SrcTy P u)
    (A : Option Addr) (n c : Nat) (xs : List Value) (xv : Value) (m : Nat) (news : List Value) (hs : a.eval s = .slice A n c) (hx : a.eval x = xv)
    (h : Rd w size A n c xs) (hone : ∀ v ∈ xs, v.oneCell' = true) (hsrc : Src P w size xv m news) (hroom : c < n + m) (h63 : n + m ≤ maxLen) (hbytes : (n + m) * bytes ≤ big)
    (hk : ∀ A' c' w' S', Row e size A' (n + m) c' (xs ++ news) S' w' → Upd none_ S' w w' → wpList P ops Q rest (a.put o.dst (.slice A' (n + m) c')) w') : wpList P ops Q (o :: rest) a w := by
  refine wpList_plain hgd fun _ hK => ?_
  obtain ⟨A', c', w', S', hr, h2, h3⟩ := run_append_grow (P := P) o.type ht hu h hone hsrc hroom h63 hbytes
  unfold Oper.wp execOp
  simp only [ho, resolve, invoke, builtin, Sem.run_bind, Sem.run_pure, Result.andThen_ok, List.map_toArray, List.map_cons, List.map_nil, hs, hx, hr]
  exact hK _ _ (hk A' c' w' S' h2 h3)
end
/-- A constant's bytes, as the conversion leaves them. -/
theorem rd_const (W : World) (l : List UInt8) (fz : Nat × Nat) (hl : l.length ≤ 1000000) : Rd (W.alloc (.cells (bys l).toArray 5 fz)) 1 (some ⟨W.heap.size, 0, none⟩) l.length l.length (bys l) := by
  refine ⟨Nat.le_refl _, by simp only [maxLen]; omega, by rw [bys_length, Nat.mul_one], fun h => (by cases h), fun ad ha => ?_⟩
  cases ha
  refine ⟨fun _ => rfl, fun j u hu => ?_⟩
  rw [add_plain, cell_of_row (W.alloc (.cells (bys l).toArray 5 fz)) W.heap.size _ _ 5 fz (heap_alloc_new W _), Nat.zero_add]
  simpa using hu
end Go.Proofs.YthmfifcogokpoaaDoor
namespace Go.Proofs.YthmfifcogokpoaaDoor
open Go.RowKit

theorem upd_row (n m : Nat) (hn : n ≤ 2147483647) (hm : m ≤ 2147483647) (W : World) : Calls Tryd.prog 16 #[.int .i64 n, .int .i64 m] W fun e w' => ∃ A c S, e = .returned (.agg #[.int .i64 8, .int .i64 0, .int .i64 n, .slice A 4 c]) ∧ Row 5 1 A 4 c (bys (numB m 4)) S w' ∧ Upd none_ S W w' := by
  have h := refUpdate_any n m hn hm W
  unfold FrQ FrameS.v at h
  simp only [numB_length] at h
  exact h
theorem upd_frames (n m : Nat) (hn : n ≤ 2147483647) (W : World) (A : Option Addr) (c : Nat) (S1 : Own) (hr : Row 5 1 A 4 c (bys (numB m 4)) S1 W) (g : Nat) (hg : g = W.heap.size) :
    Calls Tryd.prog 10 #[.slice (some ⟨g, 0, none⟩) 1 1] (W.alloc (.cells #[.int .i64 8, .int .i64 0, .int .i64 n, .slice A 4 c] 29)) (OwnQ (putB (updF n m)) (W.alloc (.cells #[.int .i64 8, .int .i64 0, .int .i64 n, .slice A 4 c] 29))) := by
  have e : (updF n m).body.length = 4 := numB_length m 4
  have h := frames_one (updF n m) (upd_fits n m hn) W (A := A) (c := c) (S1 := S1) (by rw [e]; exact hr) g hg
  rw [e] at h
  exact h

set_option maxRecDepth 100000 in
set_option maxHeartbeats 1000000 in
theorem bl_grant (w W : World) (b m : Nat) (S : Own) (hm1 : 1 ≤ m) (hm2 : m ≤ 2147483647) (h : Hold w W b sB S) (u2 u3 u4 u6 u8 u9 u10 u11 u12 u13 u14 u15 u16 u17 u18 u19 u20 u21 u22 u23 u24 u25 u26 u27 u28 u29 u30 u31 u32 u33 u34 u35 u36 u37 u38 u39 u40 u41 u42 u43 u44 u45 u46 u47 u48 u49 u50 u51 u52 u53 u54 u55 u56 u57 u58 u59 u60 u61 u62 u63 u64 u65 u66 u67 u68 u69 u70 u71 u72 u73 u74 u75 u76 u77 u78 u79 u80 u81 u82 u83 u84 u85 u86 u87 u88 u89 u90 u91 u92 u93 u94 u95 u96 u97 u98 u99 u100 u101 u102 : Value) :
    tailW Tryd.prog 7 blBody (BlP w) ⟨#[.bool false, .int .i64 m, u2, u3, u4, .pointer (some ⟨b, 0, none⟩), u6, .int .i64 0, u8, u9, u10, u11, u12, u13, u14, u15, u16, u17, u18, u19, u20, u21, u22, u23, u24, u25, u26, u27, u28, u29, u30, u31, u32, u33, u34, u35, u36, u37, u38, u39, u40, u41, u42, u43, u44, u45, u46, u47, u48, u49, u50, u51, u52, u53, u54, u55, u56, u57, u58, u59, u60, u61, u62, u63, u64, u65, u66, u67, u68, u69, u70, u71, u72, u73, u74, u75, u76, u77, u78, u79, u80, u81, u82, u83, u84, u85, u86, u87, u88, u89, u90, u91, u92, u93, u94, u95, u96, u97, u98, u99, u100, u101, u102], []⟩ W := by
  have HH := Lib.hid h
  have hlu : (putB (updF 0 m)).length ≤ 100 := by rw [putB_length]; simp [updF, numB_length]
  have hlp : (putB pushF).length ≤ 100 := by decide
  have HUP := Lib.hid (show ∀ W, _ from fun W => upd_row 0 m (by decide) hm2 W)
  have HI := Lib.hid (fun (W : World) (S : Own) (h : HAt W b sB S) (A : Option Addr) (c : Nat) (S1 : Own) (hr : Row 5 1 A (putB (updF 0 m)).length c (bys (putB (updF 0 m))) S1 W) (ha : Apart S1 S) => in_row h sB_ok hr ha (by omega) _ (in_grant m hm1 hm2))
  have HF1 := Lib.hid (upd_frames 0 m (by decide))
  have HF2 := Lib.hid (fun (W : World) (g : Nat) (hg : g = W.heap.size) => show Calls Tryd.prog 10 #[.slice (some ⟨g, 0, none⟩) 1 1] (W.alloc (.cells #[.int .i64 5, .int .i64 0, .int .i64 1, .slice none 0 0] 29)) (OwnQ (putB pushF) (W.alloc (.cells #[.int .i64 5, .int .i64 0, .int .i64 1, .slice none 0 0] 29))) from frames_one pushF push_fits W (Row.nil _ _ _) g hg)
  have hlive := sF_live m
  unfold OwnQ at HF1 HF2
  unfold InQ at HI
  have key : ∀ (ov : Bool), decide ((2147418112 : Int) < (m : Int)) = ov → ∀ (code : Int), code = (if ov then 0 else 2) → (∀ (W : World) (S : Own) (h : HAt W b (sF m) S) (A : Option Addr) (c : Nat) (S1 : Own) (hr : Row 5 1 A (putB pushF).length c (bys (putB pushF)) S1 W) (ha : Apart S1 S), Calls Tryd.prog 12 #[.pointer (some ⟨b, 0, none⟩), .slice A (putB pushF).length c] W (OutR b (sG m) code S W)) →
      tailW Tryd.prog 7 blBody (BlP w) ⟨#[.bool false, .int .i64 m, u2, u3, u4, .pointer (some ⟨b, 0, none⟩), u6, .int .i64 0, u8, u9, u10, u11, u12, u13, u14, u15, u16, u17, u18, u19, u20, u21, u22, u23, u24, u25, u26, u27, u28, u29, u30, u31, u32, u33, u34, u35, u36, u37, u38, u39, u40, u41, u42, u43, u44, u45, u46, u47, u48, u49, u50, u51, u52, u53, u54, u55, u56, u57, u58, u59, u60, u61, u62, u63, u64, u65, u66, u67, u68, u69, u70, u71, u72, u73, u74, u75, u76, u77, u78, u79, u80, u81, u82, u83, u84, u85, u86, u87, u88, u89, u90, u91, u92, u93, u94, u95, u96, u97, u98, u99, u100, u101, u102], []⟩ W := by
    intro ov hov code hcode hout
    have HO := Lib.hid hout
    have hfr := hlive.2.1
    clear hlive hout h
    unfold OutR at HO
    generalize putB (updF 0 m) = l1 at *
    generalize putB pushF = l2 at *
    have HFR := Lib.hid (show ∀ (W : World) (S : Own) (h : HAt W b (sG m) S), Calls Tryd.prog 13 #[.pointer (some ⟨b, 0, none⟩)] W (fun e w' => w' = W ∧ e = .returned (.int .i64 1)) from fun W S h => by have h1 := frames_h h; rw [hfr] at h1; exact h1)
    clear hlu hlp hfr
    cases ov with
    | true =>
      obtain rfl : code = 0 := by simpa using hcode
      clear hcode
      show Code.wp _ _ _ _ _
      go_wp2_with (first
        | (go_at_call 16; refine (HUP.out _).mono ?_; rintro e w1 ⟨A1, c1, S1, rfl, hr, hu⟩; have HR1 := Lib.hid hr; have HH1 := Lib.hid (HH.out.fresh hu); clear hr hu HUP)
        | (go_at_call 10; refine (HF1.out _ _ _ _ HR1.out _ (by simp)).mono ?_; rintro e w2 ⟨A2, c2, S2, rfl, hr, hu⟩; have HR2 := Lib.hid hr; have HH2 := Lib.hid ((HH1.out.alloc _).fresh hu); have HA2 := Lib.hid (hu.fresh (HH1.out.alloc _).at_.lt); clear hr hu HF1)
        | (go_at_call 9; refine (HI.out _ S HH2.out.at_ A2 c2 S2 HR2.out HA2.out).mono ?_; rintro e w3 ⟨rfl, S3, hh, hu⟩; have HH3 := Lib.hid (HH2.out.turn hh hu); clear hh hu HI)
        | (go_at_call 10; refine (HF2.out _ _ (by simp)).mono ?_; rintro e w5 ⟨A5, c5, S5, rfl, hr, hu⟩; have HR5 := Lib.hid hr; have HH5 := Lib.hid ((HH3.out.alloc _).fresh hu); have HA5 := Lib.hid (hu.fresh (HH3.out.alloc _).at_.lt); clear hr hu HF2)
        | (go_at_call 12; refine (HO.out _ S3 HH5.out.at_ A5 c5 S5 HR5.out HA5.out).mono ?_; rintro e w6 ⟨rfl, S6, hh, hu⟩; have HH6 := Lib.hid (HH5.out.turn hh hu); clear hh hu HO)
        | (go_at_call 7; refine (first_any _ HH6.out.glob).mono ?_; rintro e w7 ⟨rfl, hb⟩; have HH7 := Lib.hid (HH6.out.below hb); clear hb)
        | (go_at_call 13; refine (HFR.out _ S6 HH7.out.at_).mono ?_; rintro e w8 ⟨rfl, rfl⟩))
      go_ret
      exact ⟨rfl, HH7.out.end_⟩
    | false =>
      obtain rfl : code = 2 := by simpa using hcode
      clear hcode
      show Code.wp _ _ _ _ _
      go_wp2_with (first
        | (go_at_call 16; refine (HUP.out _).mono ?_; rintro e w1 ⟨A1, c1, S1, rfl, hr, hu⟩; have HR1 := Lib.hid hr; have HH1 := Lib.hid (HH.out.fresh hu); clear hr hu HUP)
        | (go_at_call 10; refine (HF1.out _ _ _ _ HR1.out _ (by simp)).mono ?_; rintro e w2 ⟨A2, c2, S2, rfl, hr, hu⟩; have HR2 := Lib.hid hr; have HH2 := Lib.hid ((HH1.out.alloc _).fresh hu); have HA2 := Lib.hid (hu.fresh (HH1.out.alloc _).at_.lt); clear hr hu HF1)
        | (go_at_call 9; refine (HI.out _ S HH2.out.at_ A2 c2 S2 HR2.out HA2.out).mono ?_; rintro e w3 ⟨rfl, S3, hh, hu⟩; have HH3 := Lib.hid (HH2.out.turn hh hu); clear hh hu HI)
        | (go_at_call 10; refine (HF2.out _ _ (by simp)).mono ?_; rintro e w5 ⟨A5, c5, S5, rfl, hr, hu⟩; have HR5 := Lib.hid hr; have HH5 := Lib.hid ((HH3.out.alloc _).fresh hu); have HA5 := Lib.hid (hu.fresh (HH3.out.alloc _).at_.lt); clear hr hu HF2)
        | (go_at_call 12; refine (HO.out _ S3 HH5.out.at_ A5 c5 S5 HR5.out HA5.out).mono ?_; rintro e w6 ⟨rfl, S6, hh, hu⟩; have HH6 := Lib.hid (HH5.out.turn hh hu); clear hh hu HO)
        | (go_at_call 7; refine (first_any _ HH6.out.glob).mono ?_; rintro e w7 ⟨rfl, hb⟩; have HH7 := Lib.hid (HH6.out.below hb); clear hb))
      go_ret
      exact ⟨rfl, HH7.out.end_⟩
  refine key _ rfl (if (sG m).bad then 2 else 0) ?_ (fun W S h A c S1 hr ha => out_row h (sF_ok m hm1 hm2) (fun h => by rw [hlive.1] at h; cases h) hr ha (by omega) _ (out_grant m) _ rfl)
  rw [hlive.2.2]
  by_cases h1 : 65535 + (m : Int) ≤ 2147483647
  · rw [decide_eq_true h1, decide_eq_false (by omega)]; rfl
  · rw [decide_eq_false h1, decide_eq_true (by omega)]; rfl

theorem hello_in (b : Nat) (W : World) (S : Own) (h : HAt W b newS S) (A : Option Addr) (c : Nat) (S1 : Own) (hr : Row 5 1 A (24 + (putB setF).length) c (bys pref ++ bys (putB setF)) S1 W) (ha : Apart S1 S) :
    Calls Tryd.prog 9 #[.pointer (some ⟨b, 0, none⟩), .slice A (24 + (putB setF).length) c] W (InQ b sA S W) := by
  have hl : (pref ++ putB setF).length = 24 + (putB setF).length := by rw [List.length_append]; rfl
  have hl1 : (putB setF).length ≤ 100 := by decide
  rw [← bys_append, ← hl] at hr
  have h1 := in_row h (newS_ok.more (B' := 100) (by omega)) hr ha (by omega) _ in_hello
  rw [hl] at h1
  exact h1
set_option maxRecDepth 100000 in
set_option maxHeartbeats 1000000 in
theorem blind_any (deaf : Bool) (n : Int) (w : World) (hg : GlobOk w) :
    Calls Tryd.prog 4 #[.bool deaf, .int .i64 n] w (TrueQ w) := by
  have HG := Lib.hid hg
  clear hg
  by_cases hn : 1 ≤ n ∧ n ≤ 2147483647
  · obtain ⟨m, hm⟩ : ∃ m : Nat, n = m := ⟨n.toNat, by omega⟩
    subst hm
    have hm1 : 1 ≤ m := by omega
    have hm2 : m ≤ 2147483647 := by omega
    have t1 : decide ((m : Int) < 1) = false := decide_eq_false (by omega)
    have t2 : decide ((2147483647 : Int) < (m : Int)) = false := decide_eq_false (by omega)
    have HT := Lib.hid (show ∀ (W : World) (b : Nat) (S : Own), Hold w W b sB S → ∀ (u2 u3 u4 u6 u8 u9 u10 u11 u12 u13 u14 u15 u16 u17 u18 u19 u20 u21 u22 u23 u24 u25 u26 u27 u28 u29 u30 u31 u32 u33 u34 u35 u36 u37 u38 u39 u40 u41 u42 u43 u44 u45 u46 u47 u48 u49 u50 u51 u52 u53 u54 u55 u56 u57 u58 u59 u60 u61 u62 u63 u64 u65 u66 u67 u68 u69 u70 u71 u72 u73 u74 u75 u76 u77 u78 u79 u80 u81 u82 u83 u84 u85 u86 u87 u88 u89 u90 u91 u92 u93 u94 u95 u96 u97 u98 u99 u100 u101 u102 : Value), tailW Tryd.prog 7 blBody (BlP w) ⟨#[.bool deaf, .int .i64 m, u2, u3, u4, .pointer (some ⟨b, 0, none⟩), u6, .int .i64 0, u8, u9, u10, u11, u12, u13, u14, u15, u16, u17, u18, u19, u20, u21, u22, u23, u24, u25, u26, u27, u28, u29, u30, u31, u32, u33, u34, u35, u36, u37, u38, u39, u40, u41, u42, u43, u44, u45, u46, u47, u48, u49, u50, u51, u52, u53, u54, u55, u56, u57, u58, u59, u60, u61, u62, u63, u64, u65, u66, u67, u68, u69, u70, u71, u72, u73, u74, u75, u76, u77, u78, u79, u80, u81, u82, u83, u84, u85, u86, u87, u88, u89, u90, u91, u92, u93, u94, u95, u96, u97, u98, u99, u100, u101, u102], []⟩ W from by
      intro W b S h
      cases deaf
      · exact bl_grant w W b m S hm1 hm2 h
      · intro u2 u3 u4 u6 u8 u9 u10 u11 u12 u13 u14 u15 u16 u17 u18 u19 u20 u21 u22 u23 u24 u25 u26 u27 u28 u29 u30 u31 u32 u33 u34 u35 u36 u37 u38 u39 u40 u41 u42 u43 u44 u45 u46 u47 u48 u49 u50 u51 u52 u53 u54 u55 u56 u57 u58 u59 u60 u61 u62 u63 u64 u65 u66 u67 u68 u69 u70 u71 u72 u73 u74 u75 u76 u77 u78 u79 u80 u81 u82 u83 u84 u85 u86 u87 u88 u89 u90 u91 u92 u93 u94 u95 u96 u97 u98 u99 u100 u101 u102
        exact bl_deaf w W b S h _ _ _ _ _ _ _ _ _ _ _ _ _ _ _ _ _ _ _ _ _ _ _ _ _ _ _ _ _ _ _ _ _ _ _ _ _ _ _ _ _ _ _ _ _ _ _ _ _ _ _ _ _ _ _ _ _ _ _ _ _ _ _ _ _ _ _ _ _ _ _ _ _ _ _ _ _ _ _ _ _ _ _ _ _ _ _ _ _ _ _ _ _ _ _ _ _ _ _ _)
    clear hm1 hm2 hn
    have hl1 : (putB setF).length ≤ 100 := by decide
    have HI := Lib.hid hello_in
    have HO := Lib.hid (fun (b : Nat) (W : World) (S : Own) (h : HAt W b sA S) (A : Option Addr) (c : Nat) (S1 : Own) (hr : Row 5 1 A (putB setF).length c (bys (putB setF)) S1 W) (ha : Apart S1 S) => out_row h sA_ok (fun h => by cases h) hr ha (by omega) _ out_hello 0 rfl)
    have HF := Lib.hid (fun (W : World) (A : Option Addr) (c : Nat) (S1 : Own) (hr : Row 5 1 A 0 c [] S1 W) (g : Nat) (hg : g = W.heap.size) => show Calls Tryd.prog 10 #[.slice (some ⟨g, 0, none⟩) 1 1] (W.alloc (.cells #[.int .i64 4, .int .i64 0, .int .i64 0, .slice A 0 c] 29)) (OwnQ (putB setF) (W.alloc (.cells #[.int .i64 4, .int .i64 0, .int .i64 0, .slice A 0 c] 29))) from frames_one setF set_fits W hr g hg)
    have HS := Lib.hid (fun (W : World) => show Calls Tryd.prog 11 #[.slice none 0 0, .bool false] W fun e w' => ∃ A c S, e = .returned (.agg #[.int .i64 4, .int .i64 0, .int .i64 0, .slice A 0 c]) ∧ Row 5 1 A 0 c [] S w' ∧ Upd none_ S W w' from refSettings_no W)
    have HPR := Lib.hid (show ∀ W : World, Rd (W.alloc (.cells #[.int .u8 80, .int .u8 82, .int .u8 73, .int .u8 32, .int .u8 42, .int .u8 32, .int .u8 72, .int .u8 84, .int .u8 84, .int .u8 80, .int .u8 47, .int .u8 50, .int .u8 46, .int .u8 48, .int .u8 13, .int .u8 10, .int .u8 13, .int .u8 10, .int .u8 83, .int .u8 77, .int .u8 13, .int .u8 10, .int .u8 13, .int .u8 10] 5 (24, 25))) 1 (some ⟨W.heap.size, 0, none⟩) 24 24 (bys pref) from fun W => rd_const W pref (24, 25) (by decide))
    have kc := fun (W : World) (C : Array Value) (n c : Nat) => Lib.run_convert_bytes_const (P := Tryd.prog) W 26 5 C n c Tryd.underlying26 Tryd.underlying5
    have hroom : 24 < 24 + (putB setF).length := by rw [putB_length]; omega
    have h63 : 24 + (putB setF).length ≤ maxLen := by simp only [maxLen]; omega
    have hbb : (24 + (putB setF).length) * 1 ≤ big := by simp only [big]; omega
    unfold InQ at HI
    unfold OutR at HO
    unfold OwnQ at HF
    clear hl1
    generalize putB setF = l1 at *
    go_enter Tryd.func4, Tryd.ntmps4
    refine wp_cut_as blBody (by kernel_rfl) 7 ?_
    show Code.wp _ _ _ _ _
    go_wp2
    show Code.wp _ _ _ _ _
    go_wp2_with (go_at_call 7; refine (first_any _ HG.out).mono ?_; rintro e w1 ⟨rfl, hb⟩; have HB1 := Lib.hid hb; have HG1 := Lib.hid (HG.out.below hb HG.out.pos); clear hb)
    show Code.wp _ _ _ _ _
    go_wp2_with (go_at_call 8; refine (new_h _ HG1.out).mono ?_; rintro e w2 ⟨b, S0, rfl, hh, hu⟩; have HH2 := Lib.hid (show Hold w w2 b newS S0 from ⟨hh, (Upd.of_below HB1.out (S := none_) (S' := none_) fun _ h => h.elim).trans hu⟩); clear hh hu)
    show Code.wp _ _ _ _ _
    go_wp2
    show Code.wp _ _ _ _ _
    go_wp2_with (first
      | (go_at_call 11; refine (HS.out _).mono ?_; rintro e w3 ⟨A3, c3, S3, rfl, hr, hu⟩; have HR3 := Lib.hid hr; have HP3 := Lib.hid ((HPR.out w2).grow (by omega) (hu.below (fun _ h => h.elim) (Nat.le_refl _))); have HH3 := Lib.hid ((HH2.out.alloc _).fresh hu); clear hr hu)
      | (go_at_call 10; refine (HF.out _ _ _ _ HR3.out _ (by simp)).mono ?_; rintro e w4 ⟨A4, c4, S4, rfl, hr, hu⟩; have HR4 := Lib.hid hr; have HP4 := Lib.hid ((HP3.out.alloc (by omega) _).grow (by omega) (hu.below (fun _ h => h.elim) (Nat.le_refl _))); have HH4 := Lib.hid ((HH3.out.alloc _).fresh hu); clear hr hu)
      | (at_builtin; refine wpList_append_grow (by rfl) _ _ _ _ (by rfl) 5 1 1 tyBytes tyBytes.src (some ⟨w2.heap.size, 0, none⟩) 24 24 (bys pref) (.slice A4 l1.length c4) l1.length (bys l1) (by rfl) (by rfl) HP4.out (bys_one _) (Src.of_rd HR4.out.rd (bys_one _)) hroom h63 hbb ?_; intro A5 c5 w5 S5 hr hu; have HR5 := Lib.hid hr; have HH5 := Lib.hid (HH4.out.fresh hu); have HA5 := Lib.hid (hu.fresh HH4.out.at_.lt); clear hr hu))
    show Code.wp _ _ _ _ _
    go_wp2_with (go_at_call 9; refine (HI.out b _ S0 HH5.out.at_ A5 c5 S5 HR5.out HA5.out).mono ?_; rintro e w6 ⟨rfl, S6, hh, hu⟩; have HH6 := Lib.hid (HH5.out.turn hh hu); clear hh hu HI)
    show Code.wp _ _ _ _ _
    go_wp2_with (first
      | (go_at_call 11; refine (HS.out _).mono ?_; rintro e w7 ⟨A7, c7, S7, rfl, hr, hu⟩; have HR7 := Lib.hid hr; have HH7 := Lib.hid (HH6.out.fresh hu); clear hr hu)
      | (go_at_call 10; refine (HF.out _ _ _ _ HR7.out _ (by simp)).mono ?_; rintro e w8 ⟨A8, c8, S8, rfl, hr, hu⟩; have HR8 := Lib.hid hr; have HH8 := Lib.hid ((HH7.out.alloc _).fresh hu); have HA8 := Lib.hid (hu.fresh (HH7.out.alloc _).at_.lt); clear hr hu)
      | (go_at_call 12; refine (HO.out b _ S6 HH8.out.at_ A8 c8 S8 HR8.out HA8.out).mono ?_; rintro e w9 ⟨rfl, S9, hh, hu⟩; have HH9 := Lib.hid (HH8.out.turn hh hu); clear hh hu HO))
    show tailW _ _ _ _ _ _
    exact HT.out _ b S9 HH9.out _ _ _ _ _ _ _ _ _ _ _ _ _ _ _ _ _ _ _ _ _ _ _ _ _ _ _ _ _ _ _ _ _ _ _ _ _ _ _ _ _ _ _ _ _ _ _ _ _ _ _ _ _ _ _ _ _ _ _ _ _ _ _ _ _ _ _ _ _ _ _ _ _ _ _ _ _ _ _ _ _ _ _ _ _ _ _ _ _ _ _ _ _ _ _ _ _ _ _
  · have hn' : n < 1 ∨ 2147483647 < n := by omega
    have walk : ∀ (q1 q2 : Bool), decide (n < 1) = q1 → decide (2147483647 < n) = q2 → (q1 = true ∨ q2 = true) → Calls Tryd.prog 4 #[.bool deaf, .int .i64 n] w (TrueQ w) := by
      intro q1 q2 t1 t2 hq
      clear hn hn'
      cases q1 with
      | true =>
        clear t2 hq
        go_enter Tryd.func4, Tryd.ntmps4
        go_wp2_with (first
          | (go_at_call 7; refine (first_any _ HG.out).mono ?_; rintro e w1 ⟨rfl, hb⟩; have HB1 := Lib.hid hb; have HG1 := Lib.hid (HG.out.below hb HG.out.pos); clear hb HG)
          | (go_at_call 8; refine (new_h _ HG1.out).mono ?_; rintro e w2 ⟨b, S0, rfl, hh, hu⟩; have HH2 := Lib.hid (show Hold w w2 b newS S0 from ⟨hh, (Upd.of_below HB1.out (S := none_) (S' := none_) fun _ h => h.elim).trans hu⟩); clear hh hu)
          | (go_at_call 7; refine (first_any _ HH2.out.glob).mono ?_; rintro e w3 ⟨rfl, hb⟩; have HH3 := Lib.hid (HH2.out.below hb); clear hb))
        go_ret
        exact ⟨rfl, HH3.out.end_⟩
      | false =>
        obtain rfl : q2 = true := by simpa using hq
        clear hq
        go_enter Tryd.func4, Tryd.ntmps4
        go_wp2_with (first
          | (go_at_call 7; refine (first_any _ HG.out).mono ?_; rintro e w1 ⟨rfl, hb⟩; have HB1 := Lib.hid hb; have HG1 := Lib.hid (HG.out.below hb HG.out.pos); clear hb HG)
          | (go_at_call 8; refine (new_h _ HG1.out).mono ?_; rintro e w2 ⟨b, S0, rfl, hh, hu⟩; have HH2 := Lib.hid (show Hold w w2 b newS S0 from ⟨hh, (Upd.of_below HB1.out (S := none_) (S' := none_) fun _ h => h.elim).trans hu⟩); clear hh hu)
          | (go_at_call 7; refine (first_any _ HH2.out.glob).mono ?_; rintro e w3 ⟨rfl, hb⟩; have HH3 := Lib.hid (HH2.out.below hb); clear hb))
        go_ret
        exact ⟨rfl, HH3.out.end_⟩
    refine walk _ _ rfl rfl ?_
    simpa using hn'
end Go.Proofs.YthmfifcogokpoaaDoor
namespace Go.Proofs.YthmfifcogokpoaaDoor
open Go.ChangeShapes Go.WideShapes Go.ChangeAt Go.RowKit

/-- The condition and the world's shape, both handed to the contract. -/
theorem handed_and_shaped {H : Type} {enc : TypeId × Value → H} {a : Assume} {C : Checked} {os : Os} {f : FuncId} {fn : Func} {s : ChangeSpec} {conds : List PathCond} {apart fresh handsOn again : Bool} {X : World → Array Value → Prop}
    (hX : ∀ (w w' : World) (args : Array Value), w.heap = w'.heap → X w args → X w' args)
    (own : ownKnob C.prog.godebug = none) (started : os.Started) (noInit : C.prog.inits.idxOf? f = none) (hfn : C.prog.funcs[f]? = some fn)
    (witness : ∃ (w : World) (tape : Tape) (i : Input), w.os = os ∧ (w.forCall tape i).Shaped C.prog ∧ i.vars = [] ∧ Input.okWide C.prog (w.forCall tape i) .any w.heap.size f i ∧
      ((s.pre enc C.prog fn conds apart (w.forCall tape i).memory i.args ∧ X (w.forCall tape i).memory i.args) ∧ sizedMet enc C.prog fn (OpenSpec.ofChange s) apart (w.forCall tape i).memory i.args) ∧ a.holds C.prog (lone (Frame.enter C.prog f i.args .normal) [] (w.forCall tape i)))
    (contract : ∀ (W : World) (base : Nat) (args : Array Value) (ds gs : List (DataW H)) (before : List MemPlace),
      (∀ (j : Nat) t v, fn.params[j]? = some t → args[j]? = some v → Value.okWide C.prog W .any base t v) →
      DataW.Whole enc C.prog fn.params.toList s.vars apart W args.toList ds gs before → W.ShapedOpen C.prog →
      Calls C.prog f args W fun e W' => ∃ v, e = .returned v ∧ s.post enc C.prog fn apart fresh handsOn again W args v W') :
    ReturnsInHanded a C os f .any (fun w args => (s.pre enc C.prog fn conds apart w args ∧ X w args) ∧ sizedMet enc C.prog fn (OpenSpec.ofChange s) apart w args) (s.post enc C.prog fn apart fresh handsOn again) := by
  refine returnsInHanded_of_calls own started noInit witness ?_
  intro w tape i _ hsh _ hok hpre hholds
  obtain ⟨_, _, _, fn', hfn', _, _, _, _, hval⟩ := hok
  have e : fn' = fn := Option.some.inj (hfn'.symm.trans hfn)
  subst e
  obtain ⟨⟨⟨ds, gs, before, hw, hc⟩, hx⟩, hz⟩ := hpre
  have hw' := DataW.Whole.of_heap (w' := w.forCall tape i) (by rfl) hw
  refine (contract (w.forCall tape i) w.heap.size i.args ds gs before hval hw' hsh).mono fun e W' ⟨v, he, hp⟩ => ?_
  subst he
  exact ChangeSpec.post_blind hp

theorem own_ : ownKnob Tryd.prog.godebug = none := by kernel_rfl
theorem glob_of_shape {W : World} (h : W.ShapedOpen Tryd.prog) : GlobOk W :=
  cell_of_shapedOpen_int (g := 0) (t := 3) (zero := #[.int .i64 0]) h (of_decide_eq_true (by kernel_rfl)) (by kernel_rfl) rfl (by kernel_rfl) (by kernel_rfl) Tryd.underlying3
abbrev laidL : List (String × DataW Unit) := [("unicode/utf8.acceptRanges", Rows.laid_unicode_utf8_acceptRanges), ("unicode/utf8.first", Rows.laid_unicode_utf8_first)]
theorem laid_met (os : Os) (args : Array Value) : laidMetH Tryd.prog laidL ((World.laidAll Tryd.prog os laidL).forCall (fun _ _ => 0) ⟨#[], args, []⟩).memory := by
  rw [MakeChecks.laidMetH_plain _ _ _ (by kernel_rfl)]
  exact laidMet_laidAll _ (by kernel_rfl) (by kernel_rfl)
end Go.Proofs.YthmfifcogokpoaaDoor
