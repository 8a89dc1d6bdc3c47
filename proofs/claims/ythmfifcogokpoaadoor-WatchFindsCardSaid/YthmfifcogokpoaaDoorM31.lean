/- What is proved here: contracts of the program's functions and plain lemmas that the claim's last text uses, in parts: WatchRight's plain law; WatchRight answers true, its end; a region that draws its order, by an invariant: what each operation leaves is said once, and stays true while memory only grows. -/
import Derived.Test.YthmfifcogokpoaaDoorM30
import Derived.Test.YthmfifcogokpoaaDoorM01
import Derived.Great.Walk
set_option linter.unusedVariables false
set_option linter.unusedSimpArgs false
namespace Go.Proofs.YthmfifcogokpoaaDoor
open Go.RowKit

def zeros (n : Nat) : List UInt8 := List.replicate n 0
theorem zeros_length (n : Nat) : (zeros n).length = n := by simp [zeros]
/-- Two streams were asked for. -/
def rA : WatchS := { headS with waits := [[]], highest := 3, m := [(1, ⟨65535, false, false, false, []⟩), (3, ⟨65535, false, false, false, []⟩)] }
/-- An answer is under way on the first. -/
def rS (win : Int) (d : List UInt8) (e r : Bool) (f : Nat) : WatchS := { headS with waits := [[]], highest := 3, m := [(1, ⟨win, true, e, false, d⟩), (3, ⟨65535, false, false, r, []⟩)], window := win, frames := f }
theorem hears_ask (s : WatchS) (n : Nat) (h1 : n % 2 = 1) (h2 : s.highest < n) : hearsS s (askF n) = { s with highest := n, m := s.m ++ [(n, ⟨s.sets.window, false, false, false, []⟩)] } := by
  unfold hearsS
  rw [if_pos (by rfl), if_pos ⟨h1, h2⟩]
  rfl
theorem in_two : inS newS (pref ++ (putB setF ++ (putB (askF 1) ++ putB (askF 3)))) = rA := by
  rw [inS_pref, inS_put rfl rfl rfl rfl setF set_fits (by decide), hears_set, inS_put rfl rfl rfl rfl (askF 1) (ask_fits 1 (by decide)) (by decide), hears_ask _ 1 rfl (by decide)]
  have h := inS_put (s := { ({ headS with waits := headS.waits ++ [[]] } : WatchS) with highest := 1, m := [(1, ⟨65535, false, false, false, []⟩)] }) rfl rfl rfl rfl (askF 3) (ask_fits 3 (by decide)) (by decide) []
  rw [List.append_nil, hears_ask _ 3 rfl (by decide), inS_nil rfl rfl] at h
  exact h
theorem rA_ok : WOk 100 rA := (in_two ▸ inS_ok newS_ok (pref ++ (putB setF ++ (putB (askF 1) ++ putB (askF 3))))).more (by decide)

/-! ### The answer -/
theorem block88 (tab : List FieldS) (most : Int) : blockS 2147483647 tab most [136] = some ⟨[], tab, most, 42, [⟨statusB, ⟨#[50, 48, 48]⟩, false⟩], 0, true⟩ := by
  have hn : numS [136] 7 = some (8, []) := by
    unfold numS
    rw [show getS [136] 7 = (8, 1, 0) from getS_88]
    rfl
  have ha : atS tab 8 = (⟨statusB, ⟨#[50, 48, 48]⟩, false⟩, true) := by
    unfold atS
    rw [if_pos (by omega)]
    exact status8
  have hs : sizeF ⟨statusB, ⟨#[50, 48, 48]⟩, false⟩ = 42 := by decide +kernel
  unfold blockS
  show readB 2147483647 (1 + 1) _ = _
  rw [readB, if_neg (by simp)]
  have h1 : oneS 2147483647 ⟨[136], tab, most, 0, [], 0, false⟩ 136 = some ⟨[], tab, most, 42, [⟨statusB, ⟨#[50, 48, 48]⟩, false⟩], 0, true⟩ := by
    unfold oneS
    rw [if_pos (by omega)]
    simp only [hn, ha, if_true]
    unfold fieldStep
    simp only [hs]
    rfl
  rw [show (([136] : List UInt8).getD 0 0).toNat = 136 from rfl, h1]
  show readB 2147483647 (0 + 1) _ = _
  rw [readB, if_pos (by simp)]
theorem block80 (tab : List FieldS) (most : Int) : blockS 2147483647 tab most [128] = none := by
  have hn : numS [128] 7 = some (0, []) := by
    unfold numS
    rw [show getS [128] 7 = (0, 1, 0) from getS_80]
    rfl
  have ha : (atS tab 0).2 = false := by
    unfold atS
    rw [if_pos (by omega)]
    unfold statGet
    rw [if_pos (by omega)]
  unfold blockS
  show readB 2147483647 (1 + 1) _ = _
  rw [readB, if_neg (by simp)]
  have h1 : oneS 2147483647 ⟨[128], tab, most, 0, [], 0, false⟩ 128 = none := by
    unfold oneS
    rw [if_pos (by omega)]
    simp only [hn, ha]
    rfl
  rw [show (([128] : List UInt8).getD 0 0).toNat = 128 from rfl, h1]
theorem answersS_yes {s : WatchS} {f : FrameS} {p : PartS} {i : Nat} {x : StrS} (hl : liveS s f.stream = some i) (hx : s.m[i]? = some (f.stream, x)) (hfr : ¬ s.sets.frame < f.body.length) (r : RdS) (hb : blockS 2147483647 s.tab s.most p.data = some r) (g : FieldS) (t : List FieldS) (hr : r.fs = g :: t) (hov : ¬ (2147483647 : Int) < r.total) (hg : ¬ (g.name ≠ statusB ∨ s.sets.table < r.most)) :
    answersS s f p = (true, { s with tab := r.tab, most := r.most, m := s.m.set i (f.stream, { x with begun := true, ended := p.fin }) }) := by
  unfold answersS
  rw [hl]
  simp only [strOf_at hx]
  rw [if_neg hfr, hb]
  simp only
  rw [if_neg hov, hr]
  simp only
  rw [if_neg hg]
theorem answersS_none {s : WatchS} {f : FrameS} {p : PartS} {i : Nat} (hl : liveS s f.stream = some i) (hfr : ¬ s.sets.frame < f.body.length) (hb : blockS 2147483647 s.tab s.most p.data = none) :
    answersS s f p = (false, { s with dead := true }) := by
  unfold answersS
  rw [hl]
  simp only
  rw [if_neg hfr, hb]
theorem headP : ({ noPart with data := [136], whole := true } : PartS) = ⟨[136], 0, 0, 0, 0, [], false, false, true⟩ := rfl
theorem right_head {s : WatchS} (n i : Nat) (x : StrS) (h : n ≠ 0) (hf : s.frames ≠ 0) (hg : s.gone = false) (hl : liveS s n = some i) (hx : s.m[i]? = some (n, x)) (hfr : 1 ≤ s.sets.frame) (ht : s.most ≤ s.sets.table) :
    rightS s (headF n) = (true, { s with m := s.m.set i (n, { x with begun := true, ended := false }) }) := by
  have key := answersS_yes (s := s) (f := headF n) (p := ⟨[136], 0, 0, 0, 0, [], false, false, true⟩) hl hx (by simp [headF]; omega) _ (block88 s.tab s.most) _ _ rfl (by simp) (by
    intro h
    rcases h with h | h
    · exact h rfl
    · simp only at h; omega)
  unfold rightS
  rw [read_head n h, headP, if_neg (by simp [hf, hg, noFault]), if_neg (by simp [headF]), if_pos (by rfl)]
  simp only [if_true]
  rw [key]
  rfl
/-! ### Data -/
def dataF (fl n : Nat) : FrameS := ⟨0, fl, 1, zeros n⟩
theorem data_fits (fl n : Nat) (h : fl ≤ 1) (hn : n ≤ 16384) : (dataF fl n).Fits := ⟨by simp [dataF], by simp [dataF]; omega, by simp [dataF], by simp [dataF, zeros]; omega⟩
theorem read_data (fl n : Nat) (h : fl ≤ 1) : readS (dataF fl n) = ({ noPart with data := zeros n, fin := decide (fl = 1) }, noFault) := by
  have h2 : fl = 0 ∨ fl = 1 := by omega
  rcases h2 with rfl | rfl <;> simp [readS, dataF, bodiedS, bodPrio, bodRest, bodPart, noPart, zeros]
theorem right_data (win : Int) (d : List UInt8) (r : Bool) (f fl n : Nat) (hfl : fl ≤ 1) (hf : f ≠ 0) (hn : n ≤ 16384) (hw : n ≤ win) (hw2 : win ≤ 2147483647) :
    rightS (rS win d false r f) (dataF fl n) = (true, rS (win - n) (d ++ zeros n) (decide (fl = 1)) r f) := by
  have hc : cutW win = win := cutW_id _ ⟨by omega, hw2⟩
  have hl : liveS (rS win d false r f) 1 = some 0 := rfl
  have hstr : strOf (rS win d false r f) 0 = ⟨win, true, false, false, d⟩ := rfl
  have hlen : (dataF fl n).body.length = n := zeros_length n
  unfold rightS
  rw [read_data fl n hfl]
  rw [if_neg (by simp [rS, headS, newS, noFault, hf]), if_neg (by simp [dataF]), if_neg (by simp [dataF]), if_pos (by rfl)]
  unfold sendsS
  rw [show (dataF fl n).stream = 1 from rfl, hl]
  simp only [hstr, hlen]
  rw [if_neg (by simp [rS, headS, newS, firstS]; omega)]
  have hwin : (rS win d false r f).window = win := rfl
  rw [hwin, hc]
  by_cases h0 : n = 0
  · subst h0
    rw [if_pos rfl]
    unfold sentTo
    rw [hstr, show win - ((0 : Nat) : Int) = win by omega]
    rfl
  · rw [if_neg h0]
    have hsp : spendS win win n = (win - n, win - n, 0) := by
      unfold spendS
      rw [if_neg (by omega)]
    rw [hsp]
    rw [if_neg (by simp)]
    unfold sentTo
    rw [hstr]
    rfl
def rstF (n code : Nat) : FrameS := ⟨3, 0, n, numB code 4⟩
theorem rst_fits (n code : Nat) (h : n ≤ 2147483647) : (rstF n code).Fits := ⟨by simp [rstF], by simp [rstF], h, by simp [rstF, numB_length]⟩
theorem read_rst (n code : Nat) (h : n ≠ 0) : (readS (rstF n code)).2 = noFault := by
  simp [readS, rstF, h, numB_length]
theorem right_rst (win : Int) (d : List UInt8) (f : Nat) (hf : f ≠ 0) : rightS (rS win d false false f) (rstF 3 8) = (true, rS win d false true f) := by
  unfold rightS
  rw [read_rst 3 8 (by omega)]
  rw [if_neg (by simp [rS, headS, newS, noFault, hf, rstF]), if_neg (by simp [rstF]), if_neg (by simp [rstF]), if_neg (by simp [rstF]), if_pos (by rfl)]
  rfl
theorem judged_rS (win : Int) (d : List UInt8) (e r : Bool) (f : Nat) : judged (true, rS win d e r f) = rS win d e r (f + 1) := rfl
/-- What goes out first. -/
def outB1 (n : Nat) : List UInt8 := putB setF ++ (putB (headF 1) ++ (putB (dataF 0 n) ++ (putB (dataF 0 n) ++ (putB (dataF 0 n) ++ (putB (dataF 0 n) ++ putB (rstF 3 8))))))
theorem out_one (n : Nat) (hn : n ≤ 16000) : outS rA (outB1 n) = rS (65535 - 4 * n) (zeros n ++ zeros n ++ zeros n ++ zeros n) false true 7 := by
  unfold outB1
  have hfd := data_fits 0 n (by omega) (by omega)
  have hld : (dataF 0 n).body.length ≤ 16384 := by simp [dataF, zeros]; omega
  rw [outS_put rfl rfl rfl setF set_fits (by decide), right_set rfl]
  have h1 : judged (true, rA) = { rA with frames := 1 } := rfl
  rw [h1, outS_put rfl rfl rfl (headF 1) (head_fits 1 (by decide)) (by decide), right_head (s := { rA with frames := 1 }) 1 0 ⟨65535, false, false, false, []⟩ (by decide) (by decide) rfl rfl rfl (by decide) (by decide)]
  have h2 : judged (true, { ({ rA with frames := 1 } : WatchS) with m := ({ rA with frames := 1 } : WatchS).m.set 0 (1, { (⟨65535, false, false, false, []⟩ : StrS) with begun := true, ended := false }) }) = rS 65535 [] false false 2 := rfl
  rw [h2]
  rw [outS_put rfl rfl rfl (dataF 0 n) hfd hld, right_data 65535 [] false 2 0 n (by omega) (by omega) (by omega) (by omega) (by omega), judged_rS]
  rw [show decide (0 = 1) = false from rfl]
  rw [outS_put rfl rfl rfl (dataF 0 n) hfd hld, right_data _ _ false 3 0 n (by omega) (by omega) (by omega) (by omega) (by omega), judged_rS]
  rw [show decide (0 = 1) = false from rfl]
  rw [outS_put rfl rfl rfl (dataF 0 n) hfd hld, right_data _ _ false 4 0 n (by omega) (by omega) (by omega) (by omega) (by omega), judged_rS]
  rw [show decide (0 = 1) = false from rfl]
  rw [outS_put rfl rfl rfl (dataF 0 n) hfd hld, right_data _ _ false 5 0 n (by omega) (by omega) (by omega) (by omega) (by omega), judged_rS]
  rw [show decide (0 = 1) = false from rfl]
  have h3 := outS_put (s := rS (65535 - n - n - n - n) ([] ++ zeros n ++ zeros n ++ zeros n ++ zeros n) false false 6) rfl rfl rfl (rstF 3 8) (rst_fits 3 8 (by decide)) (by simp [rstF, numB_length]) []
  rw [List.append_nil, right_rst _ _ 6 (by omega), judged_rS, outS_nil rfl] at h3
  rw [h3, show (65535 : Int) - n - n - n - n = 65535 - 4 * n from by omega, List.nil_append]
/-- More room. -/
theorem in_more (win : Int) (d : List UInt8) (more : Nat) (h1 : 1 ≤ more) (h2 : more ≤ 30000) (h3 : 0 ≤ win) (h4 : win ≤ 100000) :
    inS (rS win d false true 7) (putB (updF 1 more) ++ putB (updF 0 more)) = rS (win + more) d false true 7 := by
  have hc : cutW win = win := cutW_id _ ⟨by omega, by omega⟩
  have hc0 : cutW 0 = 0 := by decide
  rw [inS_put rfl rfl rfl rfl (updF 1 more) (upd_fits 1 more (by decide)) (by simp [updF, numB_length]), hears_upd _ _ _ h1 (by omega)]
  have hg1 : grantS win 0 more 0 = (win + more, 0, noFault) := by
    unfold grantS
    rw [if_neg (by omega), if_neg (by omega), if_neg (by omega)]
    simp
  have e1 : grantedS (rS win d false true 7) 1 more = { rS win d false true 7 with m := [(1, ⟨win + more, true, false, false, d⟩), (3, ⟨65535, false, false, true, []⟩)] } := by
    unfold grantedS
    rw [if_neg (by omega), show idxS (rS win d false true 7) 1 = some 0 from rfl]
    simp only [show strOf (rS win d false true 7) 0 = ⟨win, true, false, false, d⟩ from rfl, hc, hc0, hg1]
    rfl
  rw [e1]
  have h := inS_put (s := { rS win d false true 7 with m := [(1, ⟨win + more, true, false, false, d⟩), (3, ⟨65535, false, false, true, []⟩)] }) rfl rfl rfl rfl (updF 0 more) (upd_fits 0 more (by decide)) (by simp [updF, numB_length]) []
  have hg2 : grantS 0 win 0 more = (0, win + more, noFault) := by
    unfold grantS
    rw [if_neg (by omega), if_neg (by omega), if_neg (by omega)]
    simp
  have e2 : grantedS { rS win d false true 7 with m := [(1, ⟨win + more, true, false, false, d⟩), (3, ⟨65535, false, false, true, []⟩)] } 0 more = rS (win + more) d false true 7 := by
    unfold grantedS
    rw [if_pos rfl]
    simp only [show (rS win d false true 7).window = win from rfl, hc, hc0, hg2]
    rfl
  rw [List.append_nil, hears_upd _ _ _ h1 (by omega), e2, inS_nil rfl rfl] at h
  exact h
theorem out_two (win : Int) (d : List UInt8) (m : Nat) (hm : m ≤ 16384) (hw : m ≤ win) (hw2 : win ≤ 2147483647) : outS (rS win d false true 7) (putB (dataF 1 m)) = rS (win - m) (d ++ zeros m) true true 8 := by
  have h := outS_put (s := rS win d false true 7) rfl rfl rfl (dataF 1 m) (data_fits 1 m (by omega) hm) (by simp [dataF, zeros]; omega) []
  rw [List.append_nil, right_data win d true 7 1 m (by omega) (by omega) hm hw hw2, judged_rS, outS_nil rfl] at h
  exact h
theorem sent1 (win : Int) (d : List UInt8) (e r : Bool) (f : Nat) : sentS (rS win d e r f) 1 = d := rfl
theorem sent3 (win : Int) (d : List UInt8) (e r : Bool) (f : Nat) : sentS (rS win d e r f) 3 = [] := rfl
end Go.Proofs.YthmfifcogokpoaaDoor
namespace Go.Proofs.YthmfifcogokpoaaDoor
open Go.RowKit

noncomputable def rgBody : Code := Tryd.f6.body.getD .skip
abbrev RgP (w : World) : Exit → Act → World → Prop := bodyPost Tryd.prog Tryd.f6 (TrueQ w)

theorem upd_frames2 (n1 m1 n2 m2 : Nat) (h1 : n1 ≤ 2147483647) (h2 : n2 ≤ 2147483647) (W : World) (A1 : Option Addr) (c1 : Nat) (S1 : Own) (hr1 : Row 5 1 A1 4 c1 (bys (numB m1 4)) S1 W) (A2 : Option Addr) (c2 : Nat) (S2 : Own) (hr2 : Row 5 1 A2 4 c2 (bys (numB m2 4)) S2 W) (g : Nat) (hg : g = W.heap.size) :
    Calls Tryd.prog 10 #[.slice (some ⟨g, 0, none⟩) 2 2] (W.alloc (.cells #[.int .i64 8, .int .i64 0, .int .i64 n1, .slice A1 4 c1, .int .i64 8, .int .i64 0, .int .i64 n2, .slice A2 4 c2] 29)) (OwnQ (putB (updF n1 m1) ++ putB (updF n2 m2)) (W.alloc (.cells #[.int .i64 8, .int .i64 0, .int .i64 n1, .slice A1 4 c1, .int .i64 8, .int .i64 0, .int .i64 n2, .slice A2 4 c2] 29))) := by
  subst hg
  have e1 : (updF n1 m1).body.length = 4 := numB_length m1 4
  have e2 : (updF n2 m2).body.length = 4 := numB_length m2 4
  have hcs : frCells [(updF n1 m1, A1, c1), (updF n2 m2, A2, c2)] = [.int .i64 8, .int .i64 0, .int .i64 n1, .slice A1 4 c1, .int .i64 8, .int .i64 0, .int .i64 n2, .slice A2 4 c2] := by
    simp only [frCells, List.flatMap_cons, List.flatMap_nil, e1, e2]
    rfl
  have h := frames_blk [(updF n1 m1, A1, c1), (updF n2 m2, A2, c2)] (W := W.alloc (.cells #[.int .i64 8, .int .i64 0, .int .i64 n1, .slice A1 4 c1, .int .i64 8, .int .i64 0, .int .i64 n2, .slice A2 4 c2] 29)) (g := W.heap.size) (by rw [hcs]; exact Blk.new W _ [.int .i64 8, .int .i64 0, .int .i64 n1, .slice A1 4 c1, .int .i64 8, .int .i64 0, .int .i64 n2, .slice A2 4 c2]) (by simp) (fun x hx => by
    simp only [List.mem_cons, List.not_mem_nil, or_false] at hx
    rcases hx with rfl | rfl
    · exact ⟨upd_fits n1 m1 h1, by rw [e1]; exact hr1.rd.alloc (by omega) _, fun k hk => by have := hr1.lt k (hr1.block k hk); simp; omega⟩
    · exact ⟨upd_fits n2 m2 h2, by rw [e2]; exact hr2.rd.alloc (by omega) _, fun k hk => by have := hr2.lt k (hr2.block k hk); simp; omega⟩) (by simp [allB, putB_length, e1, e2])
  simpa [allB] using h

theorem made_zeros (n : Nat) : madeCells #[.int .u8 0] n = (bys (zeros n)).toArray := by
  apply Array.ext
  · simp [madeCells, bys, zeros]
  · intro i h1 h2
    simp [madeCells, bys, zeros, by8, Nat.mod_one]
theorem run_makeBytes (n : Nat) (hn : n ≤ 100000) (W : World) : (Instr.makeSlice 26 (.int .i64 n) (.int .i64 n)).run Tryd.prog W = .ok (.slice (some ⟨W.heap.size, 0, none⟩) n n) (W.alloc (.cells (bys (zeros n)).toArray 5)) := by
  obtain ⟨i, hi, hz, hs, hb⟩ := bytesInfo
  have h := run_make (P := Tryd.prog) W 26 5 i (.int .u8 0) Tryd.underlying26 hi hz .i64 .i64 n n (by omega) (by omega) (by rw [hb]; omega) (by omega)
  rw [hs] at h
  simp only [Int.toNat_natCast, Nat.mul_one] at h
  rw [show (Value.int IntKind.u8 0).cells = #[.int .u8 0] from rfl, made_zeros] at h
  exact h
theorem row_zeros (n : Nat) (hn : n ≤ 100000) (W : World) : Row 5 1 (some ⟨W.heap.size, 0, none⟩) n n (bys (zeros n)) (· = W.heap.size) (W.alloc (.cells (bys (zeros n)).toArray 5)) :=
  Row.made (cs := bys (zeros n)) (Blk.new W _ _) (Nat.le_refl _) (by simp only [maxLen]; omega) (by rw [bys_length, zeros_length]; omega) (by rw [Nat.mul_one, List.take_of_length_le (by rw [bys_length, zeros_length]; exact Nat.le_refl _)])
theorem data_frames (fl n : Nat) (h : fl ≤ 1) (hn : n ≤ 16384) (W : World) (A : Option Addr) (c : Nat) (S1 : Own) (hr : Row 5 1 A n c (bys (zeros n)) S1 W) (g : Nat) (hg : g = W.heap.size) :
    Calls Tryd.prog 10 #[.slice (some ⟨g, 0, none⟩) 1 1] (W.alloc (.cells #[.int .i64 0, .int .i64 fl, .int .i64 1, .slice A n c] 29)) (OwnQ (putB (dataF fl n)) (W.alloc (.cells #[.int .i64 0, .int .i64 fl, .int .i64 1, .slice A n c] 29))) := by
  have e : (dataF fl n).body.length = n := zeros_length n
  have h := frames_one (dataF fl n) (data_fits fl n h hn) W (A := A) (c := c) (S1 := S1) (by rw [e]; exact hr) g hg
  rw [e] at h
  exact h

set_option maxRecDepth 100000 in
set_option maxHeartbeats 1000000 in
theorem rg_end (w W : World) (b n more : Nat) (S : Own) (hn : n ≤ 16000) (hm1 : 1 ≤ more) (hm2 : more ≤ 30000) (d : List UInt8) (hd : d.length = 4 * n) (h : Hold w W b (rS (65535 - 4 * n) d false true 7) S) {B : Nat} (hok : WOk B (rS (65535 - 4 * n) d false true 7)) (hB : B ≤ 1000000) (u2 u3 u4 u6 u7 u9 u10 u11 u12 u13 u14 u15 u16 u17 u18 u19 u20 u21 u22 u23 u24 u25 u26 u27 u28 u29 u30 u31 u32 u33 u34 u35 u36 u37 u38 u39 u40 u41 u42 u43 u44 u45 u46 u47 u48 u49 u50 u51 u52 u53 u54 u55 u56 u57 u58 u59 u60 u61 u62 u63 u64 u65 u66 u67 u68 u69 u70 u71 u72 u73 u74 u75 u76 u77 u78 u79 u80 u81 u82 u83 u84 u85 u86 u87 u88 u89 u90 u91 u92 u93 u94 u95 u96 u97 u98 u99 u100 u101 u102 u103 u104 u105 u106 u107 u108 u109 u110 u111 u112 u113 u114 u115 u116 u117 : Value) :
    tailW Tryd.prog 8 rgBody (RgP w) ⟨#[.int .i64 n, .int .i64 more, u2, u3, u4, .pointer (some ⟨b, 0, none⟩), u6, u7, .int .i64 0, u9, u10, u11, u12, u13, u14, u15, u16, u17, u18, u19, u20, u21, u22, u23, u24, u25, u26, u27, u28, u29, u30, u31, u32, u33, u34, u35, u36, u37, u38, u39, u40, u41, u42, u43, u44, u45, u46, u47, u48, u49, u50, u51, u52, u53, u54, u55, u56, u57, u58, u59, u60, u61, u62, u63, u64, u65, u66, u67, u68, u69, u70, u71, u72, u73, u74, u75, u76, u77, u78, u79, u80, u81, u82, u83, u84, u85, u86, u87, u88, u89, u90, u91, u92, u93, u94, u95, u96, u97, u98, u99, u100, u101, u102, u103, u104, u105, u106, u107, u108, u109, u110, u111, u112, u113, u114, u115, u116, u117], []⟩ W := by
  have HH := Lib.hid h
  obtain ⟨m, hm⟩ : ∃ m : Nat, min (65535 - 4 * (n : Int) + more) 16384 = m := ⟨(min (65535 - 4 * (n : Int) + more) 16384).toNat, by omega⟩
  have hmb : m ≤ 16384 := by omega
  have hmw : (m : Int) ≤ 65535 - 4 * (n : Int) + more := by omega
  have hin := in_more (65535 - 4 * (n : Int)) d more hm1 hm2 (by omega) (by omega)
  have hlu : (putB (updF 1 more) ++ putB (updF 0 more)).length ≤ 100 := by rw [List.length_append, putB_length, putB_length]; simp [updF, numB_length]
  have hok2 := inS_ok hok (putB (updF 1 more) ++ putB (updF 0 more))
  rw [hin] at hok2
  have HU1 := Lib.hid (show ∀ W, _ from fun W => upd_row 1 more (by decide) (by omega) W)
  have HU0 := Lib.hid (show ∀ W, _ from fun W => upd_row 0 more (by decide) (by omega) W)
  have HF := Lib.hid (upd_frames2 1 more 0 more (by decide) (by decide))
  have HI := Lib.hid (fun (W : World) (S : Own) (h : HAt W b (rS (65535 - 4 * (n : Int)) d false true 7) S) (A : Option Addr) (c : Nat) (S1 : Own) (hr : Row 5 1 A (putB (updF 1 more) ++ putB (updF 0 more)).length c (bys (putB (updF 1 more) ++ putB (updF 0 more))) S1 W) (ha : Apart S1 S) => in_row h hok hr ha (by omega) _ hin)
  unfold OwnQ at HF
  unfold InQ at HI
  have hout := out_two (65535 - 4 * (n : Int) + more) d m hmb hmw (by omega)
  have hld : (putB (dataF 1 m)).length ≤ 20000 := by rw [putB_length]; simp [dataF, zeros]; omega
  have hok3 := outS_ok hok2 (putB (dataF 1 m)) (by omega)
  rw [hout] at hok3
  have HO := Lib.hid (fun (W : World) (S : Own) (h : HAt W b (rS (65535 - 4 * (n : Int) + more) d false true 7) S) (A : Option Addr) (c : Nat) (S1 : Own) (hr : Row 5 1 A (putB (dataF 1 m)).length c (bys (putB (dataF 1 m))) S1 W) (ha : Apart S1 S) => out_row h hok2 (fun h => by cases h) hr ha (by omega) _ hout 0 rfl)
  have HFD := Lib.hid (data_frames 1 m (by omega) hmb)
  have HMK := run_makeBytes m (by omega)
  have HRZ := Lib.hid (row_zeros m (by omega))
  have hlen : (d ++ zeros m).length = 4 * n + m := by rw [List.length_append, hd, zeros_length]
  have HS1 := Lib.hid (show ∀ (W : World) (S : Own) (h : HAt W b (rS (65535 - 4 * (n : Int) + more - m) (d ++ zeros m) true true 8) S), Calls Tryd.prog 19 #[.pointer (some ⟨b, 0, none⟩), .int .i64 1] W (fun e w' => ∃ A c S', e = .returned (.slice A (4 * n + m) c) ∧ Row 5 1 A (4 * n + m) c (bys (d ++ zeros m)) S' w' ∧ Upd none_ S' W w') from fun W S h => by
    have h1 := sent_h h hok3 (by omega) 1
    rw [sent1] at h1
    unfold OwnQ at h1
    rw [hlen] at h1
    exact h1)
  have HS3 := Lib.hid (show ∀ (W : World) (S : Own) (h : HAt W b (rS (65535 - 4 * (n : Int) + more - m) (d ++ zeros m) true true 8) S), Calls Tryd.prog 19 #[.pointer (some ⟨b, 0, none⟩), .int .i64 3] W (fun e w' => ∃ A c S', e = .returned (.slice A 0 c) ∧ Row 5 1 A 0 c [] S' w' ∧ Upd none_ S' W w') from fun W S h => by
    have h1 := sent_h h hok3 (by omega) 3
    rw [sent3] at h1
    exact h1)
  have HFR := Lib.hid (show ∀ (W : World) (S : Own) (h : HAt W b (rS (65535 - 4 * (n : Int) + more - m) (d ++ zeros m) true true 8) S), Calls Tryd.prog 13 #[.pointer (some ⟨b, 0, none⟩)] W (fun e w' => w' = W ∧ e = .returned (.int .i64 8)) from fun W S h => frames_h h)
  unfold OutR at HO
  unfold OwnQ at HFD
  have t9 : ((4 * n + m : Nat) : Int) = 4 * (n : Int) + (m : Int) := by omega
  have HT9 := Lib.hid t9
  clear h hin hok hd hout hok2 hok3 hlen t9
  generalize rS (65535 - 4 * (n : Int) + more - m) (d ++ zeros m) true true 8 = s3 at *
  generalize rS (65535 - 4 * (n : Int) + more) d false true 7 = s2 at *
  generalize putB (updF 1 more) ++ putB (updF 0 more) = l1 at *
  generalize putB (dataF 1 m) = l2 at *
  clear hlu hld
  show Code.wp _ _ _ _ _
  go_wp2_with (first
    | (go_at_call 16; refine (HU1.out _).mono ?_; rintro e w1 ⟨A1, c1, S1, rfl, hr, hu⟩; have HR1 := Lib.hid hr; have HH1 := Lib.hid (HH.out.fresh hu); clear hr hu HU1)
    | (go_at_call 16; refine (HU0.out _).mono ?_; rintro e w2 ⟨A2, c2, S2, rfl, hr, hu⟩; have HR2 := Lib.hid hr; have HR12 := Lib.hid (HR1.out.upd hu (fun _ _ h => h)); have HH2 := Lib.hid (HH1.out.fresh hu); clear hr hu HU0)
    | (go_at_call 10; refine (HF.out _ A1 c1 S1 HR12.out A2 c2 S2 HR2.out _ (by simp)).mono ?_; rintro e w3 ⟨A3, c3, S3, rfl, hr, hu⟩; have HR3 := Lib.hid hr; have HH3 := Lib.hid ((HH2.out.alloc _).fresh hu); have HA3 := Lib.hid (hu.fresh (HH2.out.alloc _).at_.lt); clear hr hu HF)
    | (go_at_call 9; refine (HI.out _ S HH3.out.at_ A3 c3 S3 HR3.out HA3.out).mono ?_; rintro e w4 ⟨rfl, S4, hh, hu⟩; have HH4 := Lib.hid (HH3.out.turn hh hu); clear hh hu HI)
    | (go_at_call 10; refine (HFD.out _ _ _ _ (HRZ.out w4) _ (by simp)).mono ?_; rintro e w5 ⟨A5, c5, S5, rfl, hr, hu⟩; have HR5 := Lib.hid hr; have HH5 := Lib.hid (((HH4.out.alloc _).alloc _).fresh hu); have HA5 := Lib.hid (hu.fresh ((HH4.out.alloc _).alloc _).at_.lt); clear hr hu HFD)
    | (go_at_call 12; refine (HO.out _ S4 HH5.out.at_ A5 c5 S5 HR5.out HA5.out).mono ?_; rintro e w6 ⟨rfl, S6, hh, hu⟩; have HH6 := Lib.hid (HH5.out.turn hh hu); clear hh hu HO)
    | (go_at_call 7; refine (first_any _ HH6.out.glob).mono ?_; rintro e w7 ⟨rfl, hb⟩; have HH7 := Lib.hid (HH6.out.below hb); clear hb)
    | (go_at_call 19; refine (HS1.out _ S6 HH7.out.at_).mono ?_; rintro e w8 ⟨A8, c8, S8, rfl, hr, hu⟩; have HH8 := Lib.hid (HH7.out.fresh hu); clear hr hu HS1)
    | (go_at_call 19; refine (HS3.out _ S6 HH8.out.at_).mono ?_; rintro e w9 ⟨A9, c9, S9, rfl, hr, hu⟩; have HH9 := Lib.hid (HH8.out.fresh hu); clear hr hu HS3)
    | (go_at_call 13; refine (HFR.out _ S6 HH9.out.at_).mono ?_; rintro e w10 ⟨rfl, rfl⟩)
    | fail)
  go_ret
  exact ⟨rfl, HH9.out.end_⟩
end Go.Proofs.YthmfifcogokpoaaDoor
namespace Go.Proofs.YthmfifcogokpoaaDoor
open Go.RowKit

def left : List Bool → Nat
  | [] => 0
  | b :: r => (if b then 0 else 1) + left r
theorem left_set : ∀ (l : List Bool) (i : Nat), l[i]? = some false → left (l.set i true) + 1 = left l
  | [], _, h => by simp at h
  | b :: r, 0, h => by
    simp at h
    subst h
    simp [left]
    omega
  | b :: r, i + 1, h => by
    have := left_set r i (by simpa using h)
    simp only [List.set_cons_succ, left]
    omega
theorem left_zero : ∀ (l : List Bool), left l = 0 → ∀ (i : Nat), i < l.length → l[i]? = some true
  | [], _, i, h => by simp at h
  | b :: r, h0, 0, _ => by
    cases b
    · simp [left] at h0
    · rfl
  | b :: r, h0, i + 1, h => by
    have := left_zero r (by simp only [left] at h0; omega) i (by simpa using h)
    simpa using this
theorem left_new (n : Nat) : left (List.replicate n false) = n := by
  induction n with
  | zero => rfl
  | succ n ih => simp only [List.replicate_succ, left, ih, Bool.false_eq_true, if_false]; omega

section
variable {P : Program} {ops : Array Oper} {Q : Exit → Act → World → Prop} {md : Region.Mode}

theorem ready_mem {listed : Array Bool} {i : Nat} (hs : listed.size = ops.size) (h : i ∈ Region.ready md ops listed) : i < ops.size ∧ listed[i]? = some false ∧ ∃ o, ops[i]? = some o ∧ ∀ e ∈ o.after, Region.binds md e = true → listed.getD e.on false = true := by
  unfold Region.ready at h
  rw [List.mem_filter] at h
  obtain ⟨h1, h2⟩ := h
  have hi : i < ops.size := by simpa using h1
  simp only [Bool.and_eq_true, Bool.not_eq_true'] at h2
  refine ⟨hi, ?_, ops[i], by simp [hi], ?_⟩
  · have h3 := h2.1
    have hil : i < listed.size := by omega
    simp [Array.getD, hil] at h3
    simp [hil, h3]
  · have h3 := h2.2
    rw [show ops[i]? = some ops[i] by simp [hi]] at h3
    simp only [Option.map_some, Option.getD_some, Array.all_eq_true_iff_forall_mem] at h3
    intro e he hb
    have h4 := h3 e he
    simpa [hb] using h4
theorem ready_none (hac : ∀ (i : Nat) (o : Oper), ops[i]? = some o → ∀ e ∈ o.after, e.on < i) {listed : Array Bool} (hs : listed.size = ops.size) (h : Region.ready md ops listed = []) : ∀ i, i < ops.size → listed[i]? = some true := by
  intro i
  induction i using Nat.strongRecOn with
  | ind i ih =>
    intro hi
    have hil : i < listed.size := by omega
    cases hb : listed[i] with
    | true => simp [hil, hb]
    | false =>
      exfalso
      have hm : i ∈ Region.ready md ops listed := by
        unfold Region.ready
        rw [List.mem_filter]
        refine ⟨by simpa using hi, ?_⟩
        rw [show ops[i]? = some ops[i] by simp [hi]]
        simp only [Bool.and_eq_true, Bool.not_eq_true', Option.map_some, Option.getD_some, Array.all_eq_true_iff_forall_mem, Bool.or_eq_true]
        refine ⟨by simp [Array.getD, hil, hb], fun e he => ?_⟩
        have h1 := hac i ops[i] (by simp [hi]) e he
        have h2 := ih e.on h1 (by omega)
        refine .inr ?_
        obtain ⟨h3, h4⟩ := Array.getElem?_eq_some_iff.1 h2
        simp [Array.getD, h3, h4]
      rw [h] at hm
      cases hm

theorem wpAny_inv (I : Array Bool → Act → World → Prop) (hend : ∀ l a w, l.size = ops.size → I l a w → Region.ready md ops l = [] → Q .normal a w)
    (hstep : ∀ l a w i, l.size = ops.size → I l a w → i ∈ Region.ready md ops l → wpOp P ops Q i (I (l.setIfInBounds i true)) a w) :
    ∀ (fuel : Nat) (l : Array Bool) (a : Act) (w : World), l.size = ops.size → left l.toList ≤ fuel → I l a w → wpAny P md ops Q fuel l a w
  | 0, l, a, w, hs, hf, h => by
    have hr : Region.ready md ops l = [] := by
      refine List.eq_nil_iff_forall_not_mem.2 fun i hi => ?_
      obtain ⟨h1, h2, _⟩ := ready_mem hs hi
      have h3 := left_zero l.toList (by omega) i (by simp; omega)
      rw [Array.getElem?_toList, h2] at h3
      cases h3
    exact ⟨hr, hend l a w hs h hr⟩
  | fuel + 1, l, a, w, hs, hf, h => by
    refine ⟨fun hr => hend l a w hs h hr, fun i hi => ?_⟩
    obtain ⟨h1, h2, _⟩ := ready_mem hs hi
    have h3 := left_set l.toList i (by rw [Array.getElem?_toList]; exact h2)
    exact wpOp_mono (fun a' w' h' => wpAny_inv I hend hstep fuel _ a' w' (by simpa using hs) (by rw [Array.toList_setIfInBounds]; omega) h') (hstep l a w i hs h hi)

theorem wpAny_drawn (hac : ∀ (i : Nat) (o : Oper), ops[i]? = some o → ∀ e ∈ o.after, e.on < i) (a0 : Act) (dst : Nat → Nat) (hdst : ∀ (i : Nat) (o : Oper), ops[i]? = some o → o.dst = some (dst i))
    (hinj : ∀ i j, i < ops.size → j < ops.size → dst i = dst j → i = j) (hlt : ∀ i, i < ops.size → dst i < a0.tmps.size) (V : Nat → World → Value → Prop) (R : World → Prop)
    (hV : ∀ j w w' u, j < ops.size → R w → Below w.heap.size w w' → V j w u → V j w' u)
    (hstep : ∀ (i : Nat) (o : Oper), ops[i]? = some o → ∀ (a : Act) (w : World), R w → (∀ t, (∀ j, j < ops.size → dst j ≠ t) → a.tmps[t]? = a0.tmps[t]?) → (∀ e ∈ o.after, Region.binds md e = true → V e.on w (a.tmps.getD (dst e.on) undef)) →
      ∀ K : Act → World → Prop, (∀ v w', R w' → Below w.heap.size w w' → V i w' v → K (a.put o.dst v) w') → wpOp P ops Q i K a w)
    (w : World) (hw : R w)
    (hend : ∀ a w, R w → a.defers = a0.defers → a.tmps.size = a0.tmps.size → (∀ t, (∀ j, j < ops.size → dst j ≠ t) → a.tmps[t]? = a0.tmps[t]?) → (∀ j, j < ops.size → V j w (a.tmps.getD (dst j) undef)) → Q .normal a w) :
    wpAny P md ops Q ops.size (Array.replicate ops.size false) a0 w := by
  refine wpAny_inv (fun l a w => R w ∧ a.defers = a0.defers ∧ a.tmps.size = a0.tmps.size ∧ (∀ t, (∀ j, j < ops.size → dst j ≠ t) → a.tmps[t]? = a0.tmps[t]?) ∧ ∀ j, j < ops.size → l[j]? = some true → V j w (a.tmps.getD (dst j) undef)) ?_ ?_ _ _ _ _ (by simp) (by simp [left_new]) ⟨hw, rfl, rfl, fun _ _ => rfl, fun j hj h => ?_⟩
  · rintro l a w hs ⟨h1, h2, h3, h4, h5⟩ hr
    exact hend a w h1 h2 h3 h4 fun j hj => h5 j hj (ready_none hac hs hr j hj)
  · rintro l a w i hs ⟨h1, h2, h3, h4, h5⟩ hi
    obtain ⟨g1, g2, o, g3, g4⟩ := ready_mem hs hi
    refine hstep i o g3 a w h1 h4 (fun e he hb => ?_) _ fun v w' k1 k2 k3 => ?_
    · have h6 := g4 e he hb
      have h7 : e.on < l.size := by
        rcases Nat.lt_or_ge e.on l.size with h | h
        · exact h
        · simp [Array.getD, Nat.not_lt.2 h] at h6
      refine h5 e.on (by omega) ?_
      simp [Array.getD, h7] at h6
      simp [h7, h6]
    · have hd := hdst i o g3
      have hl := hlt i g1
      refine ⟨k1, ?_, ?_, fun t ht => ?_, fun j hj hlj => ?_⟩
      · rw [hd]; exact h2
      · rw [hd]; simp [Act.put, h3]
      · rw [hd, ← h4 t ht]
        simp only [Act.put]
        rw [Array.getElem?_setIfInBounds_ne]
        exact ht i g1
      · rw [hd]
        by_cases hij : i = j
        · subst hij
          have e1 : (a.put (some (dst i)) v).tmps.getD (dst i) undef = v := by simp [Act.put, Array.getD, h3, hl]
          rw [e1]
          exact k3
        · have e1 : (a.put (some (dst i)) v).tmps.getD (dst j) undef = a.tmps.getD (dst j) undef := by
            have hne : dst i ≠ dst j := fun e => hij (hinj i j g1 hj e)
            simp only [Act.put, Array.getD_eq_getD_getElem?]
            rw [Array.getElem?_setIfInBounds_ne hne]
          rw [e1]
          refine hV j w w' _ hj h1 k2 (h5 j hj ?_)
          rw [Array.getElem?_setIfInBounds_ne hij] at hlj
          exact hlj
  · rw [Array.getElem?_replicate] at h
    split at h <;> cases h

/-! ### Single operations -/
theorem wpOp_go {i : Nat} {o : Oper} {K : Act → World → Prop} {a : Act} {w : World} (ho : ops[i]? = some o) (hg : o.guard = none) (h : o.wp P a w K Q) : wpOp P ops Q i K a w := by
  unfold wpOp
  simp only [ho]
  rw [if_pos (by simp [Region.wanted, hg])]
  exact .inl h
theorem wp_built {o : Oper} {a : Act} {w : World} {K : Act → World → Prop} (t : TypeId) (parts : Array (Nat × Operand)) (ho : o.op = .build t parts) (pv : Array (Nat × Value)) (hp : (parts.map fun (i, x) => (i, a.eval x)) = pv) (cells : Array Value) (hf : P.built t pv.toList = some cells)
    (h : K (a.put o.dst (.agg cells)) w) : o.wp P a w K Q := by
  unfold Oper.wp execOp
  simp only [ho, Sem.run_bind, hp, run_build w t pv cells hf, Result.andThen_ok]
  exact h
theorem wp_builtS {o : Oper} {a : Act} {w : World} {K : Act → World → Prop} (t e : TypeId) (len : Nat) (parts : Array (Nat × Operand)) (ho : o.op = .buildSlice t len parts) (hu : P.underlying t = some (.slice e)) (pv : Array (Nat × Value)) (hp : (parts.map fun (i, x) => (i, a.eval x)) = pv) (cells : Array Value) (hf : P.builtSlice e len pv.toList = some cells)
    (h : K (a.put o.dst (.slice (some ⟨w.heap.size, 0, none⟩) len len)) (w.alloc (.cells cells e))) : o.wp P a w K Q := by
  subst hp
  unfold Program.builtSlice at hf
  cases hie : P.info? e with
  | none => simp [hie] at hf
  | some ie =>
    simp only [hie] at hf
    cases hz : ie.zero with
    | none => simp [hz] at hf
    | some z =>
      simp only [hz] at hf
      by_cases hc : len * ie.size > 2 ^ 24 ∨ len * ie.size = 0
      · simp [hc] at hf
      · rw [if_neg hc] at hf
        exact wp_buildSlice t e len parts ho cells ie z hu hie hz (fun h' => hc (Or.inl h')) (fun h' => hc (Or.inr h')) hf h
theorem wp_loaded {o : Oper} {a : Act} {w : World} {K : Act → World → Prop} (t : TypeId) (x : Operand) (ho : o.op = .load t x) (p v : Value) (hx : a.eval x = p) (hl : (Instr.loadAt t p).run P w = .ok v w) (h : K (a.put o.dst v) w) : o.wp P a w K Q := by
  unfold Oper.wp execOp
  simp only [ho, Sem.run_bind, hx, hl, Result.andThen_ok]
  exact h
theorem wp_set {o : Oper} {a : Act} {w : World} {K : Act → World → Prop} (x : Operand) (ho : o.op = .assign x) (h : K (a.put o.dst (a.eval x)) w) : o.wp P a w K Q := by
  unfold Oper.wp execOp
  simp only [ho]
  exact h
end

/-- An array of a length. -/
theorem array_of (n : Nat) (t : Array Value) (h : t.size = n) : t = Array.ofFn (fun i : Fin n => t.getD i undef) := by
  subst h
  apply Array.ext
  · simp
  · intro i h1 h2
    simp [Array.getD, h1]
end Go.Proofs.YthmfifcogokpoaaDoor
