/-
  NARROWER THAN 'FOR EVERY INPUT', by the rows' own cells (each row's printed sentence says how): WatchFinds: laid · WatchBlind: laid · WatchPieces: laid · WatchRight: laid.
  DERIVED. THE GIVEN ROWS OF THIS SEAT. 4 by the template 'for every input the law returns true; each argument reads behind the call as it read before'; 0 by the template 'total and deterministic' (their statements: YthmfifcogokpoaaDoorTotals.lean).
  GIVEN WITH THE SEED: the statements are not yours to turn. If you find one false, say at which input.
  Laid BY PROGRAM, IN A SANDBOX (cutbox-rows.mjs): the forced cells as the released guide's own fill.sh prints them over the translation c446c726f3416519… (all of the seat's roots in one cut). By AI agents, Wed Nov 11 2026. No macro, syntax, notation, axiom, sorry.
-/
import Derived.Test.YthmfifcogokpoaaDoorChecked
import GoSem.PinnedTables
import GoSem.Claim
import GoSem.ClaimJoined
import GoSem.ClaimMapViews
import Derived.JoinedTies
import Derived.KernelRfl
namespace Go.Proofs.YthmfifcogokpoaaDoor
/- THE CELL 'sum', in the pinned program and in every row, IS THE sha256 OF THE DUMP (.gsa) THAT YthmfifcogokpoaaDoorProg.lean LOADS. Nothing in Lean hashes anything: it is a label: what it is worth is what the hold of that sum in a sandbox is worth. -/
noncomputable def Tryd.pinned : Pinned := { name := "ythmfifcogokpoaadoor", sum := "c446c726f34165190749e90d5467eea412df4864ef9eca616c25b1f5b03fc599", checked := Tryd.checked }
namespace Rows
def none {H : Type} : Left H := { results := [], args := [] }

/- WHAT THE LISTED PACKAGE-LEVEL VARIABLES READ AS WHEN THE CALL BEGINS. Each datum BY PROGRAM (the guide's laid-datum.mjs) off the statement by which the dump's own 'gosem.cut.vars' lays the variable. In a bare row this is a premise. The card (YthmfifcogokpoaaDoorCards.lean) ties it to the program's text. -/
def laid_unicode_utf8_acceptRanges {H : Type} : DataW H := .agg [.agg [.lit (.int .u8 128), .lit (.int .u8 191)], .agg [.lit (.int .u8 160), .lit (.int .u8 191)], .agg [.lit (.int .u8 128), .lit (.int .u8 159)], .agg [.lit (.int .u8 144), .lit (.int .u8 191)], .agg [.lit (.int .u8 128), .lit (.int .u8 143)], .agg [.lit (.int .u8 0), .lit (.int .u8 0)], .agg [.lit (.int .u8 0), .lit (.int .u8 0)], .agg [.lit (.int .u8 0), .lit (.int .u8 0)], .agg [.lit (.int .u8 0), .lit (.int .u8 0)], .agg [.lit (.int .u8 0), .lit (.int .u8 0)], .agg [.lit (.int .u8 0), .lit (.int .u8 0)], .agg [.lit (.int .u8 0), .lit (.int .u8 0)], .agg [.lit (.int .u8 0), .lit (.int .u8 0)], .agg [.lit (.int .u8 0), .lit (.int .u8 0)], .agg [.lit (.int .u8 0), .lit (.int .u8 0)], .agg [.lit (.int .u8 0), .lit (.int .u8 0)]]
/-- One of Go's own tables, pinned by name: the form's constant. -/
def laid_unicode_utf8_first : DataW Unit := Go.Pinned.utf8First

/-- 'wlvlaw27.WatchFinds': WHATEVER THE INPUT: true; the input reads as it did. -/
def watchFindsSpec : ChangeSpec := { name := "watchFinds", fn := fun _ => fun
  | [d] => { results := [.lit (.bool true)], args := [d] }
  | _ => none }
def watchFindsRow : OpenClaim := { program := "ythmfifcogokpoaadoor", sum := "c446c726f34165190749e90d5467eea412df4864ef9eca616c25b1f5b03fc599", func := "wayleave/wlvlaw27.WatchFinds", spec := "watchFinds", inPlace := ["internal/bytealg.CountString", "internal/bytealg.IndexByteString", "internal/bytealg.IndexString"], named := ["unicode/utf8.first", "unicode/utf8.acceptRanges", "internal/bytealg.MaxLen"], apart := false, laid := [("unicode/utf8.acceptRanges", laid_unicode_utf8_acceptRanges), ("unicode/utf8.first", laid_unicode_utf8_first)] }
def WatchFindsSaid : Prop := watchFindsRow.holds Tryd.pinned (OpenSpec.ofChange watchFindsSpec)

/-- ITS FALSE NEIGHBOUR: 'it returns false'. Refute it at one input. -/
def watchFindsWrong : ChangeSpec := { name := "watchFinds", fn := fun _ => fun
  | [d] => { results := [.lit (.bool false)], args := [d] }
  | _ => none }
def WatchFindsWrongFalsely : Prop := watchFindsRow.holds Tryd.pinned (OpenSpec.ofChange watchFindsWrong)

/-- 'wlvlaw27.WatchBlind': WHATEVER THE INPUT: true; the input reads as it did. -/
def watchBlindSpec : ChangeSpec := { name := "watchBlind", fn := fun _ => fun
  | [d1, d2] => { results := [.lit (.bool true)], args := [d1, d2] }
  | _ => none }
def watchBlindRow : OpenClaim := { program := "ythmfifcogokpoaadoor", sum := "c446c726f34165190749e90d5467eea412df4864ef9eca616c25b1f5b03fc599", func := "wayleave/wlvlaw27.WatchBlind", spec := "watchBlind", inPlace := ["internal/bytealg.CountString", "internal/bytealg.IndexByteString", "internal/bytealg.IndexString"], named := ["unicode/utf8.first", "unicode/utf8.acceptRanges", "internal/bytealg.MaxLen"], apart := false, laid := [("unicode/utf8.acceptRanges", laid_unicode_utf8_acceptRanges), ("unicode/utf8.first", laid_unicode_utf8_first)] }
def WatchBlindSaid : Prop := watchBlindRow.holds Tryd.pinned (OpenSpec.ofChange watchBlindSpec)

/-- ITS FALSE NEIGHBOUR: 'it returns false'. Refute it at one input. -/
def watchBlindWrong : ChangeSpec := { name := "watchBlind", fn := fun _ => fun
  | [d1, d2] => { results := [.lit (.bool false)], args := [d1, d2] }
  | _ => none }
def WatchBlindWrongFalsely : Prop := watchBlindRow.holds Tryd.pinned (OpenSpec.ofChange watchBlindWrong)

/-- 'wlvlaw27.WatchPieces': WHATEVER THE INPUT: true; the input reads as it did. -/
def watchPiecesSpec : ChangeSpec := { name := "watchPieces", fn := fun _ => fun
  | [d1, d2] => { results := [.lit (.bool true)], args := [d1, d2] }
  | _ => none }
def watchPiecesRow : OpenClaim := { program := "ythmfifcogokpoaadoor", sum := "c446c726f34165190749e90d5467eea412df4864ef9eca616c25b1f5b03fc599", func := "wayleave/wlvlaw27.WatchPieces", spec := "watchPieces", inPlace := ["internal/bytealg.CountString", "internal/bytealg.IndexByteString", "internal/bytealg.IndexString"], named := ["unicode/utf8.first", "unicode/utf8.acceptRanges", "internal/bytealg.MaxLen"], apart := false, laid := [("unicode/utf8.acceptRanges", laid_unicode_utf8_acceptRanges), ("unicode/utf8.first", laid_unicode_utf8_first)] }
def WatchPiecesSaid : Prop := watchPiecesRow.holds Tryd.pinned (OpenSpec.ofChange watchPiecesSpec)

/-- ITS FALSE NEIGHBOUR: 'it returns false'. Refute it at one input. -/
def watchPiecesWrong : ChangeSpec := { name := "watchPieces", fn := fun _ => fun
  | [d1, d2] => { results := [.lit (.bool false)], args := [d1, d2] }
  | _ => none }
def WatchPiecesWrongFalsely : Prop := watchPiecesRow.holds Tryd.pinned (OpenSpec.ofChange watchPiecesWrong)

/-- 'wlvlaw27.WatchRight': WHATEVER THE INPUT: true; the input reads as it did. -/
def watchRightSpec : ChangeSpec := { name := "watchRight", fn := fun _ => fun
  | [d1, d2] => { results := [.lit (.bool true)], args := [d1, d2] }
  | _ => none }
def watchRightRow : OpenClaim := { program := "ythmfifcogokpoaadoor", sum := "c446c726f34165190749e90d5467eea412df4864ef9eca616c25b1f5b03fc599", func := "wayleave/wlvlaw27.WatchRight", spec := "watchRight", inPlace := ["internal/bytealg.CountString", "internal/bytealg.IndexByteString", "internal/bytealg.IndexString"], named := ["unicode/utf8.first", "unicode/utf8.acceptRanges", "internal/bytealg.MaxLen"], apart := false, laid := [("unicode/utf8.acceptRanges", laid_unicode_utf8_acceptRanges), ("unicode/utf8.first", laid_unicode_utf8_first)] }
def WatchRightSaid : Prop := watchRightRow.holds Tryd.pinned (OpenSpec.ofChange watchRightSpec)

/-- ITS FALSE NEIGHBOUR: 'it returns false'. Refute it at one input. -/
def watchRightWrong : ChangeSpec := { name := "watchRight", fn := fun _ => fun
  | [d1, d2] => { results := [.lit (.bool false)], args := [d1, d2] }
  | _ => none }
def WatchRightWrongFalsely : Prop := watchRightRow.holds Tryd.pinned (OpenSpec.ofChange watchRightWrong)

/- THE SECOND FORM. 'bulk': how many values and letters a reading holds, each counted each time it is reached (what is shared counts as often as it is met; a slice's spare places count too). A statement '..UptoSaid' is the law's where the arguments, and the package variables that the reading takes, are together of bulk at most 1048576: NARROWER than '..Said'. Prove '..Said' where nothing that the law and all that it calls make is longer than what came in: it says more and counts as full. Else prove '..UptoSaid'. A law counts once. -/
mutual
def uptoBulk {H : Type} : DataW H → Nat
  | .lit (.string bytes) => bytes.length + 1
  | .lit _ => 1
  | .nil => 1
  | .ptr d => uptoBulk d + 1
  | .slice elems spare => uptoBulkAll elems + uptoBulkAll spare + 1
  | .agg parts => uptoBulkAll parts + 1
  | .iface _ d => uptoBulk d + 1
  | .map entries => uptoBulkEntries entries + 1
  | .held _ => 1
def uptoBulkAll {H : Type} : List (DataW H) → Nat
  | [] => 0
  | d :: r => uptoBulk d + uptoBulkAll r
def uptoBulkEntries {H : Type} : List (Lit × DataW H) → Nat
  | [] => 0
  | x :: r => uptoBulkEntry x + uptoBulkEntries r
def uptoBulkEntry {H : Type} : Lit × DataW H → Nat
  | (.string bytes, d) => bytes.length + uptoBulk d + 1
  | (_, d) => uptoBulk d + 1
 end
def uptoSmall : (H : Type) → List (DataW H) → Bool := fun _ ds => decide (uptoBulkAll ds ≤ 1048576)
def OpenSpec.upto (s : _root_.Go.ChangeSpec) : _root_.Go.OpenSpec := { _root_.Go.OpenSpec.ofChange s with cond := some uptoSmall }

/-- 'wlvlaw27.WatchFinds', WHERE WHAT IT READS IS OF BULK AT MOST 1048576: true; the input reads as it did. -/
def watchFindsUptoRow : OpenClaim := { program := "ythmfifcogokpoaadoor", sum := "c446c726f34165190749e90d5467eea412df4864ef9eca616c25b1f5b03fc599", func := "wayleave/wlvlaw27.WatchFinds", spec := "watchFinds", inPlace := ["internal/bytealg.CountString", "internal/bytealg.IndexByteString", "internal/bytealg.IndexString"], named := ["unicode/utf8.first", "unicode/utf8.acceptRanges", "internal/bytealg.MaxLen"], apart := false, laid := [("unicode/utf8.acceptRanges", laid_unicode_utf8_acceptRanges), ("unicode/utf8.first", laid_unicode_utf8_first)], narrowed := true }
def WatchFindsUptoSaid : Prop := watchFindsUptoRow.holds Tryd.pinned (OpenSpec.upto watchFindsSpec)

/-- 'wlvlaw27.WatchBlind', WHERE WHAT IT READS IS OF BULK AT MOST 1048576: true; the input reads as it did. -/
def watchBlindUptoRow : OpenClaim := { program := "ythmfifcogokpoaadoor", sum := "c446c726f34165190749e90d5467eea412df4864ef9eca616c25b1f5b03fc599", func := "wayleave/wlvlaw27.WatchBlind", spec := "watchBlind", inPlace := ["internal/bytealg.CountString", "internal/bytealg.IndexByteString", "internal/bytealg.IndexString"], named := ["unicode/utf8.first", "unicode/utf8.acceptRanges", "internal/bytealg.MaxLen"], apart := false, laid := [("unicode/utf8.acceptRanges", laid_unicode_utf8_acceptRanges), ("unicode/utf8.first", laid_unicode_utf8_first)], narrowed := true }
def WatchBlindUptoSaid : Prop := watchBlindUptoRow.holds Tryd.pinned (OpenSpec.upto watchBlindSpec)

/-- 'wlvlaw27.WatchPieces', WHERE WHAT IT READS IS OF BULK AT MOST 1048576: true; the input reads as it did. -/
def watchPiecesUptoRow : OpenClaim := { program := "ythmfifcogokpoaadoor", sum := "c446c726f34165190749e90d5467eea412df4864ef9eca616c25b1f5b03fc599", func := "wayleave/wlvlaw27.WatchPieces", spec := "watchPieces", inPlace := ["internal/bytealg.CountString", "internal/bytealg.IndexByteString", "internal/bytealg.IndexString"], named := ["unicode/utf8.first", "unicode/utf8.acceptRanges", "internal/bytealg.MaxLen"], apart := false, laid := [("unicode/utf8.acceptRanges", laid_unicode_utf8_acceptRanges), ("unicode/utf8.first", laid_unicode_utf8_first)], narrowed := true }
def WatchPiecesUptoSaid : Prop := watchPiecesUptoRow.holds Tryd.pinned (OpenSpec.upto watchPiecesSpec)

/-- 'wlvlaw27.WatchRight', WHERE WHAT IT READS IS OF BULK AT MOST 1048576: true; the input reads as it did. -/
def watchRightUptoRow : OpenClaim := { program := "ythmfifcogokpoaadoor", sum := "c446c726f34165190749e90d5467eea412df4864ef9eca616c25b1f5b03fc599", func := "wayleave/wlvlaw27.WatchRight", spec := "watchRight", inPlace := ["internal/bytealg.CountString", "internal/bytealg.IndexByteString", "internal/bytealg.IndexString"], named := ["unicode/utf8.first", "unicode/utf8.acceptRanges", "internal/bytealg.MaxLen"], apart := false, laid := [("unicode/utf8.acceptRanges", laid_unicode_utf8_acceptRanges), ("unicode/utf8.first", laid_unicode_utf8_first)], narrowed := true }
def WatchRightUptoSaid : Prop := watchRightUptoRow.holds Tryd.pinned (OpenSpec.upto watchRightSpec)

end Rows
end Go.Proofs.YthmfifcogokpoaaDoor
