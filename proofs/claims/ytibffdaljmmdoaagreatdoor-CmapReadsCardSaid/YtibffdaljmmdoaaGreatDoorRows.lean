/-
  NARROWER THAN 'FOR EVERY INPUT', by the rows' own cells (each row's printed sentence says how): CmapReads: laid · CmapTexts: laid · CmapBack: laid · CmapUnits: laid · CmapRanges: laid.
  DERIVED. THE GIVEN ROWS OF THIS SEAT. 5 by the template 'for every input the law returns true; each argument reads behind the call as it read before'; 0 by the template 'total and deterministic' (their statements: YtibffdaljmmdoaaGreatDoorTotals.lean).
  GIVEN WITH THE SEED: the statements are not yours to turn. If you find one false, say at which input.
  Laid BY PROGRAM, IN A SANDBOX (cutbox-rows.mjs): the forced cells as the released guide's own fill.sh prints them over the translation 63dbddcc9a2224c7… (all of the seat's roots in one cut). By AI agents, Wed Nov 11 2026. No macro, syntax, notation, axiom, sorry.
-/
import Derived.Test.YtibffdaljmmdoaaGreatDoorChecked
import GoSem.PinnedTables
import GoSem.Claim
import GoSem.ClaimJoined
import GoSem.ClaimMapViews
import Derived.JoinedTies
import Derived.KernelRfl
namespace Go.Proofs.YtibffdaljmmdoaaGreatDoor
/- THE CELL 'sum', in the pinned program and in every row, IS THE sha256 OF THE DUMP (.gsa) THAT YtibffdaljmmdoaaGreatDoorProg.lean LOADS. Nothing in Lean hashes anything: it is a label: what it is worth is what the hold of that sum in a sandbox is worth. -/
noncomputable def Tryz.pinned : Pinned := { name := "ytibffdaljmmdoaagreatdoor", sum := "63dbddcc9a2224c79d620d9727801276cd7c9712949ac9ac2e6af78be9d58706", checked := Tryz.checked }
namespace Rows
def none {H : Type} : Left H := { results := [], args := [] }

/- WHAT THE LISTED PACKAGE-LEVEL VARIABLES READ AS WHEN THE CALL BEGINS. Each datum BY PROGRAM (the guide's laid-datum.mjs) off the statement by which the dump's own 'gosem.cut.vars' lays the variable. In a bare row this is a premise. The card (YtibffdaljmmdoaaGreatDoorCards.lean) ties it to the program's text. -/
def laid_unicode_utf8_acceptRanges {H : Type} : DataW H := .agg [.agg [.lit (.int .u8 128), .lit (.int .u8 191)], .agg [.lit (.int .u8 160), .lit (.int .u8 191)], .agg [.lit (.int .u8 128), .lit (.int .u8 159)], .agg [.lit (.int .u8 144), .lit (.int .u8 191)], .agg [.lit (.int .u8 128), .lit (.int .u8 143)], .agg [.lit (.int .u8 0), .lit (.int .u8 0)], .agg [.lit (.int .u8 0), .lit (.int .u8 0)], .agg [.lit (.int .u8 0), .lit (.int .u8 0)], .agg [.lit (.int .u8 0), .lit (.int .u8 0)], .agg [.lit (.int .u8 0), .lit (.int .u8 0)], .agg [.lit (.int .u8 0), .lit (.int .u8 0)], .agg [.lit (.int .u8 0), .lit (.int .u8 0)], .agg [.lit (.int .u8 0), .lit (.int .u8 0)], .agg [.lit (.int .u8 0), .lit (.int .u8 0)], .agg [.lit (.int .u8 0), .lit (.int .u8 0)], .agg [.lit (.int .u8 0), .lit (.int .u8 0)]]
/-- One of Go's own tables, pinned by name: the form's constant. -/
def laid_unicode_utf8_first : DataW Unit := Go.Pinned.utf8First

/-- 'foliantlaw46.CmapReads': WHATEVER THE INPUT: true; the input reads as it did. -/
def cmapReadsSpec : ChangeSpec := { name := "cmapReads", fn := fun _ => fun
  | [d1, d2] => { results := [.lit (.bool true)], args := [d1, d2] }
  | _ => none }
def cmapReadsRow : OpenClaim := { program := "ytibffdaljmmdoaagreatdoor", sum := "63dbddcc9a2224c79d620d9727801276cd7c9712949ac9ac2e6af78be9d58706", func := "foliant/foliantlaw46.CmapReads", spec := "cmapReads", inPlace := ["internal/bytealg.IndexByteString", "internal/abi.NoEscape", "internal/bytealg.IndexString", "internal/bytealg.MakeNoZero"], unfollowed := true, recurses := true, named := ["unicode/utf8.first", "unicode/utf8.acceptRanges", "internal/bytealg.MaxLen"], apart := false, laid := [("unicode/utf8.acceptRanges", laid_unicode_utf8_acceptRanges), ("unicode/utf8.first", laid_unicode_utf8_first)] }
def CmapReadsSaid : Prop := cmapReadsRow.holds Tryz.pinned (OpenSpec.ofChange cmapReadsSpec)

/-- ITS FALSE NEIGHBOUR: 'it returns false'. Refute it at one input. -/
def cmapReadsWrong : ChangeSpec := { name := "cmapReads", fn := fun _ => fun
  | [d1, d2] => { results := [.lit (.bool false)], args := [d1, d2] }
  | _ => none }
def CmapReadsWrongFalsely : Prop := cmapReadsRow.holds Tryz.pinned (OpenSpec.ofChange cmapReadsWrong)

/-- 'foliantlaw46.CmapTexts': WHATEVER THE INPUT: true; the input reads as it did. -/
def cmapTextsSpec : ChangeSpec := { name := "cmapTexts", fn := fun _ => fun
  | [d1, d2, d3] => { results := [.lit (.bool true)], args := [d1, d2, d3] }
  | _ => none }
def cmapTextsRow : OpenClaim := { program := "ytibffdaljmmdoaagreatdoor", sum := "63dbddcc9a2224c79d620d9727801276cd7c9712949ac9ac2e6af78be9d58706", func := "foliant/foliantlaw46.CmapTexts", spec := "cmapTexts", inPlace := ["internal/bytealg.IndexByteString", "internal/abi.NoEscape", "internal/bytealg.IndexString", "internal/bytealg.MakeNoZero"], unfollowed := true, recurses := true, named := ["unicode/utf8.first", "unicode/utf8.acceptRanges", "internal/bytealg.MaxLen"], apart := false, laid := [("unicode/utf8.acceptRanges", laid_unicode_utf8_acceptRanges), ("unicode/utf8.first", laid_unicode_utf8_first)] }
def CmapTextsSaid : Prop := cmapTextsRow.holds Tryz.pinned (OpenSpec.ofChange cmapTextsSpec)

/-- ITS FALSE NEIGHBOUR: 'it returns false'. Refute it at one input. -/
def cmapTextsWrong : ChangeSpec := { name := "cmapTexts", fn := fun _ => fun
  | [d1, d2, d3] => { results := [.lit (.bool false)], args := [d1, d2, d3] }
  | _ => none }
def CmapTextsWrongFalsely : Prop := cmapTextsRow.holds Tryz.pinned (OpenSpec.ofChange cmapTextsWrong)

/-- 'foliantlaw46.CmapBack': WHATEVER THE INPUT: true; the input reads as it did. -/
def cmapBackSpec : ChangeSpec := { name := "cmapBack", fn := fun _ => fun
  | [d1, d2] => { results := [.lit (.bool true)], args := [d1, d2] }
  | _ => none }
def cmapBackRow : OpenClaim := { program := "ytibffdaljmmdoaagreatdoor", sum := "63dbddcc9a2224c79d620d9727801276cd7c9712949ac9ac2e6af78be9d58706", func := "foliant/foliantlaw46.CmapBack", spec := "cmapBack", inPlace := ["internal/bytealg.IndexByteString", "internal/abi.NoEscape", "internal/bytealg.IndexString", "internal/bytealg.MakeNoZero"], unfollowed := true, recurses := true, named := ["unicode/utf8.first", "unicode/utf8.acceptRanges", "internal/bytealg.MaxLen"], apart := false, laid := [("unicode/utf8.acceptRanges", laid_unicode_utf8_acceptRanges), ("unicode/utf8.first", laid_unicode_utf8_first)] }
def CmapBackSaid : Prop := cmapBackRow.holds Tryz.pinned (OpenSpec.ofChange cmapBackSpec)

/-- ITS FALSE NEIGHBOUR: 'it returns false'. Refute it at one input. -/
def cmapBackWrong : ChangeSpec := { name := "cmapBack", fn := fun _ => fun
  | [d1, d2] => { results := [.lit (.bool false)], args := [d1, d2] }
  | _ => none }
def CmapBackWrongFalsely : Prop := cmapBackRow.holds Tryz.pinned (OpenSpec.ofChange cmapBackWrong)

/-- 'foliantlaw46.CmapUnits': WHATEVER THE INPUT: true; the input reads as it did. -/
def cmapUnitsSpec : ChangeSpec := { name := "cmapUnits", fn := fun _ => fun
  | [d] => { results := [.lit (.bool true)], args := [d] }
  | _ => none }
def cmapUnitsRow : OpenClaim := { program := "ytibffdaljmmdoaagreatdoor", sum := "63dbddcc9a2224c79d620d9727801276cd7c9712949ac9ac2e6af78be9d58706", func := "foliant/foliantlaw46.CmapUnits", spec := "cmapUnits", inPlace := ["internal/bytealg.IndexByteString", "internal/abi.NoEscape", "internal/bytealg.IndexString", "internal/bytealg.MakeNoZero"], unfollowed := true, recurses := true, named := ["unicode/utf8.first", "unicode/utf8.acceptRanges", "internal/bytealg.MaxLen"], apart := false, laid := [("unicode/utf8.acceptRanges", laid_unicode_utf8_acceptRanges), ("unicode/utf8.first", laid_unicode_utf8_first)] }
def CmapUnitsSaid : Prop := cmapUnitsRow.holds Tryz.pinned (OpenSpec.ofChange cmapUnitsSpec)

/-- ITS FALSE NEIGHBOUR: 'it returns false'. Refute it at one input. -/
def cmapUnitsWrong : ChangeSpec := { name := "cmapUnits", fn := fun _ => fun
  | [d] => { results := [.lit (.bool false)], args := [d] }
  | _ => none }
def CmapUnitsWrongFalsely : Prop := cmapUnitsRow.holds Tryz.pinned (OpenSpec.ofChange cmapUnitsWrong)

/-- 'foliantlaw46.CmapRanges': WHATEVER THE INPUT: true; the input reads as it did. -/
def cmapRangesSpec : ChangeSpec := { name := "cmapRanges", fn := fun _ => fun
  | [d1, d2, d3, d4] => { results := [.lit (.bool true)], args := [d1, d2, d3, d4] }
  | _ => none }
def cmapRangesRow : OpenClaim := { program := "ytibffdaljmmdoaagreatdoor", sum := "63dbddcc9a2224c79d620d9727801276cd7c9712949ac9ac2e6af78be9d58706", func := "foliant/foliantlaw46.CmapRanges", spec := "cmapRanges", inPlace := ["internal/bytealg.IndexByteString", "internal/abi.NoEscape", "internal/bytealg.IndexString", "internal/bytealg.MakeNoZero"], unfollowed := true, recurses := true, named := ["unicode/utf8.first", "unicode/utf8.acceptRanges", "internal/bytealg.MaxLen"], apart := false, laid := [("unicode/utf8.acceptRanges", laid_unicode_utf8_acceptRanges), ("unicode/utf8.first", laid_unicode_utf8_first)] }
def CmapRangesSaid : Prop := cmapRangesRow.holds Tryz.pinned (OpenSpec.ofChange cmapRangesSpec)

/-- ITS FALSE NEIGHBOUR: 'it returns false'. Refute it at one input. -/
def cmapRangesWrong : ChangeSpec := { name := "cmapRanges", fn := fun _ => fun
  | [d1, d2, d3, d4] => { results := [.lit (.bool false)], args := [d1, d2, d3, d4] }
  | _ => none }
def CmapRangesWrongFalsely : Prop := cmapRangesRow.holds Tryz.pinned (OpenSpec.ofChange cmapRangesWrong)

/- THE SECOND FORM. 'bulk': how many values and letters a reading holds, each counted each time it is reached (what is shared counts as often as it is met; a slice's spare places count too). A statement '..UptoSaid' is the law's where the arguments, and the package variables that the reading takes, are together of bulk at most 1048576: NARROWER than '..Said'. Prove '..Said' where nothing that the law and all that it calls make is longer than what came in: it says more and counts as full. Else prove '..UptoSaid'. A law counts once. -/
mutual
def uptoBulk {H : Type} : DataW H → Nat
  | .lit (.string bytes) => bytes.length + 1
  | .lit _ => 1
  | .nil => 1
  | .ptr d => uptoBulk d + 1
  | .slice elems spare => uptoBulkAll elems + uptoBulkAll spare + 1
  | .agg parts => uptoBulkAll parts + 1
  | .iface _ d => uptoBulk d + 1
  | .map entries => uptoBulkEntries entries + 1
  | .held _ => 1
def uptoBulkAll {H : Type} : List (DataW H) → Nat
  | [] => 0
  | d :: r => uptoBulk d + uptoBulkAll r
def uptoBulkEntries {H : Type} : List (Lit × DataW H) → Nat
  | [] => 0
  | x :: r => uptoBulkEntry x + uptoBulkEntries r
def uptoBulkEntry {H : Type} : Lit × DataW H → Nat
  | (.string bytes, d) => bytes.length + uptoBulk d + 1
  | (_, d) => uptoBulk d + 1
 end
def uptoSmall : (H : Type) → List (DataW H) → Bool := fun _ ds => decide (uptoBulkAll ds ≤ 1048576)
def OpenSpec.upto (s : _root_.Go.ChangeSpec) : _root_.Go.OpenSpec := { _root_.Go.OpenSpec.ofChange s with cond := some uptoSmall }

/-- 'foliantlaw46.CmapReads', WHERE WHAT IT READS IS OF BULK AT MOST 1048576: true; the input reads as it did. -/
def cmapReadsUptoRow : OpenClaim := { program := "ytibffdaljmmdoaagreatdoor", sum := "63dbddcc9a2224c79d620d9727801276cd7c9712949ac9ac2e6af78be9d58706", func := "foliant/foliantlaw46.CmapReads", spec := "cmapReads", inPlace := ["internal/bytealg.IndexByteString", "internal/abi.NoEscape", "internal/bytealg.IndexString", "internal/bytealg.MakeNoZero"], unfollowed := true, recurses := true, named := ["unicode/utf8.first", "unicode/utf8.acceptRanges", "internal/bytealg.MaxLen"], apart := false, laid := [("unicode/utf8.acceptRanges", laid_unicode_utf8_acceptRanges), ("unicode/utf8.first", laid_unicode_utf8_first)], narrowed := true }
def CmapReadsUptoSaid : Prop := cmapReadsUptoRow.holds Tryz.pinned (OpenSpec.upto cmapReadsSpec)

/-- 'foliantlaw46.CmapTexts', WHERE WHAT IT READS IS OF BULK AT MOST 1048576: true; the input reads as it did. -/
def cmapTextsUptoRow : OpenClaim := { program := "ytibffdaljmmdoaagreatdoor", sum := "63dbddcc9a2224c79d620d9727801276cd7c9712949ac9ac2e6af78be9d58706", func := "foliant/foliantlaw46.CmapTexts", spec := "cmapTexts", inPlace := ["internal/bytealg.IndexByteString", "internal/abi.NoEscape", "internal/bytealg.IndexString", "internal/bytealg.MakeNoZero"], unfollowed := true, recurses := true, named := ["unicode/utf8.first", "unicode/utf8.acceptRanges", "internal/bytealg.MaxLen"], apart := false, laid := [("unicode/utf8.acceptRanges", laid_unicode_utf8_acceptRanges), ("unicode/utf8.first", laid_unicode_utf8_first)], narrowed := true }
def CmapTextsUptoSaid : Prop := cmapTextsUptoRow.holds Tryz.pinned (OpenSpec.upto cmapTextsSpec)

/-- 'foliantlaw46.CmapBack', WHERE WHAT IT READS IS OF BULK AT MOST 1048576: true; the input reads as it did. -/
def cmapBackUptoRow : OpenClaim := { program := "ytibffdaljmmdoaagreatdoor", sum := "63dbddcc9a2224c79d620d9727801276cd7c9712949ac9ac2e6af78be9d58706", func := "foliant/foliantlaw46.CmapBack", spec := "cmapBack", inPlace := ["internal/bytealg.IndexByteString", "internal/abi.NoEscape", "internal/bytealg.IndexString", "internal/bytealg.MakeNoZero"], unfollowed := true, recurses := true, named := ["unicode/utf8.first", "unicode/utf8.acceptRanges", "internal/bytealg.MaxLen"], apart := false, laid := [("unicode/utf8.acceptRanges", laid_unicode_utf8_acceptRanges), ("unicode/utf8.first", laid_unicode_utf8_first)], narrowed := true }
def CmapBackUptoSaid : Prop := cmapBackUptoRow.holds Tryz.pinned (OpenSpec.upto cmapBackSpec)

/-- 'foliantlaw46.CmapUnits', WHERE WHAT IT READS IS OF BULK AT MOST 1048576: true; the input reads as it did. -/
def cmapUnitsUptoRow : OpenClaim := { program := "ytibffdaljmmdoaagreatdoor", sum := "63dbddcc9a2224c79d620d9727801276cd7c9712949ac9ac2e6af78be9d58706", func := "foliant/foliantlaw46.CmapUnits", spec := "cmapUnits", inPlace := ["internal/bytealg.IndexByteString", "internal/abi.NoEscape", "internal/bytealg.IndexString", "internal/bytealg.MakeNoZero"], unfollowed := true, recurses := true, named := ["unicode/utf8.first", "unicode/utf8.acceptRanges", "internal/bytealg.MaxLen"], apart := false, laid := [("unicode/utf8.acceptRanges", laid_unicode_utf8_acceptRanges), ("unicode/utf8.first", laid_unicode_utf8_first)], narrowed := true }
def CmapUnitsUptoSaid : Prop := cmapUnitsUptoRow.holds Tryz.pinned (OpenSpec.upto cmapUnitsSpec)

/-- 'foliantlaw46.CmapRanges', WHERE WHAT IT READS IS OF BULK AT MOST 1048576: true; the input reads as it did. -/
def cmapRangesUptoRow : OpenClaim := { program := "ytibffdaljmmdoaagreatdoor", sum := "63dbddcc9a2224c79d620d9727801276cd7c9712949ac9ac2e6af78be9d58706", func := "foliant/foliantlaw46.CmapRanges", spec := "cmapRanges", inPlace := ["internal/bytealg.IndexByteString", "internal/abi.NoEscape", "internal/bytealg.IndexString", "internal/bytealg.MakeNoZero"], unfollowed := true, recurses := true, named := ["unicode/utf8.first", "unicode/utf8.acceptRanges", "internal/bytealg.MaxLen"], apart := false, laid := [("unicode/utf8.acceptRanges", laid_unicode_utf8_acceptRanges), ("unicode/utf8.first", laid_unicode_utf8_first)], narrowed := true }
def CmapRangesUptoSaid : Prop := cmapRangesUptoRow.holds Tryz.pinned (OpenSpec.upto cmapRangesSpec)

end Rows
end Go.Proofs.YtibffdaljmmdoaaGreatDoor
