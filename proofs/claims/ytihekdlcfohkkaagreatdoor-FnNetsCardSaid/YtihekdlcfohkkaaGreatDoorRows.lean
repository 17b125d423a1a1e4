/-
  NARROWER THAN 'FOR EVERY INPUT', by the rows' own cells (each row's printed sentence says how): FnExactSettleNet: laid · FnExactPlayNet: laid · FnExactStepNet: laid · FnNet: laid · FnNets: laid.
  DERIVED. THE GIVEN ROWS OF THIS SEAT. 5 by the template 'for every input the law returns true; each argument reads behind the call as it read before'; 0 by the template 'total and deterministic' (their statements: YtihekdlcfohkkaaGreatDoorTotals.lean).
  GIVEN WITH THE SEED: the statements are not yours to turn. If you find one false, say at which input.
  Laid BY PROGRAM, IN A SANDBOX (cutbox-rows.mjs): the forced cells as the released guide's own fill.sh prints them over the translation f49d3f69047852c7… (all of the seat's roots in one cut). By AI agents, Wed Nov 11 2026. No macro, syntax, notation, axiom, sorry.
-/
import Derived.Test.YtihekdlcfohkkaaGreatDoorChecked
import GoSem.PinnedTables
import GoSem.Claim
import GoSem.ClaimJoined
import GoSem.ClaimMapViews
import Derived.JoinedTies
import Derived.KernelRfl
namespace Go.Proofs.YtihekdlcfohkkaaGreatDoor
/- THE CELL 'sum', in the pinned program and in every row, IS THE sha256 OF THE DUMP (.gsa) THAT YtihekdlcfohkkaaGreatDoorProg.lean LOADS. Nothing in Lean hashes anything: it is a label: what it is worth is what the hold of that sum in a sandbox is worth. -/
noncomputable def Tryz.pinned : Pinned := { name := "ytihekdlcfohkkaagreatdoor", sum := "f49d3f69047852c771bff37bed8e5322ad5a85e616d8bdc60547cf33167bda3d", checked := Tryz.checked }
namespace Rows
def none {H : Type} : Left H := { results := [], args := [] }

/- WHAT THE LISTED PACKAGE-LEVEL VARIABLES READ AS WHEN THE CALL BEGINS. Each datum BY PROGRAM (the guide's laid-datum.mjs) off the statement by which the dump's own 'gosem.cut.vars' lays the variable. In a bare row this is a premise. The card (YtihekdlcfohkkaaGreatDoorCards.lean) ties it to the program's text. -/
def laid_unicode_utf8_acceptRanges {H : Type} : DataW H := .agg [.agg [.lit (.int .u8 128), .lit (.int .u8 191)], .agg [.lit (.int .u8 160), .lit (.int .u8 191)], .agg [.lit (.int .u8 128), .lit (.int .u8 159)], .agg [.lit (.int .u8 144), .lit (.int .u8 191)], .agg [.lit (.int .u8 128), .lit (.int .u8 143)], .agg [.lit (.int .u8 0), .lit (.int .u8 0)], .agg [.lit (.int .u8 0), .lit (.int .u8 0)], .agg [.lit (.int .u8 0), .lit (.int .u8 0)], .agg [.lit (.int .u8 0), .lit (.int .u8 0)], .agg [.lit (.int .u8 0), .lit (.int .u8 0)], .agg [.lit (.int .u8 0), .lit (.int .u8 0)], .agg [.lit (.int .u8 0), .lit (.int .u8 0)], .agg [.lit (.int .u8 0), .lit (.int .u8 0)], .agg [.lit (.int .u8 0), .lit (.int .u8 0)], .agg [.lit (.int .u8 0), .lit (.int .u8 0)], .agg [.lit (.int .u8 0), .lit (.int .u8 0)]]
/-- One of Go's own tables, pinned by name: the form's constant. -/
def laid_unicode_utf8_first : DataW Unit := Go.Pinned.utf8First

/-- 'laws.FnExactSettleNet': WHATEVER THE INPUT: true; the input reads as it did. -/
def fnExactSettleNetSpec : ChangeSpec := { name := "fnExactSettleNet", fn := fun _ => fun
  | [d] => { results := [.lit (.bool true)], args := [d] }
  | _ => none }
def fnExactSettleNetRow : OpenClaim := { program := "ytihekdlcfohkkaagreatdoor", sum := "f49d3f69047852c771bff37bed8e5322ad5a85e616d8bdc60547cf33167bda3d", func := "loop.example/g00549/laws.FnExactSettleNet", spec := "fnExactSettleNet", inPlace := ["internal/abi.NoEscape", "internal/bytealg.MakeNoZero", "internal/bytealg.IndexByteString", "internal/bytealg.IndexString", "slices.overlaps[string]"], unfollowed := true, recurses := true, named := ["unicode/utf8.first", "unicode/utf8.acceptRanges", "internal/bytealg.MaxLen"], apart := false, laid := [("unicode/utf8.acceptRanges", laid_unicode_utf8_acceptRanges), ("unicode/utf8.first", laid_unicode_utf8_first)] }
def FnExactSettleNetSaid : Prop := fnExactSettleNetRow.holds Tryz.pinned (OpenSpec.ofChange fnExactSettleNetSpec)

/-- ITS FALSE NEIGHBOUR: 'it returns false'. Refute it at one input. -/
def fnExactSettleNetWrong : ChangeSpec := { name := "fnExactSettleNet", fn := fun _ => fun
  | [d] => { results := [.lit (.bool false)], args := [d] }
  | _ => none }
def FnExactSettleNetWrongFalsely : Prop := fnExactSettleNetRow.holds Tryz.pinned (OpenSpec.ofChange fnExactSettleNetWrong)

/-- 'laws.FnExactPlayNet': WHATEVER THE INPUT: true; the input reads as it did. -/
def fnExactPlayNetSpec : ChangeSpec := { name := "fnExactPlayNet", fn := fun _ => fun
  | [d1, d2] => { results := [.lit (.bool true)], args := [d1, d2] }
  | _ => none }
def fnExactPlayNetRow : OpenClaim := { program := "ytihekdlcfohkkaagreatdoor", sum := "f49d3f69047852c771bff37bed8e5322ad5a85e616d8bdc60547cf33167bda3d", func := "loop.example/g00549/laws.FnExactPlayNet", spec := "fnExactPlayNet", inPlace := ["internal/abi.NoEscape", "internal/bytealg.MakeNoZero", "slices.overlaps[string]", "internal/bytealg.IndexByteString", "internal/bytealg.IndexString"], named := ["unicode/utf8.first", "unicode/utf8.acceptRanges", "internal/bytealg.MaxLen"], apart := false, laid := [("unicode/utf8.acceptRanges", laid_unicode_utf8_acceptRanges), ("unicode/utf8.first", laid_unicode_utf8_first)] }
def FnExactPlayNetSaid : Prop := fnExactPlayNetRow.holds Tryz.pinned (OpenSpec.ofChange fnExactPlayNetSpec)

/-- ITS FALSE NEIGHBOUR: 'it returns false'. Refute it at one input. -/
def fnExactPlayNetWrong : ChangeSpec := { name := "fnExactPlayNet", fn := fun _ => fun
  | [d1, d2] => { results := [.lit (.bool false)], args := [d1, d2] }
  | _ => none }
def FnExactPlayNetWrongFalsely : Prop := fnExactPlayNetRow.holds Tryz.pinned (OpenSpec.ofChange fnExactPlayNetWrong)

/-- 'laws.FnExactStepNet': WHATEVER THE INPUT: true; the input reads as it did. -/
def fnExactStepNetSpec : ChangeSpec := { name := "fnExactStepNet", fn := fun _ => fun
  | [d1, d2] => { results := [.lit (.bool true)], args := [d1, d2] }
  | _ => none }
def fnExactStepNetRow : OpenClaim := { program := "ytihekdlcfohkkaagreatdoor", sum := "f49d3f69047852c771bff37bed8e5322ad5a85e616d8bdc60547cf33167bda3d", func := "loop.example/g00549/laws.FnExactStepNet", spec := "fnExactStepNet", inPlace := ["internal/abi.NoEscape", "internal/bytealg.MakeNoZero", "slices.overlaps[string]", "internal/bytealg.IndexByteString", "internal/bytealg.IndexString"], unfollowed := true, recurses := true, named := ["unicode/utf8.first", "unicode/utf8.acceptRanges", "internal/bytealg.MaxLen"], apart := false, laid := [("unicode/utf8.acceptRanges", laid_unicode_utf8_acceptRanges), ("unicode/utf8.first", laid_unicode_utf8_first)] }
def FnExactStepNetSaid : Prop := fnExactStepNetRow.holds Tryz.pinned (OpenSpec.ofChange fnExactStepNetSpec)

/-- ITS FALSE NEIGHBOUR: 'it returns false'. Refute it at one input. -/
def fnExactStepNetWrong : ChangeSpec := { name := "fnExactStepNet", fn := fun _ => fun
  | [d1, d2] => { results := [.lit (.bool false)], args := [d1, d2] }
  | _ => none }
def FnExactStepNetWrongFalsely : Prop := fnExactStepNetRow.holds Tryz.pinned (OpenSpec.ofChange fnExactStepNetWrong)

/-- 'laws.FnNet': WHATEVER THE INPUT: true; the input reads as it did. -/
def fnNetSpec : ChangeSpec := { name := "fnNet", fn := fun _ => fun
  | [d1, d2] => { results := [.lit (.bool true)], args := [d1, d2] }
  | _ => none }
def fnNetRow : OpenClaim := { program := "ytihekdlcfohkkaagreatdoor", sum := "f49d3f69047852c771bff37bed8e5322ad5a85e616d8bdc60547cf33167bda3d", func := "loop.example/g00549/laws.FnNet", spec := "fnNet", inPlace := ["internal/abi.NoEscape", "internal/bytealg.MakeNoZero", "slices.overlaps[string]", "internal/bytealg.IndexByteString", "internal/bytealg.IndexString"], unfollowed := true, recurses := true, named := ["unicode/utf8.first", "unicode/utf8.acceptRanges", "internal/bytealg.MaxLen"], apart := false, laid := [("unicode/utf8.acceptRanges", laid_unicode_utf8_acceptRanges), ("unicode/utf8.first", laid_unicode_utf8_first)] }
def FnNetSaid : Prop := fnNetRow.holds Tryz.pinned (OpenSpec.ofChange fnNetSpec)

/-- ITS FALSE NEIGHBOUR: 'it returns false'. Refute it at one input. -/
def fnNetWrong : ChangeSpec := { name := "fnNet", fn := fun _ => fun
  | [d1, d2] => { results := [.lit (.bool false)], args := [d1, d2] }
  | _ => none }
def FnNetWrongFalsely : Prop := fnNetRow.holds Tryz.pinned (OpenSpec.ofChange fnNetWrong)

/-- 'laws.FnNets': WHATEVER THE INPUT: true; the input reads as it did. -/
def fnNetsSpec : ChangeSpec := { name := "fnNets", fn := fun _ => fun
  | [d1, d2] => { results := [.lit (.bool true)], args := [d1, d2] }
  | _ => none }
def fnNetsRow : OpenClaim := { program := "ytihekdlcfohkkaagreatdoor", sum := "f49d3f69047852c771bff37bed8e5322ad5a85e616d8bdc60547cf33167bda3d", func := "loop.example/g00549/laws.FnNets", spec := "fnNets", inPlace := ["internal/abi.NoEscape", "internal/bytealg.MakeNoZero", "slices.overlaps[string]", "internal/bytealg.IndexByteString", "internal/bytealg.IndexString"], unfollowed := true, recurses := true, named := ["unicode/utf8.first", "unicode/utf8.acceptRanges", "internal/bytealg.MaxLen"], apart := false, laid := [("unicode/utf8.acceptRanges", laid_unicode_utf8_acceptRanges), ("unicode/utf8.first", laid_unicode_utf8_first)] }
def FnNetsSaid : Prop := fnNetsRow.holds Tryz.pinned (OpenSpec.ofChange fnNetsSpec)

/-- ITS FALSE NEIGHBOUR: 'it returns false'. Refute it at one input. -/
def fnNetsWrong : ChangeSpec := { name := "fnNets", fn := fun _ => fun
  | [d1, d2] => { results := [.lit (.bool false)], args := [d1, d2] }
  | _ => none }
def FnNetsWrongFalsely : Prop := fnNetsRow.holds Tryz.pinned (OpenSpec.ofChange fnNetsWrong)

/- THE SECOND FORM. 'bulk': how many values and letters a reading holds, each counted each time it is reached (what is shared counts as often as it is met; a slice's spare places count too). A statement '..UptoSaid' is the law's where the arguments, and the package variables that the reading takes, are together of bulk at most 1048576: NARROWER than '..Said'. Prove '..Said' where nothing that the law and all that it calls make is longer than what came in: it says more and counts as full. Else prove '..UptoSaid'. A law counts once. -/
mutual
def uptoBulk {H : Type} : DataW H → Nat
  | .lit (.string bytes) => bytes.length + 1
  | .lit _ => 1
  | .nil => 1
  | .ptr d => uptoBulk d + 1
  | .slice elems spare => uptoBulkAll elems + uptoBulkAll spare + 1
  | .agg parts => uptoBulkAll parts + 1
  | .iface _ d => uptoBulk d + 1
  | .map entries => uptoBulkEntries entries + 1
  | .held _ => 1
def uptoBulkAll {H : Type} : List (DataW H) → Nat
  | [] => 0
  | d :: r => uptoBulk d + uptoBulkAll r
def uptoBulkEntries {H : Type} : List (Lit × DataW H) → Nat
  | [] => 0
  | x :: r => uptoBulkEntry x + uptoBulkEntries r
def uptoBulkEntry {H : Type} : Lit × DataW H → Nat
  | (.string bytes, d) => bytes.length + uptoBulk d + 1
  | (_, d) => uptoBulk d + 1
 end
def uptoSmall : (H : Type) → List (DataW H) → Bool := fun _ ds => decide (uptoBulkAll ds ≤ 1048576)
def OpenSpec.upto (s : _root_.Go.ChangeSpec) : _root_.Go.OpenSpec := { _root_.Go.OpenSpec.ofChange s with cond := some uptoSmall }

/-- 'laws.FnExactSettleNet', WHERE WHAT IT READS IS OF BULK AT MOST 1048576: true; the input reads as it did. -/
def fnExactSettleNetUptoRow : OpenClaim := { program := "ytihekdlcfohkkaagreatdoor", sum := "f49d3f69047852c771bff37bed8e5322ad5a85e616d8bdc60547cf33167bda3d", func := "loop.example/g00549/laws.FnExactSettleNet", spec := "fnExactSettleNet", inPlace := ["internal/abi.NoEscape", "internal/bytealg.MakeNoZero", "internal/bytealg.IndexByteString", "internal/bytealg.IndexString", "slices.overlaps[string]"], unfollowed := true, recurses := true, named := ["unicode/utf8.first", "unicode/utf8.acceptRanges", "internal/bytealg.MaxLen"], apart := false, laid := [("unicode/utf8.acceptRanges", laid_unicode_utf8_acceptRanges), ("unicode/utf8.first", laid_unicode_utf8_first)], narrowed := true }
def FnExactSettleNetUptoSaid : Prop := fnExactSettleNetUptoRow.holds Tryz.pinned (OpenSpec.upto fnExactSettleNetSpec)

/-- 'laws.FnExactPlayNet', WHERE WHAT IT READS IS OF BULK AT MOST 1048576: true; the input reads as it did. -/
def fnExactPlayNetUptoRow : OpenClaim := { program := "ytihekdlcfohkkaagreatdoor", sum := "f49d3f69047852c771bff37bed8e5322ad5a85e616d8bdc60547cf33167bda3d", func := "loop.example/g00549/laws.FnExactPlayNet", spec := "fnExactPlayNet", inPlace := ["internal/abi.NoEscape", "internal/bytealg.MakeNoZero", "slices.overlaps[string]", "internal/bytealg.IndexByteString", "internal/bytealg.IndexString"], named := ["unicode/utf8.first", "unicode/utf8.acceptRanges", "internal/bytealg.MaxLen"], apart := false, laid := [("unicode/utf8.acceptRanges", laid_unicode_utf8_acceptRanges), ("unicode/utf8.first", laid_unicode_utf8_first)], narrowed := true }
def FnExactPlayNetUptoSaid : Prop := fnExactPlayNetUptoRow.holds Tryz.pinned (OpenSpec.upto fnExactPlayNetSpec)

/-- 'laws.FnExactStepNet', WHERE WHAT IT READS IS OF BULK AT MOST 1048576: true; the input reads as it did. -/
def fnExactStepNetUptoRow : OpenClaim := { program := "ytihekdlcfohkkaagreatdoor", sum := "f49d3f69047852c771bff37bed8e5322ad5a85e616d8bdc60547cf33167bda3d", func := "loop.example/g00549/laws.FnExactStepNet", spec := "fnExactStepNet", inPlace := ["internal/abi.NoEscape", "internal/bytealg.MakeNoZero", "slices.overlaps[string]", "internal/bytealg.IndexByteString", "internal/bytealg.IndexString"], unfollowed := true, recurses := true, named := ["unicode/utf8.first", "unicode/utf8.acceptRanges", "internal/bytealg.MaxLen"], apart := false, laid := [("unicode/utf8.acceptRanges", laid_unicode_utf8_acceptRanges), ("unicode/utf8.first", laid_unicode_utf8_first)], narrowed := true }
def FnExactStepNetUptoSaid : Prop := fnExactStepNetUptoRow.holds Tryz.pinned (OpenSpec.upto fnExactStepNetSpec)

/-- 'laws.FnNet', WHERE WHAT IT READS IS OF BULK AT MOST 1048576: true; the input reads as it did. -/
def fnNetUptoRow : OpenClaim := { program := "ytihekdlcfohkkaagreatdoor", sum := "f49d3f69047852c771bff37bed8e5322ad5a85e616d8bdc60547cf33167bda3d", func := "loop.example/g00549/laws.FnNet", spec := "fnNet", inPlace := ["internal/abi.NoEscape", "internal/bytealg.MakeNoZero", "slices.overlaps[string]", "internal/bytealg.IndexByteString", "internal/bytealg.IndexString"], unfollowed := true, recurses := true, named := ["unicode/utf8.first", "unicode/utf8.acceptRanges", "internal/bytealg.MaxLen"], apart := false, laid := [("unicode/utf8.acceptRanges", laid_unicode_utf8_acceptRanges), ("unicode/utf8.first", laid_unicode_utf8_first)], narrowed := true }
def FnNetUptoSaid : Prop := fnNetUptoRow.holds Tryz.pinned (OpenSpec.upto fnNetSpec)

/-- 'laws.FnNets', WHERE WHAT IT READS IS OF BULK AT MOST 1048576: true; the input reads as it did. -/
def fnNetsUptoRow : OpenClaim := { program := "ytihekdlcfohkkaagreatdoor", sum := "f49d3f69047852c771bff37bed8e5322ad5a85e616d8bdc60547cf33167bda3d", func := "loop.example/g00549/laws.FnNets", spec := "fnNets", inPlace := ["internal/abi.NoEscape", "internal/bytealg.MakeNoZero", "slices.overlaps[string]", "internal/bytealg.IndexByteString", "internal/bytealg.IndexString"], unfollowed := true, recurses := true, named := ["unicode/utf8.first", "unicode/utf8.acceptRanges", "internal/bytealg.MaxLen"], apart := false, laid := [("unicode/utf8.acceptRanges", laid_unicode_utf8_acceptRanges), ("unicode/utf8.first", laid_unicode_utf8_first)], narrowed := true }
def FnNetsUptoSaid : Prop := fnNetsUptoRow.holds Tryz.pinned (OpenSpec.upto fnNetsSpec)

end Rows
end Go.Proofs.YtihekdlcfohkkaaGreatDoor
