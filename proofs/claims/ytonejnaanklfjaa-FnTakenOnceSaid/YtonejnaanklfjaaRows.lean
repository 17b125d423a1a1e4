/-
  No cell of these rows narrows 'for every input' (looked for: loops, veiled, ifaces, maps, wideKeys, modest, calm, conditions, laid).
  DERIVED. THE GIVEN ROWS OF THIS SEAT. 12 by the template 'for every input the law returns true; each argument reads behind the call as it read before'; 0 by the template 'total and deterministic' (their statements: YtonejnaanklfjaaTotals.lean).
  GIVEN WITH THE SEED: the statements are not yours to turn. If you find one false, say at which input.
  Laid BY PROGRAM, IN A SANDBOX (cutbox-rows.mjs): the forced cells as the released guide's own fill.sh prints them over the translation 08b0a1b39058ab5c… (all of the seat's roots in one cut). By AI agents, Wed Nov 11 2026. No macro, syntax, notation, axiom, sorry.
-/
import Derived.Test.YtonejnaanklfjaaChecked
import GoSem.Claim
import GoSem.ClaimJoined
import GoSem.ClaimMapViews
import Derived.JoinedTies
import Derived.KernelRfl
namespace Go.Proofs.Ytonejnaanklfjaa
/- THE CELL 'sum', in the pinned program and in every row, IS THE sha256 OF THE DUMP (.gsa) THAT YtonejnaanklfjaaProg.lean LOADS. Nothing in Lean hashes anything: it is a label: what it is worth is what the hold of that sum in a sandbox is worth. -/
noncomputable def Try.pinned : Pinned := { name := "ytonejnaanklfjaa", sum := "08b0a1b39058ab5c4cc551b08591977718bfdf4484db5f119c78a818515c77e4", checked := Try.checked }
namespace Rows
def none {H : Type} : Left H := { results := [], args := [] }

/-- 'laws.FnExactIsProved': WHATEVER THE INPUT: true; the input reads as it did. -/
def fnExactIsProvedSpec : ChangeSpec := { name := "fnExactIsProved", fn := fun _ => fun
  | [d1, d2, d3] => { results := [.lit (.bool true)], args := [d1, d2, d3] }
  | _ => none }
def fnExactIsProvedRow : OpenClaim := { program := "ytonejnaanklfjaa", sum := "08b0a1b39058ab5c4cc551b08591977718bfdf4484db5f119c78a818515c77e4", func := "loop.example/g00549/laws.FnExactIsProved", spec := "fnExactIsProved", unfollowed := true, recurses := true, apart := false }
def FnExactIsProvedSaid : Prop := fnExactIsProvedRow.holds Try.pinned (OpenSpec.ofChange fnExactIsProvedSpec)

/-- ITS FALSE NEIGHBOUR: 'it returns false'. Refute it at one input. -/
def fnExactIsProvedWrong : ChangeSpec := { name := "fnExactIsProved", fn := fun _ => fun
  | [d1, d2, d3] => { results := [.lit (.bool false)], args := [d1, d2, d3] }
  | _ => none }
def FnExactIsProvedWrongFalsely : Prop := fnExactIsProvedRow.holds Try.pinned (OpenSpec.ofChange fnExactIsProvedWrong)

/-- 'laws.FnExactPlainInbox': WHATEVER THE INPUT: true; the input reads as it did. -/
def fnExactPlainInboxSpec : ChangeSpec := { name := "fnExactPlainInbox", fn := fun _ => fun
  | [d1, d2, d3] => { results := [.lit (.bool true)], args := [d1, d2, d3] }
  | _ => none }
def fnExactPlainInboxRow : OpenClaim := { program := "ytonejnaanklfjaa", sum := "08b0a1b39058ab5c4cc551b08591977718bfdf4484db5f119c78a818515c77e4", func := "loop.example/g00549/laws.FnExactPlainInbox", spec := "fnExactPlainInbox", apart := false }
def FnExactPlainInboxSaid : Prop := fnExactPlainInboxRow.holds Try.pinned (OpenSpec.ofChange fnExactPlainInboxSpec)

/-- ITS FALSE NEIGHBOUR: 'it returns false'. Refute it at one input. -/
def fnExactPlainInboxWrong : ChangeSpec := { name := "fnExactPlainInbox", fn := fun _ => fun
  | [d1, d2, d3] => { results := [.lit (.bool false)], args := [d1, d2, d3] }
  | _ => none }
def FnExactPlainInboxWrongFalsely : Prop := fnExactPlainInboxRow.holds Try.pinned (OpenSpec.ofChange fnExactPlainInboxWrong)

/-- 'laws.FnExactGoodTable': WHATEVER THE INPUT: true; the input reads as it did. -/
def fnExactGoodTableSpec : ChangeSpec := { name := "fnExactGoodTable", fn := fun _ => fun
  | [d] => { results := [.lit (.bool true)], args := [d] }
  | _ => none }
def fnExactGoodTableRow : OpenClaim := { program := "ytonejnaanklfjaa", sum := "08b0a1b39058ab5c4cc551b08591977718bfdf4484db5f119c78a818515c77e4", func := "loop.example/g00549/laws.FnExactGoodTable", spec := "fnExactGoodTable", unfollowed := true, recurses := true, apart := false }
def FnExactGoodTableSaid : Prop := fnExactGoodTableRow.holds Try.pinned (OpenSpec.ofChange fnExactGoodTableSpec)

/-- ITS FALSE NEIGHBOUR: 'it returns false'. Refute it at one input. -/
def fnExactGoodTableWrong : ChangeSpec := { name := "fnExactGoodTable", fn := fun _ => fun
  | [d] => { results := [.lit (.bool false)], args := [d] }
  | _ => none }
def FnExactGoodTableWrongFalsely : Prop := fnExactGoodTableRow.holds Try.pinned (OpenSpec.ofChange fnExactGoodTableWrong)

/-- 'laws.FnExactRefusedBy': WHATEVER THE INPUT: true; the input reads as it did. -/
def fnExactRefusedBySpec : ChangeSpec := { name := "fnExactRefusedBy", fn := fun _ => fun
  | [d1, d2] => { results := [.lit (.bool true)], args := [d1, d2] }
  | _ => none }
def fnExactRefusedByRow : OpenClaim := { program := "ytonejnaanklfjaa", sum := "08b0a1b39058ab5c4cc551b08591977718bfdf4484db5f119c78a818515c77e4", func := "loop.example/g00549/laws.FnExactRefusedBy", spec := "fnExactRefusedBy", unfollowed := true, recurses := true, apart := false }
def FnExactRefusedBySaid : Prop := fnExactRefusedByRow.holds Try.pinned (OpenSpec.ofChange fnExactRefusedBySpec)

/-- ITS FALSE NEIGHBOUR: 'it returns false'. Refute it at one input. -/
def fnExactRefusedByWrong : ChangeSpec := { name := "fnExactRefusedBy", fn := fun _ => fun
  | [d1, d2] => { results := [.lit (.bool false)], args := [d1, d2] }
  | _ => none }
def FnExactRefusedByWrongFalsely : Prop := fnExactRefusedByRow.holds Try.pinned (OpenSpec.ofChange fnExactRefusedByWrong)

/-- 'laws.FnExactMergeStatements': WHATEVER THE INPUT: true; the input reads as it did. -/
def fnExactMergeStatementsSpec : ChangeSpec := { name := "fnExactMergeStatements", fn := fun _ => fun
  | [d1, d2] => { results := [.lit (.bool true)], args := [d1, d2] }
  | _ => none }
def fnExactMergeStatementsRow : OpenClaim := { program := "ytonejnaanklfjaa", sum := "08b0a1b39058ab5c4cc551b08591977718bfdf4484db5f119c78a818515c77e4", func := "loop.example/g00549/laws.FnExactMergeStatements", spec := "fnExactMergeStatements", unfollowed := true, recurses := true, apart := false }
def FnExactMergeStatementsSaid : Prop := fnExactMergeStatementsRow.holds Try.pinned (OpenSpec.ofChange fnExactMergeStatementsSpec)

/-- ITS FALSE NEIGHBOUR: 'it returns false'. Refute it at one input. -/
def fnExactMergeStatementsWrong : ChangeSpec := { name := "fnExactMergeStatements", fn := fun _ => fun
  | [d1, d2] => { results := [.lit (.bool false)], args := [d1, d2] }
  | _ => none }
def FnExactMergeStatementsWrongFalsely : Prop := fnExactMergeStatementsRow.holds Try.pinned (OpenSpec.ofChange fnExactMergeStatementsWrong)

/-- 'laws.FnProved': WHATEVER THE INPUT: true; the input reads as it did. -/
def fnProvedSpec : ChangeSpec := { name := "fnProved", fn := fun _ => fun
  | [d1, d2] => { results := [.lit (.bool true)], args := [d1, d2] }
  | _ => none }
def fnProvedRow : OpenClaim := { program := "ytonejnaanklfjaa", sum := "08b0a1b39058ab5c4cc551b08591977718bfdf4484db5f119c78a818515c77e4", func := "loop.example/g00549/laws.FnProved", spec := "fnProved", unfollowed := true, recurses := true, apart := false }
def FnProvedSaid : Prop := fnProvedRow.holds Try.pinned (OpenSpec.ofChange fnProvedSpec)

/-- ITS FALSE NEIGHBOUR: 'it returns false'. Refute it at one input. -/
def fnProvedWrong : ChangeSpec := { name := "fnProved", fn := fun _ => fun
  | [d1, d2] => { results := [.lit (.bool false)], args := [d1, d2] }
  | _ => none }
def FnProvedWrongFalsely : Prop := fnProvedRow.holds Try.pinned (OpenSpec.ofChange fnProvedWrong)

/-- 'laws.FnJoined': WHATEVER THE INPUT: true; the input reads as it did. -/
def fnJoinedSpec : ChangeSpec := { name := "fnJoined", fn := fun _ => fun
  | [d1, d2] => { results := [.lit (.bool true)], args := [d1, d2] }
  | _ => none }
def fnJoinedRow : OpenClaim := { program := "ytonejnaanklfjaa", sum := "08b0a1b39058ab5c4cc551b08591977718bfdf4484db5f119c78a818515c77e4", func := "loop.example/g00549/laws.FnJoined", spec := "fnJoined", apart := false }
def FnJoinedSaid : Prop := fnJoinedRow.holds Try.pinned (OpenSpec.ofChange fnJoinedSpec)

/-- ITS FALSE NEIGHBOUR: 'it returns false'. Refute it at one input. -/
def fnJoinedWrong : ChangeSpec := { name := "fnJoined", fn := fun _ => fun
  | [d1, d2] => { results := [.lit (.bool false)], args := [d1, d2] }
  | _ => none }
def FnJoinedWrongFalsely : Prop := fnJoinedRow.holds Try.pinned (OpenSpec.ofChange fnJoinedWrong)

/-- 'laws.FnExactSayAt': WHATEVER THE INPUT: true; the input reads as it did. -/
def fnExactSayAtSpec : ChangeSpec := { name := "fnExactSayAt", fn := fun _ => fun
  | [d1, d2, d3, d4] => { results := [.lit (.bool true)], args := [d1, d2, d3, d4] }
  | _ => none }
def fnExactSayAtRow : OpenClaim := { program := "ytonejnaanklfjaa", sum := "08b0a1b39058ab5c4cc551b08591977718bfdf4484db5f119c78a818515c77e4", func := "loop.example/g00549/laws.FnExactSayAt", spec := "fnExactSayAt", unfollowed := true, recurses := true, apart := false }
def FnExactSayAtSaid : Prop := fnExactSayAtRow.holds Try.pinned (OpenSpec.ofChange fnExactSayAtSpec)

/-- ITS FALSE NEIGHBOUR: 'it returns false'. Refute it at one input. -/
def fnExactSayAtWrong : ChangeSpec := { name := "fnExactSayAt", fn := fun _ => fun
  | [d1, d2, d3, d4] => { results := [.lit (.bool false)], args := [d1, d2, d3, d4] }
  | _ => none }
def FnExactSayAtWrongFalsely : Prop := fnExactSayAtRow.holds Try.pinned (OpenSpec.ofChange fnExactSayAtWrong)

/-- 'laws.FnExactNewBoard': WHATEVER THE INPUT: true; the input reads as it did. -/
def fnExactNewBoardSpec : ChangeSpec := { name := "fnExactNewBoard", fn := fun _ => fun
  | [d1, d2] => { results := [.lit (.bool true)], args := [d1, d2] }
  | _ => none }
def fnExactNewBoardRow : OpenClaim := { program := "ytonejnaanklfjaa", sum := "08b0a1b39058ab5c4cc551b08591977718bfdf4484db5f119c78a818515c77e4", func := "loop.example/g00549/laws.FnExactNewBoard", spec := "fnExactNewBoard", apart := false }
def FnExactNewBoardSaid : Prop := fnExactNewBoardRow.holds Try.pinned (OpenSpec.ofChange fnExactNewBoardSpec)

/-- ITS FALSE NEIGHBOUR: 'it returns false'. Refute it at one input. -/
def fnExactNewBoardWrong : ChangeSpec := { name := "fnExactNewBoard", fn := fun _ => fun
  | [d1, d2] => { results := [.lit (.bool false)], args := [d1, d2] }
  | _ => none }
def FnExactNewBoardWrongFalsely : Prop := fnExactNewBoardRow.holds Try.pinned (OpenSpec.ofChange fnExactNewBoardWrong)

/-- 'laws.FnExactNewNet': WHATEVER THE INPUT: true; the input reads as it did. -/
def fnExactNewNetSpec : ChangeSpec := { name := "fnExactNewNet", fn := fun _ => fun
  | [d] => { results := [.lit (.bool true)], args := [d] }
  | _ => none }
def fnExactNewNetRow : OpenClaim := { program := "ytonejnaanklfjaa", sum := "08b0a1b39058ab5c4cc551b08591977718bfdf4484db5f119c78a818515c77e4", func := "loop.example/g00549/laws.FnExactNewNet", spec := "fnExactNewNet", apart := false }
def FnExactNewNetSaid : Prop := fnExactNewNetRow.holds Try.pinned (OpenSpec.ofChange fnExactNewNetSpec)

/-- ITS FALSE NEIGHBOUR: 'it returns false'. Refute it at one input. -/
def fnExactNewNetWrong : ChangeSpec := { name := "fnExactNewNet", fn := fun _ => fun
  | [d] => { results := [.lit (.bool false)], args := [d] }
  | _ => none }
def FnExactNewNetWrongFalsely : Prop := fnExactNewNetRow.holds Try.pinned (OpenSpec.ofChange fnExactNewNetWrong)

/-- 'laws.FnExactTogetherSay': WHATEVER THE INPUT: true; the input reads as it did. -/
def fnExactTogetherSaySpec : ChangeSpec := { name := "fnExactTogetherSay", fn := fun _ => fun
  | [d1, d2] => { results := [.lit (.bool true)], args := [d1, d2] }
  | _ => none }
def fnExactTogetherSayRow : OpenClaim := { program := "ytonejnaanklfjaa", sum := "08b0a1b39058ab5c4cc551b08591977718bfdf4484db5f119c78a818515c77e4", func := "loop.example/g00549/laws.FnExactTogetherSay", spec := "fnExactTogetherSay", unfollowed := true, recurses := true, apart := false }
def FnExactTogetherSaySaid : Prop := fnExactTogetherSayRow.holds Try.pinned (OpenSpec.ofChange fnExactTogetherSaySpec)

/-- ITS FALSE NEIGHBOUR: 'it returns false'. Refute it at one input. -/
def fnExactTogetherSayWrong : ChangeSpec := { name := "fnExactTogetherSay", fn := fun _ => fun
  | [d1, d2] => { results := [.lit (.bool false)], args := [d1, d2] }
  | _ => none }
def FnExactTogetherSayWrongFalsely : Prop := fnExactTogetherSayRow.holds Try.pinned (OpenSpec.ofChange fnExactTogetherSayWrong)

/-- 'laws.FnTakenOnce': WHATEVER THE INPUT: true; the input reads as it did. -/
def fnTakenOnceSpec : ChangeSpec := { name := "fnTakenOnce", fn := fun _ => fun
  | [d1, d2] => { results := [.lit (.bool true)], args := [d1, d2] }
  | _ => none }
def fnTakenOnceRow : OpenClaim := { program := "ytonejnaanklfjaa", sum := "08b0a1b39058ab5c4cc551b08591977718bfdf4484db5f119c78a818515c77e4", func := "loop.example/g00549/laws.FnTakenOnce", spec := "fnTakenOnce", apart := false }
def FnTakenOnceSaid : Prop := fnTakenOnceRow.holds Try.pinned (OpenSpec.ofChange fnTakenOnceSpec)

/-- ITS FALSE NEIGHBOUR: 'it returns false'. Refute it at one input. -/
def fnTakenOnceWrong : ChangeSpec := { name := "fnTakenOnce", fn := fun _ => fun
  | [d1, d2] => { results := [.lit (.bool false)], args := [d1, d2] }
  | _ => none }
def FnTakenOnceWrongFalsely : Prop := fnTakenOnceRow.holds Try.pinned (OpenSpec.ofChange fnTakenOnceWrong)

/- THE SECOND FORM. 'bulk': how many values and letters a reading holds, each counted each time it is reached (what is shared counts as often as it is met; a slice's spare places count too). A statement '..UptoSaid' is the law's where the arguments, and the package variables that the reading takes, are together of bulk at most 1048576: NARROWER than '..Said'. Prove '..Said' where nothing that the law and all that it calls make is longer than what came in: it says more and counts as full. Else prove '..UptoSaid'. A law counts once. -/
mutual
def uptoBulk {H : Type} : DataW H → Nat
  | .lit (.string bytes) => bytes.length + 1
  | .lit _ => 1
  | .nil => 1
  | .ptr d => uptoBulk d + 1
  | .slice elems spare => uptoBulkAll elems + uptoBulkAll spare + 1
  | .agg parts => uptoBulkAll parts + 1
  | .iface _ d => uptoBulk d + 1
  | .map entries => uptoBulkEntries entries + 1
  | .held _ => 1
def uptoBulkAll {H : Type} : List (DataW H) → Nat
  | [] => 0
  | d :: r => uptoBulk d + uptoBulkAll r
def uptoBulkEntries {H : Type} : List (Lit × DataW H) → Nat
  | [] => 0
  | x :: r => uptoBulkEntry x + uptoBulkEntries r
def uptoBulkEntry {H : Type} : Lit × DataW H → Nat
  | (.string bytes, d) => bytes.length + uptoBulk d + 1
  | (_, d) => uptoBulk d + 1
 end
def uptoSmall : (H : Type) → List (DataW H) → Bool := fun _ ds => decide (uptoBulkAll ds ≤ 1048576)
def OpenSpec.upto (s : _root_.Go.ChangeSpec) : _root_.Go.OpenSpec := { _root_.Go.OpenSpec.ofChange s with cond := some uptoSmall }

/-- 'laws.FnExactIsProved', WHERE WHAT IT READS IS OF BULK AT MOST 1048576: true; the input reads as it did. -/
def fnExactIsProvedUptoRow : OpenClaim := { program := "ytonejnaanklfjaa", sum := "08b0a1b39058ab5c4cc551b08591977718bfdf4484db5f119c78a818515c77e4", func := "loop.example/g00549/laws.FnExactIsProved", spec := "fnExactIsProved", unfollowed := true, recurses := true, apart := false, narrowed := true }
def FnExactIsProvedUptoSaid : Prop := fnExactIsProvedUptoRow.holds Try.pinned (OpenSpec.upto fnExactIsProvedSpec)

/-- 'laws.FnExactPlainInbox', WHERE WHAT IT READS IS OF BULK AT MOST 1048576: true; the input reads as it did. -/
def fnExactPlainInboxUptoRow : OpenClaim := { program := "ytonejnaanklfjaa", sum := "08b0a1b39058ab5c4cc551b08591977718bfdf4484db5f119c78a818515c77e4", func := "loop.example/g00549/laws.FnExactPlainInbox", spec := "fnExactPlainInbox", apart := false, narrowed := true }
def FnExactPlainInboxUptoSaid : Prop := fnExactPlainInboxUptoRow.holds Try.pinned (OpenSpec.upto fnExactPlainInboxSpec)

/-- 'laws.FnExactGoodTable', WHERE WHAT IT READS IS OF BULK AT MOST 1048576: true; the input reads as it did. -/
def fnExactGoodTableUptoRow : OpenClaim := { program := "ytonejnaanklfjaa", sum := "08b0a1b39058ab5c4cc551b08591977718bfdf4484db5f119c78a818515c77e4", func := "loop.example/g00549/laws.FnExactGoodTable", spec := "fnExactGoodTable", unfollowed := true, recurses := true, apart := false, narrowed := true }
def FnExactGoodTableUptoSaid : Prop := fnExactGoodTableUptoRow.holds Try.pinned (OpenSpec.upto fnExactGoodTableSpec)

/-- 'laws.FnExactRefusedBy', WHERE WHAT IT READS IS OF BULK AT MOST 1048576: true; the input reads as it did. -/
def fnExactRefusedByUptoRow : OpenClaim := { program := "ytonejnaanklfjaa", sum := "08b0a1b39058ab5c4cc551b08591977718bfdf4484db5f119c78a818515c77e4", func := "loop.example/g00549/laws.FnExactRefusedBy", spec := "fnExactRefusedBy", unfollowed := true, recurses := true, apart := false, narrowed := true }
def FnExactRefusedByUptoSaid : Prop := fnExactRefusedByUptoRow.holds Try.pinned (OpenSpec.upto fnExactRefusedBySpec)

/-- 'laws.FnExactMergeStatements', WHERE WHAT IT READS IS OF BULK AT MOST 1048576: true; the input reads as it did. -/
def fnExactMergeStatementsUptoRow : OpenClaim := { program := "ytonejnaanklfjaa", sum := "08b0a1b39058ab5c4cc551b08591977718bfdf4484db5f119c78a818515c77e4", func := "loop.example/g00549/laws.FnExactMergeStatements", spec := "fnExactMergeStatements", unfollowed := true, recurses := true, apart := false, narrowed := true }
def FnExactMergeStatementsUptoSaid : Prop := fnExactMergeStatementsUptoRow.holds Try.pinned (OpenSpec.upto fnExactMergeStatementsSpec)

/-- 'laws.FnProved', WHERE WHAT IT READS IS OF BULK AT MOST 1048576: true; the input reads as it did. -/
def fnProvedUptoRow : OpenClaim := { program := "ytonejnaanklfjaa", sum := "08b0a1b39058ab5c4cc551b08591977718bfdf4484db5f119c78a818515c77e4", func := "loop.example/g00549/laws.FnProved", spec := "fnProved", unfollowed := true, recurses := true, apart := false, narrowed := true }
def FnProvedUptoSaid : Prop := fnProvedUptoRow.holds Try.pinned (OpenSpec.upto fnProvedSpec)

/-- 'laws.FnJoined', WHERE WHAT IT READS IS OF BULK AT MOST 1048576: true; the input reads as it did. -/
def fnJoinedUptoRow : OpenClaim := { program := "ytonejnaanklfjaa", sum := "08b0a1b39058ab5c4cc551b08591977718bfdf4484db5f119c78a818515c77e4", func := "loop.example/g00549/laws.FnJoined", spec := "fnJoined", apart := false, narrowed := true }
def FnJoinedUptoSaid : Prop := fnJoinedUptoRow.holds Try.pinned (OpenSpec.upto fnJoinedSpec)

/-- 'laws.FnExactSayAt', WHERE WHAT IT READS IS OF BULK AT MOST 1048576: true; the input reads as it did. -/
def fnExactSayAtUptoRow : OpenClaim := { program := "ytonejnaanklfjaa", sum := "08b0a1b39058ab5c4cc551b08591977718bfdf4484db5f119c78a818515c77e4", func := "loop.example/g00549/laws.FnExactSayAt", spec := "fnExactSayAt", unfollowed := true, recurses := true, apart := false, narrowed := true }
def FnExactSayAtUptoSaid : Prop := fnExactSayAtUptoRow.holds Try.pinned (OpenSpec.upto fnExactSayAtSpec)

/-- 'laws.FnExactNewBoard', WHERE WHAT IT READS IS OF BULK AT MOST 1048576: true; the input reads as it did. -/
def fnExactNewBoardUptoRow : OpenClaim := { program := "ytonejnaanklfjaa", sum := "08b0a1b39058ab5c4cc551b08591977718bfdf4484db5f119c78a818515c77e4", func := "loop.example/g00549/laws.FnExactNewBoard", spec := "fnExactNewBoard", apart := false, narrowed := true }
def FnExactNewBoardUptoSaid : Prop := fnExactNewBoardUptoRow.holds Try.pinned (OpenSpec.upto fnExactNewBoardSpec)

/-- 'laws.FnExactNewNet', WHERE WHAT IT READS IS OF BULK AT MOST 1048576: true; the input reads as it did. -/
def fnExactNewNetUptoRow : OpenClaim := { program := "ytonejnaanklfjaa", sum := "08b0a1b39058ab5c4cc551b08591977718bfdf4484db5f119c78a818515c77e4", func := "loop.example/g00549/laws.FnExactNewNet", spec := "fnExactNewNet", apart := false, narrowed := true }
def FnExactNewNetUptoSaid : Prop := fnExactNewNetUptoRow.holds Try.pinned (OpenSpec.upto fnExactNewNetSpec)

/-- 'laws.FnExactTogetherSay', WHERE WHAT IT READS IS OF BULK AT MOST 1048576: true; the input reads as it did. -/
def fnExactTogetherSayUptoRow : OpenClaim := { program := "ytonejnaanklfjaa", sum := "08b0a1b39058ab5c4cc551b08591977718bfdf4484db5f119c78a818515c77e4", func := "loop.example/g00549/laws.FnExactTogetherSay", spec := "fnExactTogetherSay", unfollowed := true, recurses := true, apart := false, narrowed := true }
def FnExactTogetherSayUptoSaid : Prop := fnExactTogetherSayUptoRow.holds Try.pinned (OpenSpec.upto fnExactTogetherSaySpec)

/-- 'laws.FnTakenOnce', WHERE WHAT IT READS IS OF BULK AT MOST 1048576: true; the input reads as it did. -/
def fnTakenOnceUptoRow : OpenClaim := { program := "ytonejnaanklfjaa", sum := "08b0a1b39058ab5c4cc551b08591977718bfdf4484db5f119c78a818515c77e4", func := "loop.example/g00549/laws.FnTakenOnce", spec := "fnTakenOnce", apart := false, narrowed := true }
def FnTakenOnceUptoSaid : Prop := fnTakenOnceUptoRow.holds Try.pinned (OpenSpec.upto fnTakenOnceSpec)

end Rows
end Go.Proofs.Ytonejnaanklfjaa
