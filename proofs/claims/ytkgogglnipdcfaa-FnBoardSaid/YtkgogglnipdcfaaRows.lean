/-
  No cell of these rows narrows 'for every input' (looked for: loops, veiled, ifaces, maps, wideKeys, modest, calm, conditions, laid).
  DERIVED. THE GIVEN ROWS OF THIS SEAT. 10 by the template 'for every input the law returns true; each argument reads behind the call as it read before'; 0 by the template 'total and deterministic' (their statements: YtkgogglnipdcfaaTotals.lean).
  GIVEN WITH THE SEED: the statements are not yours to turn. If you find one false, say at which input.
  Laid BY PROGRAM, IN A SANDBOX (cutbox-rows.mjs): the forced cells as the released guide's own fill.sh prints them over the translation 74e7d037234affa5… (all of the seat's roots in one cut). By AI agents, Wed Nov 11 2026. No macro, syntax, notation, axiom, sorry.
-/
import Derived.Test.YtkgogglnipdcfaaChecked
import GoSem.Claim
import GoSem.ClaimJoined
import GoSem.ClaimMapViews
import Derived.JoinedTies
import Derived.KernelRfl
namespace Go.Proofs.Ytkgogglnipdcfaa
/- THE CELL 'sum', in the pinned program and in every row, IS THE sha256 OF THE DUMP (.gsa) THAT YtkgogglnipdcfaaProg.lean LOADS. Nothing in Lean hashes anything: it is a label: what it is worth is what the hold of that sum in a sandbox is worth. -/
noncomputable def Try.pinned : Pinned := { name := "ytkgogglnipdcfaa", sum := "74e7d037234affa57f84023b1c5905b1a700f4595f0856d51326ec430ca8f5ee", checked := Try.checked }
namespace Rows
def none {H : Type} : Left H := { results := [], args := [] }

/-- 'laws.FnExactPutMix': WHATEVER THE INPUT: true; the input reads as it did. -/
def fnExactPutMixSpec : ChangeSpec := { name := "fnExactPutMix", fn := fun _ => fun
  | [d1, d2] => { results := [.lit (.bool true)], args := [d1, d2] }
  | _ => none }
def fnExactPutMixRow : OpenClaim := { program := "ytkgogglnipdcfaa", sum := "74e7d037234affa57f84023b1c5905b1a700f4595f0856d51326ec430ca8f5ee", func := "loop.example/g00549/laws.FnExactPutMix", spec := "fnExactPutMix", inPlace := ["slices.overlaps[string]", "slices.overlaps[int]"], unfollowed := true, recurses := true, apart := false }
def FnExactPutMixSaid : Prop := fnExactPutMixRow.holds Try.pinned (OpenSpec.ofChange fnExactPutMixSpec)

/-- ITS FALSE NEIGHBOUR: 'it returns false'. Refute it at one input. -/
def fnExactPutMixWrong : ChangeSpec := { name := "fnExactPutMix", fn := fun _ => fun
  | [d1, d2] => { results := [.lit (.bool false)], args := [d1, d2] }
  | _ => none }
def FnExactPutMixWrongFalsely : Prop := fnExactPutMixRow.holds Try.pinned (OpenSpec.ofChange fnExactPutMixWrong)

/-- 'laws.FnExactPlayMix': WHATEVER THE INPUT: true; the input reads as it did. -/
def fnExactPlayMixSpec : ChangeSpec := { name := "fnExactPlayMix", fn := fun _ => fun
  | [d1, d2, d3] => { results := [.lit (.bool true)], args := [d1, d2, d3] }
  | _ => none }
def fnExactPlayMixRow : OpenClaim := { program := "ytkgogglnipdcfaa", sum := "74e7d037234affa57f84023b1c5905b1a700f4595f0856d51326ec430ca8f5ee", func := "loop.example/g00549/laws.FnExactPlayMix", spec := "fnExactPlayMix", inPlace := ["slices.overlaps[string]", "slices.overlaps[int]"], unfollowed := true, recurses := true, apart := false }
def FnExactPlayMixSaid : Prop := fnExactPlayMixRow.holds Try.pinned (OpenSpec.ofChange fnExactPlayMixSpec)

/-- ITS FALSE NEIGHBOUR: 'it returns false'. Refute it at one input. -/
def fnExactPlayMixWrong : ChangeSpec := { name := "fnExactPlayMix", fn := fun _ => fun
  | [d1, d2, d3] => { results := [.lit (.bool false)], args := [d1, d2, d3] }
  | _ => none }
def FnExactPlayMixWrongFalsely : Prop := fnExactPlayMixRow.holds Try.pinned (OpenSpec.ofChange fnExactPlayMixWrong)

/-- 'laws.FnBoard': WHATEVER THE INPUT: true; the input reads as it did. -/
def fnBoardSpec : ChangeSpec := { name := "fnBoard", fn := fun _ => fun
  | [d] => { results := [.lit (.bool true)], args := [d] }
  | _ => none }
def fnBoardRow : OpenClaim := { program := "ytkgogglnipdcfaa", sum := "74e7d037234affa57f84023b1c5905b1a700f4595f0856d51326ec430ca8f5ee", func := "loop.example/g00549/laws.FnBoard", spec := "fnBoard", inPlace := ["slices.overlaps[int]"], unfollowed := true, recurses := true, apart := false }
def FnBoardSaid : Prop := fnBoardRow.holds Try.pinned (OpenSpec.ofChange fnBoardSpec)

/-- ITS FALSE NEIGHBOUR: 'it returns false'. Refute it at one input. -/
def fnBoardWrong : ChangeSpec := { name := "fnBoard", fn := fun _ => fun
  | [d] => { results := [.lit (.bool false)], args := [d] }
  | _ => none }
def FnBoardWrongFalsely : Prop := fnBoardRow.holds Try.pinned (OpenSpec.ofChange fnBoardWrong)

/-- 'laws.FnExactPlayBoard': WHATEVER THE INPUT: true; the input reads as it did. -/
def fnExactPlayBoardSpec : ChangeSpec := { name := "fnExactPlayBoard", fn := fun _ => fun
  | [d1, d2, d3] => { results := [.lit (.bool true)], args := [d1, d2, d3] }
  | _ => none }
def fnExactPlayBoardRow : OpenClaim := { program := "ytkgogglnipdcfaa", sum := "74e7d037234affa57f84023b1c5905b1a700f4595f0856d51326ec430ca8f5ee", func := "loop.example/g00549/laws.FnExactPlayBoard", spec := "fnExactPlayBoard", inPlace := ["slices.overlaps[int]"], unfollowed := true, recurses := true, apart := false }
def FnExactPlayBoardSaid : Prop := fnExactPlayBoardRow.holds Try.pinned (OpenSpec.ofChange fnExactPlayBoardSpec)

/-- ITS FALSE NEIGHBOUR: 'it returns false'. Refute it at one input. -/
def fnExactPlayBoardWrong : ChangeSpec := { name := "fnExactPlayBoard", fn := fun _ => fun
  | [d1, d2, d3] => { results := [.lit (.bool false)], args := [d1, d2, d3] }
  | _ => none }
def FnExactPlayBoardWrongFalsely : Prop := fnExactPlayBoardRow.holds Try.pinned (OpenSpec.ofChange fnExactPlayBoardWrong)

/-- 'laws.FnExactClaimsIn': WHATEVER THE INPUT: true; the input reads as it did. -/
def fnExactClaimsInSpec : ChangeSpec := { name := "fnExactClaimsIn", fn := fun _ => fun
  | [d] => { results := [.lit (.bool true)], args := [d] }
  | _ => none }
def fnExactClaimsInRow : OpenClaim := { program := "ytkgogglnipdcfaa", sum := "74e7d037234affa57f84023b1c5905b1a700f4595f0856d51326ec430ca8f5ee", func := "loop.example/g00549/laws.FnExactClaimsIn", spec := "fnExactClaimsIn", unfollowed := true, recurses := true, apart := false }
def FnExactClaimsInSaid : Prop := fnExactClaimsInRow.holds Try.pinned (OpenSpec.ofChange fnExactClaimsInSpec)

/-- ITS FALSE NEIGHBOUR: 'it returns false'. Refute it at one input. -/
def fnExactClaimsInWrong : ChangeSpec := { name := "fnExactClaimsIn", fn := fun _ => fun
  | [d] => { results := [.lit (.bool false)], args := [d] }
  | _ => none }
def FnExactClaimsInWrongFalsely : Prop := fnExactClaimsInRow.holds Try.pinned (OpenSpec.ofChange fnExactClaimsInWrong)

/-- 'laws.FnStated': WHATEVER THE INPUT: true; the input reads as it did. -/
def fnStatedSpec : ChangeSpec := { name := "fnStated", fn := fun _ => fun
  | [d1, d2] => { results := [.lit (.bool true)], args := [d1, d2] }
  | _ => none }
def fnStatedRow : OpenClaim := { program := "ytkgogglnipdcfaa", sum := "74e7d037234affa57f84023b1c5905b1a700f4595f0856d51326ec430ca8f5ee", func := "loop.example/g00549/laws.FnStated", spec := "fnStated", unfollowed := true, recurses := true, apart := false }
def FnStatedSaid : Prop := fnStatedRow.holds Try.pinned (OpenSpec.ofChange fnStatedSpec)

/-- ITS FALSE NEIGHBOUR: 'it returns false'. Refute it at one input. -/
def fnStatedWrong : ChangeSpec := { name := "fnStated", fn := fun _ => fun
  | [d1, d2] => { results := [.lit (.bool false)], args := [d1, d2] }
  | _ => none }
def FnStatedWrongFalsely : Prop := fnStatedRow.holds Try.pinned (OpenSpec.ofChange fnStatedWrong)

/-- 'laws.FnExactDebitsFor': WHATEVER THE INPUT: true; the input reads as it did. -/
def fnExactDebitsForSpec : ChangeSpec := { name := "fnExactDebitsFor", fn := fun _ => fun
  | [d1, d2, d3] => { results := [.lit (.bool true)], args := [d1, d2, d3] }
  | _ => none }
def fnExactDebitsForRow : OpenClaim := { program := "ytkgogglnipdcfaa", sum := "74e7d037234affa57f84023b1c5905b1a700f4595f0856d51326ec430ca8f5ee", func := "loop.example/g00549/laws.FnExactDebitsFor", spec := "fnExactDebitsFor", unfollowed := true, recurses := true, apart := false }
def FnExactDebitsForSaid : Prop := fnExactDebitsForRow.holds Try.pinned (OpenSpec.ofChange fnExactDebitsForSpec)

/-- ITS FALSE NEIGHBOUR: 'it returns false'. Refute it at one input. -/
def fnExactDebitsForWrong : ChangeSpec := { name := "fnExactDebitsFor", fn := fun _ => fun
  | [d1, d2, d3] => { results := [.lit (.bool false)], args := [d1, d2, d3] }
  | _ => none }
def FnExactDebitsForWrongFalsely : Prop := fnExactDebitsForRow.holds Try.pinned (OpenSpec.ofChange fnExactDebitsForWrong)

/-- 'laws.FnExactTallyOf': WHATEVER THE INPUT: true; the input reads as it did. -/
def fnExactTallyOfSpec : ChangeSpec := { name := "fnExactTallyOf", fn := fun _ => fun
  | [d1, d2, d3, d4] => { results := [.lit (.bool true)], args := [d1, d2, d3, d4] }
  | _ => none }
def fnExactTallyOfRow : OpenClaim := { program := "ytkgogglnipdcfaa", sum := "74e7d037234affa57f84023b1c5905b1a700f4595f0856d51326ec430ca8f5ee", func := "loop.example/g00549/laws.FnExactTallyOf", spec := "fnExactTallyOf", unfollowed := true, recurses := true, apart := false }
def FnExactTallyOfSaid : Prop := fnExactTallyOfRow.holds Try.pinned (OpenSpec.ofChange fnExactTallyOfSpec)

/-- ITS FALSE NEIGHBOUR: 'it returns false'. Refute it at one input. -/
def fnExactTallyOfWrong : ChangeSpec := { name := "fnExactTallyOf", fn := fun _ => fun
  | [d1, d2, d3, d4] => { results := [.lit (.bool false)], args := [d1, d2, d3, d4] }
  | _ => none }
def FnExactTallyOfWrongFalsely : Prop := fnExactTallyOfRow.holds Try.pinned (OpenSpec.ofChange fnExactTallyOfWrong)

/-- 'laws.FnScores': WHATEVER THE INPUT: true; the input reads as it did. -/
def fnScoresSpec : ChangeSpec := { name := "fnScores", fn := fun _ => fun
  | [d1, d2] => { results := [.lit (.bool true)], args := [d1, d2] }
  | _ => none }
def fnScoresRow : OpenClaim := { program := "ytkgogglnipdcfaa", sum := "74e7d037234affa57f84023b1c5905b1a700f4595f0856d51326ec430ca8f5ee", func := "loop.example/g00549/laws.FnScores", spec := "fnScores", unfollowed := true, recurses := true, apart := false }
def FnScoresSaid : Prop := fnScoresRow.holds Try.pinned (OpenSpec.ofChange fnScoresSpec)

/-- ITS FALSE NEIGHBOUR: 'it returns false'. Refute it at one input. -/
def fnScoresWrong : ChangeSpec := { name := "fnScores", fn := fun _ => fun
  | [d1, d2] => { results := [.lit (.bool false)], args := [d1, d2] }
  | _ => none }
def FnScoresWrongFalsely : Prop := fnScoresRow.holds Try.pinned (OpenSpec.ofChange fnScoresWrong)

/-- 'laws.FnMixes': WHATEVER THE INPUT: true; the input reads as it did. -/
def fnMixesSpec : ChangeSpec := { name := "fnMixes", fn := fun _ => fun
  | [d1, d2] => { results := [.lit (.bool true)], args := [d1, d2] }
  | _ => none }
def fnMixesRow : OpenClaim := { program := "ytkgogglnipdcfaa", sum := "74e7d037234affa57f84023b1c5905b1a700f4595f0856d51326ec430ca8f5ee", func := "loop.example/g00549/laws.FnMixes", spec := "fnMixes", inPlace := ["slices.overlaps[string]", "slices.overlaps[int]"], unfollowed := true, recurses := true, apart := false }
def FnMixesSaid : Prop := fnMixesRow.holds Try.pinned (OpenSpec.ofChange fnMixesSpec)

/-- ITS FALSE NEIGHBOUR: 'it returns false'. Refute it at one input. -/
def fnMixesWrong : ChangeSpec := { name := "fnMixes", fn := fun _ => fun
  | [d1, d2] => { results := [.lit (.bool false)], args := [d1, d2] }
  | _ => none }
def FnMixesWrongFalsely : Prop := fnMixesRow.holds Try.pinned (OpenSpec.ofChange fnMixesWrong)

/- THE SECOND FORM. 'bulk': how many values and letters a reading holds, each counted each time it is reached (what is shared counts as often as it is met; a slice's spare places count too). A statement '..UptoSaid' is the law's where the arguments, and the package variables that the reading takes, are together of bulk at most 1048576: NARROWER than '..Said'. Prove '..Said' where nothing that the law and all that it calls make is longer than what came in: it says more and counts as full. Else prove '..UptoSaid'. A law counts once. -/
mutual
def uptoBulk {H : Type} : DataW H → Nat
  | .lit (.string bytes) => bytes.length + 1
  | .lit _ => 1
  | .nil => 1
  | .ptr d => uptoBulk d + 1
  | .slice elems spare => uptoBulkAll elems + uptoBulkAll spare + 1
  | .agg parts => uptoBulkAll parts + 1
  | .iface _ d => uptoBulk d + 1
  | .map entries => uptoBulkEntries entries + 1
  | .held _ => 1
def uptoBulkAll {H : Type} : List (DataW H) → Nat
  | [] => 0
  | d :: r => uptoBulk d + uptoBulkAll r
def uptoBulkEntries {H : Type} : List (Lit × DataW H) → Nat
  | [] => 0
  | x :: r => uptoBulkEntry x + uptoBulkEntries r
def uptoBulkEntry {H : Type} : Lit × DataW H → Nat
  | (.string bytes, d) => bytes.length + uptoBulk d + 1
  | (_, d) => uptoBulk d + 1
 end
def uptoSmall : (H : Type) → List (DataW H) → Bool := fun _ ds => decide (uptoBulkAll ds ≤ 1048576)
def OpenSpec.upto (s : _root_.Go.ChangeSpec) : _root_.Go.OpenSpec := { _root_.Go.OpenSpec.ofChange s with cond := some uptoSmall }

/-- 'laws.FnExactPutMix', WHERE WHAT IT READS IS OF BULK AT MOST 1048576: true; the input reads as it did. -/
def fnExactPutMixUptoRow : OpenClaim := { program := "ytkgogglnipdcfaa", sum := "74e7d037234affa57f84023b1c5905b1a700f4595f0856d51326ec430ca8f5ee", func := "loop.example/g00549/laws.FnExactPutMix", spec := "fnExactPutMix", inPlace := ["slices.overlaps[string]", "slices.overlaps[int]"], unfollowed := true, recurses := true, apart := false, narrowed := true }
def FnExactPutMixUptoSaid : Prop := fnExactPutMixUptoRow.holds Try.pinned (OpenSpec.upto fnExactPutMixSpec)

/-- 'laws.FnExactPlayMix', WHERE WHAT IT READS IS OF BULK AT MOST 1048576: true; the input reads as it did. -/
def fnExactPlayMixUptoRow : OpenClaim := { program := "ytkgogglnipdcfaa", sum := "74e7d037234affa57f84023b1c5905b1a700f4595f0856d51326ec430ca8f5ee", func := "loop.example/g00549/laws.FnExactPlayMix", spec := "fnExactPlayMix", inPlace := ["slices.overlaps[string]", "slices.overlaps[int]"], unfollowed := true, recurses := true, apart := false, narrowed := true }
def FnExactPlayMixUptoSaid : Prop := fnExactPlayMixUptoRow.holds Try.pinned (OpenSpec.upto fnExactPlayMixSpec)

/-- 'laws.FnBoard', WHERE WHAT IT READS IS OF BULK AT MOST 1048576: true; the input reads as it did. -/
def fnBoardUptoRow : OpenClaim := { program := "ytkgogglnipdcfaa", sum := "74e7d037234affa57f84023b1c5905b1a700f4595f0856d51326ec430ca8f5ee", func := "loop.example/g00549/laws.FnBoard", spec := "fnBoard", inPlace := ["slices.overlaps[int]"], unfollowed := true, recurses := true, apart := false, narrowed := true }
def FnBoardUptoSaid : Prop := fnBoardUptoRow.holds Try.pinned (OpenSpec.upto fnBoardSpec)

/-- 'laws.FnExactPlayBoard', WHERE WHAT IT READS IS OF BULK AT MOST 1048576: true; the input reads as it did. -/
def fnExactPlayBoardUptoRow : OpenClaim := { program := "ytkgogglnipdcfaa", sum := "74e7d037234affa57f84023b1c5905b1a700f4595f0856d51326ec430ca8f5ee", func := "loop.example/g00549/laws.FnExactPlayBoard", spec := "fnExactPlayBoard", inPlace := ["slices.overlaps[int]"], unfollowed := true, recurses := true, apart := false, narrowed := true }
def FnExactPlayBoardUptoSaid : Prop := fnExactPlayBoardUptoRow.holds Try.pinned (OpenSpec.upto fnExactPlayBoardSpec)

/-- 'laws.FnExactClaimsIn', WHERE WHAT IT READS IS OF BULK AT MOST 1048576: true; the input reads as it did. -/
def fnExactClaimsInUptoRow : OpenClaim := { program := "ytkgogglnipdcfaa", sum := "74e7d037234affa57f84023b1c5905b1a700f4595f0856d51326ec430ca8f5ee", func := "loop.example/g00549/laws.FnExactClaimsIn", spec := "fnExactClaimsIn", unfollowed := true, recurses := true, apart := false, narrowed := true }
def FnExactClaimsInUptoSaid : Prop := fnExactClaimsInUptoRow.holds Try.pinned (OpenSpec.upto fnExactClaimsInSpec)

/-- 'laws.FnStated', WHERE WHAT IT READS IS OF BULK AT MOST 1048576: true; the input reads as it did. -/
def fnStatedUptoRow : OpenClaim := { program := "ytkgogglnipdcfaa", sum := "74e7d037234affa57f84023b1c5905b1a700f4595f0856d51326ec430ca8f5ee", func := "loop.example/g00549/laws.FnStated", spec := "fnStated", unfollowed := true, recurses := true, apart := false, narrowed := true }
def FnStatedUptoSaid : Prop := fnStatedUptoRow.holds Try.pinned (OpenSpec.upto fnStatedSpec)

/-- 'laws.FnExactDebitsFor', WHERE WHAT IT READS IS OF BULK AT MOST 1048576: true; the input reads as it did. -/
def fnExactDebitsForUptoRow : OpenClaim := { program := "ytkgogglnipdcfaa", sum := "74e7d037234affa57f84023b1c5905b1a700f4595f0856d51326ec430ca8f5ee", func := "loop.example/g00549/laws.FnExactDebitsFor", spec := "fnExactDebitsFor", unfollowed := true, recurses := true, apart := false, narrowed := true }
def FnExactDebitsForUptoSaid : Prop := fnExactDebitsForUptoRow.holds Try.pinned (OpenSpec.upto fnExactDebitsForSpec)

/-- 'laws.FnExactTallyOf', WHERE WHAT IT READS IS OF BULK AT MOST 1048576: true; the input reads as it did. -/
def fnExactTallyOfUptoRow : OpenClaim := { program := "ytkgogglnipdcfaa", sum := "74e7d037234affa57f84023b1c5905b1a700f4595f0856d51326ec430ca8f5ee", func := "loop.example/g00549/laws.FnExactTallyOf", spec := "fnExactTallyOf", unfollowed := true, recurses := true, apart := false, narrowed := true }
def FnExactTallyOfUptoSaid : Prop := fnExactTallyOfUptoRow.holds Try.pinned (OpenSpec.upto fnExactTallyOfSpec)

/-- 'laws.FnScores', WHERE WHAT IT READS IS OF BULK AT MOST 1048576: true; the input reads as it did. -/
def fnScoresUptoRow : OpenClaim := { program := "ytkgogglnipdcfaa", sum := "74e7d037234affa57f84023b1c5905b1a700f4595f0856d51326ec430ca8f5ee", func := "loop.example/g00549/laws.FnScores", spec := "fnScores", unfollowed := true, recurses := true, apart := false, narrowed := true }
def FnScoresUptoSaid : Prop := fnScoresUptoRow.holds Try.pinned (OpenSpec.upto fnScoresSpec)

/-- 'laws.FnMixes', WHERE WHAT IT READS IS OF BULK AT MOST 1048576: true; the input reads as it did. -/
def fnMixesUptoRow : OpenClaim := { program := "ytkgogglnipdcfaa", sum := "74e7d037234affa57f84023b1c5905b1a700f4595f0856d51326ec430ca8f5ee", func := "loop.example/g00549/laws.FnMixes", spec := "fnMixes", inPlace := ["slices.overlaps[string]", "slices.overlaps[int]"], unfollowed := true, recurses := true, apart := false, narrowed := true }
def FnMixesUptoSaid : Prop := fnMixesUptoRow.holds Try.pinned (OpenSpec.upto fnMixesSpec)

end Rows
end Go.Proofs.Ytkgogglnipdcfaa
