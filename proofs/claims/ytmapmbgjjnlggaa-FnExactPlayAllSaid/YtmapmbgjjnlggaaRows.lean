/-
  No cell of these rows narrows 'for every input' (looked for: loops, veiled, ifaces, maps, wideKeys, modest, calm, conditions, laid).
  DERIVED. THE GIVEN ROWS OF THIS SEAT. 12 by the template 'for every input the law returns true; each argument reads behind the call as it read before'; 0 by the template 'total and deterministic' (their statements: YtmapmbgjjnlggaaTotals.lean).
  GIVEN WITH THE SEED: the statements are not yours to turn. If you find one false, say at which input.
  Laid BY PROGRAM, IN A SANDBOX (cutbox-rows.mjs): the forced cells as the released guide's own fill.sh prints them over the translation 3396610f402028fd… (all of the seat's roots in one cut). By AI agents, Wed Nov 11 2026. No macro, syntax, notation, axiom, sorry.
-/
import Derived.Test.YtmapmbgjjnlggaaChecked
import GoSem.Claim
import GoSem.ClaimJoined
import GoSem.ClaimMapViews
import Derived.JoinedTies
import Derived.KernelRfl
namespace Go.Proofs.Ytmapmbgjjnlggaa
/- THE CELL 'sum', in the pinned program and in every row, IS THE sha256 OF THE DUMP (.gsa) THAT YtmapmbgjjnlggaaProg.lean LOADS. Nothing in Lean hashes anything: it is a label: what it is worth is what the hold of that sum in a sandbox is worth. -/
noncomputable def Try.pinned : Pinned := { name := "ytmapmbgjjnlggaa", sum := "3396610f402028fdf565293bd7210538b724b40611352445d7a3c6108f2ce8a7", checked := Try.checked }
namespace Rows
def none {H : Type} : Left H := { results := [], args := [] }

/-- 'laws.FnExactQuorumFor': WHATEVER THE INPUT: true; the input reads as it did. -/
def fnExactQuorumForSpec : ChangeSpec := { name := "fnExactQuorumFor", fn := fun _ => fun
  | [d] => { results := [.lit (.bool true)], args := [d] }
  | _ => none }
def fnExactQuorumForRow : OpenClaim := { program := "ytmapmbgjjnlggaa", sum := "3396610f402028fdf565293bd7210538b724b40611352445d7a3c6108f2ce8a7", func := "loop.example/g00549/laws.FnExactQuorumFor", spec := "fnExactQuorumFor", apart := false }
def FnExactQuorumForSaid : Prop := fnExactQuorumForRow.holds Try.pinned (OpenSpec.ofChange fnExactQuorumForSpec)

/-- ITS FALSE NEIGHBOUR: 'it returns false'. Refute it at one input. -/
def fnExactQuorumForWrong : ChangeSpec := { name := "fnExactQuorumFor", fn := fun _ => fun
  | [d] => { results := [.lit (.bool false)], args := [d] }
  | _ => none }
def FnExactQuorumForWrongFalsely : Prop := fnExactQuorumForRow.holds Try.pinned (OpenSpec.ofChange fnExactQuorumForWrong)

/-- 'laws.FnExactGoodWindow': WHATEVER THE INPUT: true; the input reads as it did. -/
def fnExactGoodWindowSpec : ChangeSpec := { name := "fnExactGoodWindow", fn := fun _ => fun
  | [d] => { results := [.lit (.bool true)], args := [d] }
  | _ => none }
def fnExactGoodWindowRow : OpenClaim := { program := "ytmapmbgjjnlggaa", sum := "3396610f402028fdf565293bd7210538b724b40611352445d7a3c6108f2ce8a7", func := "loop.example/g00549/laws.FnExactGoodWindow", spec := "fnExactGoodWindow", apart := false }
def FnExactGoodWindowSaid : Prop := fnExactGoodWindowRow.holds Try.pinned (OpenSpec.ofChange fnExactGoodWindowSpec)

/-- ITS FALSE NEIGHBOUR: 'it returns false'. Refute it at one input. -/
def fnExactGoodWindowWrong : ChangeSpec := { name := "fnExactGoodWindow", fn := fun _ => fun
  | [d] => { results := [.lit (.bool false)], args := [d] }
  | _ => none }
def FnExactGoodWindowWrongFalsely : Prop := fnExactGoodWindowRow.holds Try.pinned (OpenSpec.ofChange fnExactGoodWindowWrong)

/-- 'laws.FnExactScoreOf': WHATEVER THE INPUT: true; the input reads as it did. -/
def fnExactScoreOfSpec : ChangeSpec := { name := "fnExactScoreOf", fn := fun _ => fun
  | [d] => { results := [.lit (.bool true)], args := [d] }
  | _ => none }
def fnExactScoreOfRow : OpenClaim := { program := "ytmapmbgjjnlggaa", sum := "3396610f402028fdf565293bd7210538b724b40611352445d7a3c6108f2ce8a7", func := "loop.example/g00549/laws.FnExactScoreOf", spec := "fnExactScoreOf", apart := false }
def FnExactScoreOfSaid : Prop := fnExactScoreOfRow.holds Try.pinned (OpenSpec.ofChange fnExactScoreOfSpec)

/-- ITS FALSE NEIGHBOUR: 'it returns false'. Refute it at one input. -/
def fnExactScoreOfWrong : ChangeSpec := { name := "fnExactScoreOf", fn := fun _ => fun
  | [d] => { results := [.lit (.bool false)], args := [d] }
  | _ => none }
def FnExactScoreOfWrongFalsely : Prop := fnExactScoreOfRow.holds Try.pinned (OpenSpec.ofChange fnExactScoreOfWrong)

/-- 'laws.FnExactLowestOf': WHATEVER THE INPUT: true; the input reads as it did. -/
def fnExactLowestOfSpec : ChangeSpec := { name := "fnExactLowestOf", fn := fun _ => fun
  | [d] => { results := [.lit (.bool true)], args := [d] }
  | _ => none }
def fnExactLowestOfRow : OpenClaim := { program := "ytmapmbgjjnlggaa", sum := "3396610f402028fdf565293bd7210538b724b40611352445d7a3c6108f2ce8a7", func := "loop.example/g00549/laws.FnExactLowestOf", spec := "fnExactLowestOf", apart := false }
def FnExactLowestOfSaid : Prop := fnExactLowestOfRow.holds Try.pinned (OpenSpec.ofChange fnExactLowestOfSpec)

/-- ITS FALSE NEIGHBOUR: 'it returns false'. Refute it at one input. -/
def fnExactLowestOfWrong : ChangeSpec := { name := "fnExactLowestOf", fn := fun _ => fun
  | [d] => { results := [.lit (.bool false)], args := [d] }
  | _ => none }
def FnExactLowestOfWrongFalsely : Prop := fnExactLowestOfRow.holds Try.pinned (OpenSpec.ofChange fnExactLowestOfWrong)

/-- 'laws.FnExactSumOf': WHATEVER THE INPUT: true; the input reads as it did. -/
def fnExactSumOfSpec : ChangeSpec := { name := "fnExactSumOf", fn := fun _ => fun
  | [d] => { results := [.lit (.bool true)], args := [d] }
  | _ => none }
def fnExactSumOfRow : OpenClaim := { program := "ytmapmbgjjnlggaa", sum := "3396610f402028fdf565293bd7210538b724b40611352445d7a3c6108f2ce8a7", func := "loop.example/g00549/laws.FnExactSumOf", spec := "fnExactSumOf", apart := false }
def FnExactSumOfSaid : Prop := fnExactSumOfRow.holds Try.pinned (OpenSpec.ofChange fnExactSumOfSpec)

/-- ITS FALSE NEIGHBOUR: 'it returns false'. Refute it at one input. -/
def fnExactSumOfWrong : ChangeSpec := { name := "fnExactSumOf", fn := fun _ => fun
  | [d] => { results := [.lit (.bool false)], args := [d] }
  | _ => none }
def FnExactSumOfWrongFalsely : Prop := fnExactSumOfRow.holds Try.pinned (OpenSpec.ofChange fnExactSumOfWrong)

/-- 'laws.FnExactGoodTallies': WHATEVER THE INPUT: true; the input reads as it did. -/
def fnExactGoodTalliesSpec : ChangeSpec := { name := "fnExactGoodTallies", fn := fun _ => fun
  | [d] => { results := [.lit (.bool true)], args := [d] }
  | _ => none }
def fnExactGoodTalliesRow : OpenClaim := { program := "ytmapmbgjjnlggaa", sum := "3396610f402028fdf565293bd7210538b724b40611352445d7a3c6108f2ce8a7", func := "loop.example/g00549/laws.FnExactGoodTallies", spec := "fnExactGoodTallies", apart := false }
def FnExactGoodTalliesSaid : Prop := fnExactGoodTalliesRow.holds Try.pinned (OpenSpec.ofChange fnExactGoodTalliesSpec)

/-- ITS FALSE NEIGHBOUR: 'it returns false'. Refute it at one input. -/
def fnExactGoodTalliesWrong : ChangeSpec := { name := "fnExactGoodTallies", fn := fun _ => fun
  | [d] => { results := [.lit (.bool false)], args := [d] }
  | _ => none }
def FnExactGoodTalliesWrongFalsely : Prop := fnExactGoodTalliesRow.holds Try.pinned (OpenSpec.ofChange fnExactGoodTalliesWrong)

/-- 'laws.FnExactJoinWindows': WHATEVER THE INPUT: true; the input reads as it did. -/
def fnExactJoinWindowsSpec : ChangeSpec := { name := "fnExactJoinWindows", fn := fun _ => fun
  | [d1, d2] => { results := [.lit (.bool true)], args := [d1, d2] }
  | _ => none }
def fnExactJoinWindowsRow : OpenClaim := { program := "ytmapmbgjjnlggaa", sum := "3396610f402028fdf565293bd7210538b724b40611352445d7a3c6108f2ce8a7", func := "loop.example/g00549/laws.FnExactJoinWindows", spec := "fnExactJoinWindows", apart := false }
def FnExactJoinWindowsSaid : Prop := fnExactJoinWindowsRow.holds Try.pinned (OpenSpec.ofChange fnExactJoinWindowsSpec)

/-- ITS FALSE NEIGHBOUR: 'it returns false'. Refute it at one input. -/
def fnExactJoinWindowsWrong : ChangeSpec := { name := "fnExactJoinWindows", fn := fun _ => fun
  | [d1, d2] => { results := [.lit (.bool false)], args := [d1, d2] }
  | _ => none }
def FnExactJoinWindowsWrongFalsely : Prop := fnExactJoinWindowsRow.holds Try.pinned (OpenSpec.ofChange fnExactJoinWindowsWrong)

/-- 'laws.FnExactSeenIn': WHATEVER THE INPUT: true; the input reads as it did. -/
def fnExactSeenInSpec : ChangeSpec := { name := "fnExactSeenIn", fn := fun _ => fun
  | [d] => { results := [.lit (.bool true)], args := [d] }
  | _ => none }
def fnExactSeenInRow : OpenClaim := { program := "ytmapmbgjjnlggaa", sum := "3396610f402028fdf565293bd7210538b724b40611352445d7a3c6108f2ce8a7", func := "loop.example/g00549/laws.FnExactSeenIn", spec := "fnExactSeenIn", apart := false }
def FnExactSeenInSaid : Prop := fnExactSeenInRow.holds Try.pinned (OpenSpec.ofChange fnExactSeenInSpec)

/-- ITS FALSE NEIGHBOUR: 'it returns false'. Refute it at one input. -/
def fnExactSeenInWrong : ChangeSpec := { name := "fnExactSeenIn", fn := fun _ => fun
  | [d] => { results := [.lit (.bool false)], args := [d] }
  | _ => none }
def FnExactSeenInWrongFalsely : Prop := fnExactSeenInRow.holds Try.pinned (OpenSpec.ofChange fnExactSeenInWrong)

/-- 'laws.FnExactPlayAll': WHATEVER THE INPUT: true; the input reads as it did. -/
def fnExactPlayAllSpec : ChangeSpec := { name := "fnExactPlayAll", fn := fun _ => fun
  | [d] => { results := [.lit (.bool true)], args := [d] }
  | _ => none }
def fnExactPlayAllRow : OpenClaim := { program := "ytmapmbgjjnlggaa", sum := "3396610f402028fdf565293bd7210538b724b40611352445d7a3c6108f2ce8a7", func := "loop.example/g00549/laws.FnExactPlayAll", spec := "fnExactPlayAll", apart := false }
def FnExactPlayAllSaid : Prop := fnExactPlayAllRow.holds Try.pinned (OpenSpec.ofChange fnExactPlayAllSpec)

/-- ITS FALSE NEIGHBOUR: 'it returns false'. Refute it at one input. -/
def fnExactPlayAllWrong : ChangeSpec := { name := "fnExactPlayAll", fn := fun _ => fun
  | [d] => { results := [.lit (.bool false)], args := [d] }
  | _ => none }
def FnExactPlayAllWrongFalsely : Prop := fnExactPlayAllRow.holds Try.pinned (OpenSpec.ofChange fnExactPlayAllWrong)

/-- 'laws.FnExactPlayNumbers': WHATEVER THE INPUT: true; the input reads as it did. -/
def fnExactPlayNumbersSpec : ChangeSpec := { name := "fnExactPlayNumbers", fn := fun _ => fun
  | [d] => { results := [.lit (.bool true)], args := [d] }
  | _ => none }
def fnExactPlayNumbersRow : OpenClaim := { program := "ytmapmbgjjnlggaa", sum := "3396610f402028fdf565293bd7210538b724b40611352445d7a3c6108f2ce8a7", func := "loop.example/g00549/laws.FnExactPlayNumbers", spec := "fnExactPlayNumbers", apart := false }
def FnExactPlayNumbersSaid : Prop := fnExactPlayNumbersRow.holds Try.pinned (OpenSpec.ofChange fnExactPlayNumbersSpec)

/-- ITS FALSE NEIGHBOUR: 'it returns false'. Refute it at one input. -/
def fnExactPlayNumbersWrong : ChangeSpec := { name := "fnExactPlayNumbers", fn := fun _ => fun
  | [d] => { results := [.lit (.bool false)], args := [d] }
  | _ => none }
def FnExactPlayNumbersWrongFalsely : Prop := fnExactPlayNumbersRow.holds Try.pinned (OpenSpec.ofChange fnExactPlayNumbersWrong)

/-- 'laws.FnExactAddTallies': WHATEVER THE INPUT: true; the input reads as it did. -/
def fnExactAddTalliesSpec : ChangeSpec := { name := "fnExactAddTallies", fn := fun _ => fun
  | [d1, d2] => { results := [.lit (.bool true)], args := [d1, d2] }
  | _ => none }
def fnExactAddTalliesRow : OpenClaim := { program := "ytmapmbgjjnlggaa", sum := "3396610f402028fdf565293bd7210538b724b40611352445d7a3c6108f2ce8a7", func := "loop.example/g00549/laws.FnExactAddTallies", spec := "fnExactAddTallies", apart := false }
def FnExactAddTalliesSaid : Prop := fnExactAddTalliesRow.holds Try.pinned (OpenSpec.ofChange fnExactAddTalliesSpec)

/-- ITS FALSE NEIGHBOUR: 'it returns false'. Refute it at one input. -/
def fnExactAddTalliesWrong : ChangeSpec := { name := "fnExactAddTallies", fn := fun _ => fun
  | [d1, d2] => { results := [.lit (.bool false)], args := [d1, d2] }
  | _ => none }
def FnExactAddTalliesWrongFalsely : Prop := fnExactAddTalliesRow.holds Try.pinned (OpenSpec.ofChange fnExactAddTalliesWrong)

/-- 'laws.FnExactRunClaim': WHATEVER THE INPUT: true; the input reads as it did. -/
def fnExactRunClaimSpec : ChangeSpec := { name := "fnExactRunClaim", fn := fun _ => fun
  | [d1, d2, d3] => { results := [.lit (.bool true)], args := [d1, d2, d3] }
  | _ => none }
def fnExactRunClaimRow : OpenClaim := { program := "ytmapmbgjjnlggaa", sum := "3396610f402028fdf565293bd7210538b724b40611352445d7a3c6108f2ce8a7", func := "loop.example/g00549/laws.FnExactRunClaim", spec := "fnExactRunClaim", apart := false }
def FnExactRunClaimSaid : Prop := fnExactRunClaimRow.holds Try.pinned (OpenSpec.ofChange fnExactRunClaimSpec)

/-- ITS FALSE NEIGHBOUR: 'it returns false'. Refute it at one input. -/
def fnExactRunClaimWrong : ChangeSpec := { name := "fnExactRunClaim", fn := fun _ => fun
  | [d1, d2, d3] => { results := [.lit (.bool false)], args := [d1, d2, d3] }
  | _ => none }
def FnExactRunClaimWrongFalsely : Prop := fnExactRunClaimRow.holds Try.pinned (OpenSpec.ofChange fnExactRunClaimWrong)

/- THE SECOND FORM. 'bulk': how many values and letters a reading holds, each counted each time it is reached (what is shared counts as often as it is met; a slice's spare places count too). A statement '..UptoSaid' is the law's where the arguments, and the package variables that the reading takes, are together of bulk at most 1048576: NARROWER than '..Said'. Prove '..Said' where nothing that the law and all that it calls make is longer than what came in: it says more and counts as full. Else prove '..UptoSaid'. A law counts once. -/
mutual
def uptoBulk {H : Type} : DataW H → Nat
  | .lit (.string bytes) => bytes.length + 1
  | .lit _ => 1
  | .nil => 1
  | .ptr d => uptoBulk d + 1
  | .slice elems spare => uptoBulkAll elems + uptoBulkAll spare + 1
  | .agg parts => uptoBulkAll parts + 1
  | .iface _ d => uptoBulk d + 1
  | .map entries => uptoBulkEntries entries + 1
  | .held _ => 1
def uptoBulkAll {H : Type} : List (DataW H) → Nat
  | [] => 0
  | d :: r => uptoBulk d + uptoBulkAll r
def uptoBulkEntries {H : Type} : List (Lit × DataW H) → Nat
  | [] => 0
  | x :: r => uptoBulkEntry x + uptoBulkEntries r
def uptoBulkEntry {H : Type} : Lit × DataW H → Nat
  | (.string bytes, d) => bytes.length + uptoBulk d + 1
  | (_, d) => uptoBulk d + 1
 end
def uptoSmall : (H : Type) → List (DataW H) → Bool := fun _ ds => decide (uptoBulkAll ds ≤ 1048576)
def OpenSpec.upto (s : _root_.Go.ChangeSpec) : _root_.Go.OpenSpec := { _root_.Go.OpenSpec.ofChange s with cond := some uptoSmall }

/-- 'laws.FnExactQuorumFor', WHERE WHAT IT READS IS OF BULK AT MOST 1048576: true; the input reads as it did. -/
def fnExactQuorumForUptoRow : OpenClaim := { program := "ytmapmbgjjnlggaa", sum := "3396610f402028fdf565293bd7210538b724b40611352445d7a3c6108f2ce8a7", func := "loop.example/g00549/laws.FnExactQuorumFor", spec := "fnExactQuorumFor", apart := false, narrowed := true }
def FnExactQuorumForUptoSaid : Prop := fnExactQuorumForUptoRow.holds Try.pinned (OpenSpec.upto fnExactQuorumForSpec)

/-- 'laws.FnExactGoodWindow', WHERE WHAT IT READS IS OF BULK AT MOST 1048576: true; the input reads as it did. -/
def fnExactGoodWindowUptoRow : OpenClaim := { program := "ytmapmbgjjnlggaa", sum := "3396610f402028fdf565293bd7210538b724b40611352445d7a3c6108f2ce8a7", func := "loop.example/g00549/laws.FnExactGoodWindow", spec := "fnExactGoodWindow", apart := false, narrowed := true }
def FnExactGoodWindowUptoSaid : Prop := fnExactGoodWindowUptoRow.holds Try.pinned (OpenSpec.upto fnExactGoodWindowSpec)

/-- 'laws.FnExactScoreOf', WHERE WHAT IT READS IS OF BULK AT MOST 1048576: true; the input reads as it did. -/
def fnExactScoreOfUptoRow : OpenClaim := { program := "ytmapmbgjjnlggaa", sum := "3396610f402028fdf565293bd7210538b724b40611352445d7a3c6108f2ce8a7", func := "loop.example/g00549/laws.FnExactScoreOf", spec := "fnExactScoreOf", apart := false, narrowed := true }
def FnExactScoreOfUptoSaid : Prop := fnExactScoreOfUptoRow.holds Try.pinned (OpenSpec.upto fnExactScoreOfSpec)

/-- 'laws.FnExactLowestOf', WHERE WHAT IT READS IS OF BULK AT MOST 1048576: true; the input reads as it did. -/
def fnExactLowestOfUptoRow : OpenClaim := { program := "ytmapmbgjjnlggaa", sum := "3396610f402028fdf565293bd7210538b724b40611352445d7a3c6108f2ce8a7", func := "loop.example/g00549/laws.FnExactLowestOf", spec := "fnExactLowestOf", apart := false, narrowed := true }
def FnExactLowestOfUptoSaid : Prop := fnExactLowestOfUptoRow.holds Try.pinned (OpenSpec.upto fnExactLowestOfSpec)

/-- 'laws.FnExactSumOf', WHERE WHAT IT READS IS OF BULK AT MOST 1048576: true; the input reads as it did. -/
def fnExactSumOfUptoRow : OpenClaim := { program := "ytmapmbgjjnlggaa", sum := "3396610f402028fdf565293bd7210538b724b40611352445d7a3c6108f2ce8a7", func := "loop.example/g00549/laws.FnExactSumOf", spec := "fnExactSumOf", apart := false, narrowed := true }
def FnExactSumOfUptoSaid : Prop := fnExactSumOfUptoRow.holds Try.pinned (OpenSpec.upto fnExactSumOfSpec)

/-- 'laws.FnExactGoodTallies', WHERE WHAT IT READS IS OF BULK AT MOST 1048576: true; the input reads as it did. -/
def fnExactGoodTalliesUptoRow : OpenClaim := { program := "ytmapmbgjjnlggaa", sum := "3396610f402028fdf565293bd7210538b724b40611352445d7a3c6108f2ce8a7", func := "loop.example/g00549/laws.FnExactGoodTallies", spec := "fnExactGoodTallies", apart := false, narrowed := true }
def FnExactGoodTalliesUptoSaid : Prop := fnExactGoodTalliesUptoRow.holds Try.pinned (OpenSpec.upto fnExactGoodTalliesSpec)

/-- 'laws.FnExactJoinWindows', WHERE WHAT IT READS IS OF BULK AT MOST 1048576: true; the input reads as it did. -/
def fnExactJoinWindowsUptoRow : OpenClaim := { program := "ytmapmbgjjnlggaa", sum := "3396610f402028fdf565293bd7210538b724b40611352445d7a3c6108f2ce8a7", func := "loop.example/g00549/laws.FnExactJoinWindows", spec := "fnExactJoinWindows", apart := false, narrowed := true }
def FnExactJoinWindowsUptoSaid : Prop := fnExactJoinWindowsUptoRow.holds Try.pinned (OpenSpec.upto fnExactJoinWindowsSpec)

/-- 'laws.FnExactSeenIn', WHERE WHAT IT READS IS OF BULK AT MOST 1048576: true; the input reads as it did. -/
def fnExactSeenInUptoRow : OpenClaim := { program := "ytmapmbgjjnlggaa", sum := "3396610f402028fdf565293bd7210538b724b40611352445d7a3c6108f2ce8a7", func := "loop.example/g00549/laws.FnExactSeenIn", spec := "fnExactSeenIn", apart := false, narrowed := true }
def FnExactSeenInUptoSaid : Prop := fnExactSeenInUptoRow.holds Try.pinned (OpenSpec.upto fnExactSeenInSpec)

/-- 'laws.FnExactPlayAll', WHERE WHAT IT READS IS OF BULK AT MOST 1048576: true; the input reads as it did. -/
def fnExactPlayAllUptoRow : OpenClaim := { program := "ytmapmbgjjnlggaa", sum := "3396610f402028fdf565293bd7210538b724b40611352445d7a3c6108f2ce8a7", func := "loop.example/g00549/laws.FnExactPlayAll", spec := "fnExactPlayAll", apart := false, narrowed := true }
def FnExactPlayAllUptoSaid : Prop := fnExactPlayAllUptoRow.holds Try.pinned (OpenSpec.upto fnExactPlayAllSpec)

/-- 'laws.FnExactPlayNumbers', WHERE WHAT IT READS IS OF BULK AT MOST 1048576: true; the input reads as it did. -/
def fnExactPlayNumbersUptoRow : OpenClaim := { program := "ytmapmbgjjnlggaa", sum := "3396610f402028fdf565293bd7210538b724b40611352445d7a3c6108f2ce8a7", func := "loop.example/g00549/laws.FnExactPlayNumbers", spec := "fnExactPlayNumbers", apart := false, narrowed := true }
def FnExactPlayNumbersUptoSaid : Prop := fnExactPlayNumbersUptoRow.holds Try.pinned (OpenSpec.upto fnExactPlayNumbersSpec)

/-- 'laws.FnExactAddTallies', WHERE WHAT IT READS IS OF BULK AT MOST 1048576: true; the input reads as it did. -/
def fnExactAddTalliesUptoRow : OpenClaim := { program := "ytmapmbgjjnlggaa", sum := "3396610f402028fdf565293bd7210538b724b40611352445d7a3c6108f2ce8a7", func := "loop.example/g00549/laws.FnExactAddTallies", spec := "fnExactAddTallies", apart := false, narrowed := true }
def FnExactAddTalliesUptoSaid : Prop := fnExactAddTalliesUptoRow.holds Try.pinned (OpenSpec.upto fnExactAddTalliesSpec)

/-- 'laws.FnExactRunClaim', WHERE WHAT IT READS IS OF BULK AT MOST 1048576: true; the input reads as it did. -/
def fnExactRunClaimUptoRow : OpenClaim := { program := "ytmapmbgjjnlggaa", sum := "3396610f402028fdf565293bd7210538b724b40611352445d7a3c6108f2ce8a7", func := "loop.example/g00549/laws.FnExactRunClaim", spec := "fnExactRunClaim", apart := false, narrowed := true }
def FnExactRunClaimUptoSaid : Prop := fnExactRunClaimUptoRow.holds Try.pinned (OpenSpec.upto fnExactRunClaimSpec)

end Rows
end Go.Proofs.Ytmapmbgjjnlggaa
