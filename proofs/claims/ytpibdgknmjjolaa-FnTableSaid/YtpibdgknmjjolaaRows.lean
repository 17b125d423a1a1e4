/-
  No cell of these rows narrows 'for every input' (looked for: loops, veiled, ifaces, maps, wideKeys, modest, calm, conditions, laid).
  DERIVED. THE GIVEN ROWS OF THIS SEAT. 12 by the template 'for every input the law returns true; each argument reads behind the call as it read before'; 0 by the template 'total and deterministic' (their statements: YtpibdgknmjjolaaTotals.lean).
  GIVEN WITH THE SEED: the statements are not yours to turn. If you find one false, say at which input.
  Laid BY PROGRAM, IN A SANDBOX (cutbox-rows.mjs): the forced cells as the released guide's own fill.sh prints them over the translation 8fdfc1f2fb93f43a… (all of the seat's roots in one cut). By AI agents, Wed Nov 11 2026. No macro, syntax, notation, axiom, sorry.
-/
import Derived.Test.YtpibdgknmjjolaaChecked
import GoSem.Claim
import GoSem.ClaimJoined
import GoSem.ClaimMapViews
import Derived.JoinedTies
import Derived.KernelRfl
namespace Go.Proofs.Ytpibdgknmjjolaa
/- THE CELL 'sum', in the pinned program and in every row, IS THE sha256 OF THE DUMP (.gsa) THAT YtpibdgknmjjolaaProg.lean LOADS. Nothing in Lean hashes anything: it is a label: what it is worth is what the hold of that sum in a sandbox is worth. -/
noncomputable def Try.pinned : Pinned := { name := "ytpibdgknmjjolaa", sum := "8fdfc1f2fb93f43a4a45e5d502d9355d711cb7d06348c63925a8653d3febe7c3", checked := Try.checked }
namespace Rows
def none {H : Type} : Left H := { results := [], args := [] }

/-- 'laws.FnExactGoodNet': WHATEVER THE INPUT: true; the input reads as it did. -/
def fnExactGoodNetSpec : ChangeSpec := { name := "fnExactGoodNet", fn := fun _ => fun
  | [d] => { results := [.lit (.bool true)], args := [d] }
  | _ => none }
def fnExactGoodNetRow : OpenClaim := { program := "ytpibdgknmjjolaa", sum := "8fdfc1f2fb93f43a4a45e5d502d9355d711cb7d06348c63925a8653d3febe7c3", func := "loop.example/g00549/laws.FnExactGoodNet", spec := "fnExactGoodNet", unfollowed := true, recurses := true, apart := false }
def FnExactGoodNetSaid : Prop := fnExactGoodNetRow.holds Try.pinned (OpenSpec.ofChange fnExactGoodNetSpec)

/-- ITS FALSE NEIGHBOUR: 'it returns false'. Refute it at one input. -/
def fnExactGoodNetWrong : ChangeSpec := { name := "fnExactGoodNet", fn := fun _ => fun
  | [d] => { results := [.lit (.bool false)], args := [d] }
  | _ => none }
def FnExactGoodNetWrongFalsely : Prop := fnExactGoodNetRow.holds Try.pinned (OpenSpec.ofChange fnExactGoodNetWrong)

/-- 'laws.FnExactAllSay': WHATEVER THE INPUT: true; the input reads as it did. -/
def fnExactAllSaySpec : ChangeSpec := { name := "fnExactAllSay", fn := fun _ => fun
  | [d1, d2, d3] => { results := [.lit (.bool true)], args := [d1, d2, d3] }
  | _ => none }
def fnExactAllSayRow : OpenClaim := { program := "ytpibdgknmjjolaa", sum := "8fdfc1f2fb93f43a4a45e5d502d9355d711cb7d06348c63925a8653d3febe7c3", func := "loop.example/g00549/laws.FnExactAllSay", spec := "fnExactAllSay", unfollowed := true, recurses := true, apart := false }
def FnExactAllSaySaid : Prop := fnExactAllSayRow.holds Try.pinned (OpenSpec.ofChange fnExactAllSaySpec)

/-- ITS FALSE NEIGHBOUR: 'it returns false'. Refute it at one input. -/
def fnExactAllSayWrong : ChangeSpec := { name := "fnExactAllSay", fn := fun _ => fun
  | [d1, d2, d3] => { results := [.lit (.bool false)], args := [d1, d2, d3] }
  | _ => none }
def FnExactAllSayWrongFalsely : Prop := fnExactAllSayRow.holds Try.pinned (OpenSpec.ofChange fnExactAllSayWrong)

/-- 'laws.FnExactLettersIn': WHATEVER THE INPUT: true; the input reads as it did. -/
def fnExactLettersInSpec : ChangeSpec := { name := "fnExactLettersIn", fn := fun _ => fun
  | [d] => { results := [.lit (.bool true)], args := [d] }
  | _ => none }
def fnExactLettersInRow : OpenClaim := { program := "ytpibdgknmjjolaa", sum := "8fdfc1f2fb93f43a4a45e5d502d9355d711cb7d06348c63925a8653d3febe7c3", func := "loop.example/g00549/laws.FnExactLettersIn", spec := "fnExactLettersIn", unfollowed := true, recurses := true, apart := false }
def FnExactLettersInSaid : Prop := fnExactLettersInRow.holds Try.pinned (OpenSpec.ofChange fnExactLettersInSpec)

/-- ITS FALSE NEIGHBOUR: 'it returns false'. Refute it at one input. -/
def fnExactLettersInWrong : ChangeSpec := { name := "fnExactLettersIn", fn := fun _ => fun
  | [d] => { results := [.lit (.bool false)], args := [d] }
  | _ => none }
def FnExactLettersInWrongFalsely : Prop := fnExactLettersInRow.holds Try.pinned (OpenSpec.ofChange fnExactLettersInWrong)

/-- 'laws.FnExactRankHands': WHATEVER THE INPUT: true; the input reads as it did. -/
def fnExactRankHandsSpec : ChangeSpec := { name := "fnExactRankHands", fn := fun _ => fun
  | [d] => { results := [.lit (.bool true)], args := [d] }
  | _ => none }
def fnExactRankHandsRow : OpenClaim := { program := "ytpibdgknmjjolaa", sum := "8fdfc1f2fb93f43a4a45e5d502d9355d711cb7d06348c63925a8653d3febe7c3", func := "loop.example/g00549/laws.FnExactRankHands", spec := "fnExactRankHands", unfollowed := true, recurses := true, apart := false }
def FnExactRankHandsSaid : Prop := fnExactRankHandsRow.holds Try.pinned (OpenSpec.ofChange fnExactRankHandsSpec)

/-- ITS FALSE NEIGHBOUR: 'it returns false'. Refute it at one input. -/
def fnExactRankHandsWrong : ChangeSpec := { name := "fnExactRankHands", fn := fun _ => fun
  | [d] => { results := [.lit (.bool false)], args := [d] }
  | _ => none }
def FnExactRankHandsWrongFalsely : Prop := fnExactRankHandsRow.holds Try.pinned (OpenSpec.ofChange fnExactRankHandsWrong)

/-- 'laws.FnExactGroupsOf': WHATEVER THE INPUT: true; the input reads as it did. -/
def fnExactGroupsOfSpec : ChangeSpec := { name := "fnExactGroupsOf", fn := fun _ => fun
  | [d] => { results := [.lit (.bool true)], args := [d] }
  | _ => none }
def fnExactGroupsOfRow : OpenClaim := { program := "ytpibdgknmjjolaa", sum := "8fdfc1f2fb93f43a4a45e5d502d9355d711cb7d06348c63925a8653d3febe7c3", func := "loop.example/g00549/laws.FnExactGroupsOf", spec := "fnExactGroupsOf", unfollowed := true, recurses := true, apart := false }
def FnExactGroupsOfSaid : Prop := fnExactGroupsOfRow.holds Try.pinned (OpenSpec.ofChange fnExactGroupsOfSpec)

/-- ITS FALSE NEIGHBOUR: 'it returns false'. Refute it at one input. -/
def fnExactGroupsOfWrong : ChangeSpec := { name := "fnExactGroupsOf", fn := fun _ => fun
  | [d] => { results := [.lit (.bool false)], args := [d] }
  | _ => none }
def FnExactGroupsOfWrongFalsely : Prop := fnExactGroupsOfRow.holds Try.pinned (OpenSpec.ofChange fnExactGroupsOfWrong)

/-- 'laws.FnExactWayBetween': WHATEVER THE INPUT: true; the input reads as it did. -/
def fnExactWayBetweenSpec : ChangeSpec := { name := "fnExactWayBetween", fn := fun _ => fun
  | [d1, d2, d3] => { results := [.lit (.bool true)], args := [d1, d2, d3] }
  | _ => none }
def fnExactWayBetweenRow : OpenClaim := { program := "ytpibdgknmjjolaa", sum := "8fdfc1f2fb93f43a4a45e5d502d9355d711cb7d06348c63925a8653d3febe7c3", func := "loop.example/g00549/laws.FnExactWayBetween", spec := "fnExactWayBetween", unfollowed := true, recurses := true, apart := false }
def FnExactWayBetweenSaid : Prop := fnExactWayBetweenRow.holds Try.pinned (OpenSpec.ofChange fnExactWayBetweenSpec)

/-- ITS FALSE NEIGHBOUR: 'it returns false'. Refute it at one input. -/
def fnExactWayBetweenWrong : ChangeSpec := { name := "fnExactWayBetween", fn := fun _ => fun
  | [d1, d2, d3] => { results := [.lit (.bool false)], args := [d1, d2, d3] }
  | _ => none }
def FnExactWayBetweenWrongFalsely : Prop := fnExactWayBetweenRow.holds Try.pinned (OpenSpec.ofChange fnExactWayBetweenWrong)

/-- 'laws.FnExactWaysOf': WHATEVER THE INPUT: true; the input reads as it did. -/
def fnExactWaysOfSpec : ChangeSpec := { name := "fnExactWaysOf", fn := fun _ => fun
  | [d1, d2] => { results := [.lit (.bool true)], args := [d1, d2] }
  | _ => none }
def fnExactWaysOfRow : OpenClaim := { program := "ytpibdgknmjjolaa", sum := "8fdfc1f2fb93f43a4a45e5d502d9355d711cb7d06348c63925a8653d3febe7c3", func := "loop.example/g00549/laws.FnExactWaysOf", spec := "fnExactWaysOf", unfollowed := true, recurses := true, apart := false }
def FnExactWaysOfSaid : Prop := fnExactWaysOfRow.holds Try.pinned (OpenSpec.ofChange fnExactWaysOfSpec)

/-- ITS FALSE NEIGHBOUR: 'it returns false'. Refute it at one input. -/
def fnExactWaysOfWrong : ChangeSpec := { name := "fnExactWaysOf", fn := fun _ => fun
  | [d1, d2] => { results := [.lit (.bool false)], args := [d1, d2] }
  | _ => none }
def FnExactWaysOfWrongFalsely : Prop := fnExactWaysOfRow.holds Try.pinned (OpenSpec.ofChange fnExactWaysOfWrong)

/-- 'laws.FnWays': WHATEVER THE INPUT: true; the input reads as it did. -/
def fnWaysSpec : ChangeSpec := { name := "fnWays", fn := fun _ => fun
  | [d1, d2] => { results := [.lit (.bool true)], args := [d1, d2] }
  | _ => none }
def fnWaysRow : OpenClaim := { program := "ytpibdgknmjjolaa", sum := "8fdfc1f2fb93f43a4a45e5d502d9355d711cb7d06348c63925a8653d3febe7c3", func := "loop.example/g00549/laws.FnWays", spec := "fnWays", unfollowed := true, recurses := true, apart := false }
def FnWaysSaid : Prop := fnWaysRow.holds Try.pinned (OpenSpec.ofChange fnWaysSpec)

/-- ITS FALSE NEIGHBOUR: 'it returns false'. Refute it at one input. -/
def fnWaysWrong : ChangeSpec := { name := "fnWays", fn := fun _ => fun
  | [d1, d2] => { results := [.lit (.bool false)], args := [d1, d2] }
  | _ => none }
def FnWaysWrongFalsely : Prop := fnWaysRow.holds Try.pinned (OpenSpec.ofChange fnWaysWrong)

/-- 'laws.FnExactOtherCoins': WHATEVER THE INPUT: true; the input reads as it did. -/
def fnExactOtherCoinsSpec : ChangeSpec := { name := "fnExactOtherCoins", fn := fun _ => fun
  | [d1, d2, d3, d4] => { results := [.lit (.bool true)], args := [d1, d2, d3, d4] }
  | _ => none }
def fnExactOtherCoinsRow : OpenClaim := { program := "ytpibdgknmjjolaa", sum := "8fdfc1f2fb93f43a4a45e5d502d9355d711cb7d06348c63925a8653d3febe7c3", func := "loop.example/g00549/laws.FnExactOtherCoins", spec := "fnExactOtherCoins", unfollowed := true, recurses := true, apart := false }
def FnExactOtherCoinsSaid : Prop := fnExactOtherCoinsRow.holds Try.pinned (OpenSpec.ofChange fnExactOtherCoinsSpec)

/-- ITS FALSE NEIGHBOUR: 'it returns false'. Refute it at one input. -/
def fnExactOtherCoinsWrong : ChangeSpec := { name := "fnExactOtherCoins", fn := fun _ => fun
  | [d1, d2, d3, d4] => { results := [.lit (.bool false)], args := [d1, d2, d3, d4] }
  | _ => none }
def FnExactOtherCoinsWrongFalsely : Prop := fnExactOtherCoinsRow.holds Try.pinned (OpenSpec.ofChange fnExactOtherCoinsWrong)

/-- 'laws.FnTable': WHATEVER THE INPUT: true; the input reads as it did. -/
def fnTableSpec : ChangeSpec := { name := "fnTable", fn := fun _ => fun
  | [d1, d2] => { results := [.lit (.bool true)], args := [d1, d2] }
  | _ => none }
def fnTableRow : OpenClaim := { program := "ytpibdgknmjjolaa", sum := "8fdfc1f2fb93f43a4a45e5d502d9355d711cb7d06348c63925a8653d3febe7c3", func := "loop.example/g00549/laws.FnTable", spec := "fnTable", unfollowed := true, recurses := true, apart := false }
def FnTableSaid : Prop := fnTableRow.holds Try.pinned (OpenSpec.ofChange fnTableSpec)

/-- ITS FALSE NEIGHBOUR: 'it returns false'. Refute it at one input. -/
def fnTableWrong : ChangeSpec := { name := "fnTable", fn := fun _ => fun
  | [d1, d2] => { results := [.lit (.bool false)], args := [d1, d2] }
  | _ => none }
def FnTableWrongFalsely : Prop := fnTableRow.holds Try.pinned (OpenSpec.ofChange fnTableWrong)

/-- 'laws.FnGroups': WHATEVER THE INPUT: true; the input reads as it did. -/
def fnGroupsSpec : ChangeSpec := { name := "fnGroups", fn := fun _ => fun
  | [d1, d2] => { results := [.lit (.bool true)], args := [d1, d2] }
  | _ => none }
def fnGroupsRow : OpenClaim := { program := "ytpibdgknmjjolaa", sum := "8fdfc1f2fb93f43a4a45e5d502d9355d711cb7d06348c63925a8653d3febe7c3", func := "loop.example/g00549/laws.FnGroups", spec := "fnGroups", unfollowed := true, recurses := true, apart := false }
def FnGroupsSaid : Prop := fnGroupsRow.holds Try.pinned (OpenSpec.ofChange fnGroupsSpec)

/-- ITS FALSE NEIGHBOUR: 'it returns false'. Refute it at one input. -/
def fnGroupsWrong : ChangeSpec := { name := "fnGroups", fn := fun _ => fun
  | [d1, d2] => { results := [.lit (.bool false)], args := [d1, d2] }
  | _ => none }
def FnGroupsWrongFalsely : Prop := fnGroupsRow.holds Try.pinned (OpenSpec.ofChange fnGroupsWrong)

/-- 'laws.FnExactInboxOf': WHATEVER THE INPUT: true; the input reads as it did. -/
def fnExactInboxOfSpec : ChangeSpec := { name := "fnExactInboxOf", fn := fun _ => fun
  | [d1, d2] => { results := [.lit (.bool true)], args := [d1, d2] }
  | _ => none }
def fnExactInboxOfRow : OpenClaim := { program := "ytpibdgknmjjolaa", sum := "8fdfc1f2fb93f43a4a45e5d502d9355d711cb7d06348c63925a8653d3febe7c3", func := "loop.example/g00549/laws.FnExactInboxOf", spec := "fnExactInboxOf", unfollowed := true, recurses := true, apart := false }
def FnExactInboxOfSaid : Prop := fnExactInboxOfRow.holds Try.pinned (OpenSpec.ofChange fnExactInboxOfSpec)

/-- ITS FALSE NEIGHBOUR: 'it returns false'. Refute it at one input. -/
def fnExactInboxOfWrong : ChangeSpec := { name := "fnExactInboxOf", fn := fun _ => fun
  | [d1, d2] => { results := [.lit (.bool false)], args := [d1, d2] }
  | _ => none }
def FnExactInboxOfWrongFalsely : Prop := fnExactInboxOfRow.holds Try.pinned (OpenSpec.ofChange fnExactInboxOfWrong)

/- THE SECOND FORM. 'bulk': how many values and letters a reading holds, each counted each time it is reached (what is shared counts as often as it is met; a slice's spare places count too). A statement '..UptoSaid' is the law's where the arguments, and the package variables that the reading takes, are together of bulk at most 1048576: NARROWER than '..Said'. Prove '..Said' where nothing that the law and all that it calls make is longer than what came in: it says more and counts as full. Else prove '..UptoSaid'. A law counts once. -/
mutual
def uptoBulk {H : Type} : DataW H → Nat
  | .lit (.string bytes) => bytes.length + 1
  | .lit _ => 1
  | .nil => 1
  | .ptr d => uptoBulk d + 1
  | .slice elems spare => uptoBulkAll elems + uptoBulkAll spare + 1
  | .agg parts => uptoBulkAll parts + 1
  | .iface _ d => uptoBulk d + 1
  | .map entries => uptoBulkEntries entries + 1
  | .held _ => 1
def uptoBulkAll {H : Type} : List (DataW H) → Nat
  | [] => 0
  | d :: r => uptoBulk d + uptoBulkAll r
def uptoBulkEntries {H : Type} : List (Lit × DataW H) → Nat
  | [] => 0
  | x :: r => uptoBulkEntry x + uptoBulkEntries r
def uptoBulkEntry {H : Type} : Lit × DataW H → Nat
  | (.string bytes, d) => bytes.length + uptoBulk d + 1
  | (_, d) => uptoBulk d + 1
 end
def uptoSmall : (H : Type) → List (DataW H) → Bool := fun _ ds => decide (uptoBulkAll ds ≤ 1048576)
def OpenSpec.upto (s : _root_.Go.ChangeSpec) : _root_.Go.OpenSpec := { _root_.Go.OpenSpec.ofChange s with cond := some uptoSmall }

/-- 'laws.FnExactGoodNet', WHERE WHAT IT READS IS OF BULK AT MOST 1048576: true; the input reads as it did. -/
def fnExactGoodNetUptoRow : OpenClaim := { program := "ytpibdgknmjjolaa", sum := "8fdfc1f2fb93f43a4a45e5d502d9355d711cb7d06348c63925a8653d3febe7c3", func := "loop.example/g00549/laws.FnExactGoodNet", spec := "fnExactGoodNet", unfollowed := true, recurses := true, apart := false, narrowed := true }
def FnExactGoodNetUptoSaid : Prop := fnExactGoodNetUptoRow.holds Try.pinned (OpenSpec.upto fnExactGoodNetSpec)

/-- 'laws.FnExactAllSay', WHERE WHAT IT READS IS OF BULK AT MOST 1048576: true; the input reads as it did. -/
def fnExactAllSayUptoRow : OpenClaim := { program := "ytpibdgknmjjolaa", sum := "8fdfc1f2fb93f43a4a45e5d502d9355d711cb7d06348c63925a8653d3febe7c3", func := "loop.example/g00549/laws.FnExactAllSay", spec := "fnExactAllSay", unfollowed := true, recurses := true, apart := false, narrowed := true }
def FnExactAllSayUptoSaid : Prop := fnExactAllSayUptoRow.holds Try.pinned (OpenSpec.upto fnExactAllSaySpec)

/-- 'laws.FnExactLettersIn', WHERE WHAT IT READS IS OF BULK AT MOST 1048576: true; the input reads as it did. -/
def fnExactLettersInUptoRow : OpenClaim := { program := "ytpibdgknmjjolaa", sum := "8fdfc1f2fb93f43a4a45e5d502d9355d711cb7d06348c63925a8653d3febe7c3", func := "loop.example/g00549/laws.FnExactLettersIn", spec := "fnExactLettersIn", unfollowed := true, recurses := true, apart := false, narrowed := true }
def FnExactLettersInUptoSaid : Prop := fnExactLettersInUptoRow.holds Try.pinned (OpenSpec.upto fnExactLettersInSpec)

/-- 'laws.FnExactRankHands', WHERE WHAT IT READS IS OF BULK AT MOST 1048576: true; the input reads as it did. -/
def fnExactRankHandsUptoRow : OpenClaim := { program := "ytpibdgknmjjolaa", sum := "8fdfc1f2fb93f43a4a45e5d502d9355d711cb7d06348c63925a8653d3febe7c3", func := "loop.example/g00549/laws.FnExactRankHands", spec := "fnExactRankHands", unfollowed := true, recurses := true, apart := false, narrowed := true }
def FnExactRankHandsUptoSaid : Prop := fnExactRankHandsUptoRow.holds Try.pinned (OpenSpec.upto fnExactRankHandsSpec)

/-- 'laws.FnExactGroupsOf', WHERE WHAT IT READS IS OF BULK AT MOST 1048576: true; the input reads as it did. -/
def fnExactGroupsOfUptoRow : OpenClaim := { program := "ytpibdgknmjjolaa", sum := "8fdfc1f2fb93f43a4a45e5d502d9355d711cb7d06348c63925a8653d3febe7c3", func := "loop.example/g00549/laws.FnExactGroupsOf", spec := "fnExactGroupsOf", unfollowed := true, recurses := true, apart := false, narrowed := true }
def FnExactGroupsOfUptoSaid : Prop := fnExactGroupsOfUptoRow.holds Try.pinned (OpenSpec.upto fnExactGroupsOfSpec)

/-- 'laws.FnExactWayBetween', WHERE WHAT IT READS IS OF BULK AT MOST 1048576: true; the input reads as it did. -/
def fnExactWayBetweenUptoRow : OpenClaim := { program := "ytpibdgknmjjolaa", sum := "8fdfc1f2fb93f43a4a45e5d502d9355d711cb7d06348c63925a8653d3febe7c3", func := "loop.example/g00549/laws.FnExactWayBetween", spec := "fnExactWayBetween", unfollowed := true, recurses := true, apart := false, narrowed := true }
def FnExactWayBetweenUptoSaid : Prop := fnExactWayBetweenUptoRow.holds Try.pinned (OpenSpec.upto fnExactWayBetweenSpec)

/-- 'laws.FnExactWaysOf', WHERE WHAT IT READS IS OF BULK AT MOST 1048576: true; the input reads as it did. -/
def fnExactWaysOfUptoRow : OpenClaim := { program := "ytpibdgknmjjolaa", sum := "8fdfc1f2fb93f43a4a45e5d502d9355d711cb7d06348c63925a8653d3febe7c3", func := "loop.example/g00549/laws.FnExactWaysOf", spec := "fnExactWaysOf", unfollowed := true, recurses := true, apart := false, narrowed := true }
def FnExactWaysOfUptoSaid : Prop := fnExactWaysOfUptoRow.holds Try.pinned (OpenSpec.upto fnExactWaysOfSpec)

/-- 'laws.FnWays', WHERE WHAT IT READS IS OF BULK AT MOST 1048576: true; the input reads as it did. -/
def fnWaysUptoRow : OpenClaim := { program := "ytpibdgknmjjolaa", sum := "8fdfc1f2fb93f43a4a45e5d502d9355d711cb7d06348c63925a8653d3febe7c3", func := "loop.example/g00549/laws.FnWays", spec := "fnWays", unfollowed := true, recurses := true, apart := false, narrowed := true }
def FnWaysUptoSaid : Prop := fnWaysUptoRow.holds Try.pinned (OpenSpec.upto fnWaysSpec)

/-- 'laws.FnExactOtherCoins', WHERE WHAT IT READS IS OF BULK AT MOST 1048576: true; the input reads as it did. -/
def fnExactOtherCoinsUptoRow : OpenClaim := { program := "ytpibdgknmjjolaa", sum := "8fdfc1f2fb93f43a4a45e5d502d9355d711cb7d06348c63925a8653d3febe7c3", func := "loop.example/g00549/laws.FnExactOtherCoins", spec := "fnExactOtherCoins", unfollowed := true, recurses := true, apart := false, narrowed := true }
def FnExactOtherCoinsUptoSaid : Prop := fnExactOtherCoinsUptoRow.holds Try.pinned (OpenSpec.upto fnExactOtherCoinsSpec)

/-- 'laws.FnTable', WHERE WHAT IT READS IS OF BULK AT MOST 1048576: true; the input reads as it did. -/
def fnTableUptoRow : OpenClaim := { program := "ytpibdgknmjjolaa", sum := "8fdfc1f2fb93f43a4a45e5d502d9355d711cb7d06348c63925a8653d3febe7c3", func := "loop.example/g00549/laws.FnTable", spec := "fnTable", unfollowed := true, recurses := true, apart := false, narrowed := true }
def FnTableUptoSaid : Prop := fnTableUptoRow.holds Try.pinned (OpenSpec.upto fnTableSpec)

/-- 'laws.FnGroups', WHERE WHAT IT READS IS OF BULK AT MOST 1048576: true; the input reads as it did. -/
def fnGroupsUptoRow : OpenClaim := { program := "ytpibdgknmjjolaa", sum := "8fdfc1f2fb93f43a4a45e5d502d9355d711cb7d06348c63925a8653d3febe7c3", func := "loop.example/g00549/laws.FnGroups", spec := "fnGroups", unfollowed := true, recurses := true, apart := false, narrowed := true }
def FnGroupsUptoSaid : Prop := fnGroupsUptoRow.holds Try.pinned (OpenSpec.upto fnGroupsSpec)

/-- 'laws.FnExactInboxOf', WHERE WHAT IT READS IS OF BULK AT MOST 1048576: true; the input reads as it did. -/
def fnExactInboxOfUptoRow : OpenClaim := { program := "ytpibdgknmjjolaa", sum := "8fdfc1f2fb93f43a4a45e5d502d9355d711cb7d06348c63925a8653d3febe7c3", func := "loop.example/g00549/laws.FnExactInboxOf", spec := "fnExactInboxOf", unfollowed := true, recurses := true, apart := false, narrowed := true }
def FnExactInboxOfUptoSaid : Prop := fnExactInboxOfUptoRow.holds Try.pinned (OpenSpec.upto fnExactInboxOfSpec)

end Rows
end Go.Proofs.Ytpibdgknmjjolaa
