-- printed by this session's own program (wip/tools/pp.py: the kit's print.py with changes); Lean checks it
import Derived.Test.YtmapmbgjjnlggaaProg
import Derived.Below
import Derived.Deep.Draws
import Derived.Deep.AppendLies
import Derived.Maps.AppendAt
import Derived.OwnWalk
import Derived.Laws.BytesArg
import Derived.Laws.MakeOwn
import Derived.Laws.OwnMore
import Derived.Deep.OwnRows
import Derived.Tactics
import Derived.Lib.ConvBytes
import Derived.Laws.Slices
import Derived.WalkKit
import Derived.KernelRfl
import Derived.RowKit3
import Derived.Deep.LoopGhost
import Derived.Deep.QuietTactic
import Derived.BigQuiet
import Derived.WideLaws
import Derived.Deep.DeepCutAuto
import Derived.Deep.CutBlock
import Derived.Deep.RegionHeld3
import Derived.Laws.Rows
import Derived.Lib.AppendStr
import Derived.ArgAppend
import Derived.Laws.IdiomCopy
import Derived.OrdersHeld
import Derived.Laws.BitsLemmas
import Derived.RowKit
import Derived.Maps.OwnOps
import Derived.Maps.OwnSet
import Derived.Maps.Views
import Derived.Test.YtmapmbgjjnlggaaWWords
import Derived.Test.YtmapmbgjjnlggaaWLast
import Derived.Test.YtmapmbgjjnlggaaWTab
import Derived.Test.YtmapmbgjjnlggaaWFour
import Derived.Test.YtmapmbgjjnlggaaWQPut
import Derived.Test.YtmapmbgjjnlggaaWApart
import Derived.Test.YtmapmbgjjnlggaaWArr
import Derived.Test.YtmapmbgjjnlggaaWZeros
import Derived.Test.YtmapmbgjjnlggaaWFoot
import Derived.Test.YtmapmbgjjnlggaaWKept
import Derived.Test.YtmapmbgjjnlggaaWShare
import Derived.Test.YtmapmbgjjnlggaaWN
import Derived.Test.YtmapmbgjjnlggaaWFootNe
import Derived.Test.YtmapmbgjjnlggaaWAt
import Derived.Test.YtmapmbgjjnlggaaWEqStruct
import Derived.Test.YtmapmbgjjnlggaaWRepsOne
import Derived.Test.YtmapmbgjjnlggaaWInv
import Derived.Test.YtmapmbgjjnlggaaWInvWords
import Derived.Test.YtmapmbgjjnlggaaWGuard
import Derived.Test.YtmapmbgjjnlggaaWNEv
import Derived.Test.YtmapmbgjjnlggaaWMore
import Derived.Test.YtmapmbgjjnlggaaVia
import Derived.Test.YtmapmbgjjnlggaaSq
namespace Go.Proofs.Ytmapmbgjjnlggaa.QFnExactPlayAll
open Go.RowKit Go.Proofs.YtmapmbgjjnlggaaW.PrintWords Go.Proofs.YtmapmbgjjnlggaaW.PrintLast Go.Proofs.YtmapmbgjjnlggaaW.PrintMore
attribute [local go_sem] max2_int min2_int max_two min_two max_three min_three max_four min_four strLss strGtr strLeq strGeq   -- for this text's walks alone
set_option linter.unusedVariables false
set_option linter.unusedSimpArgs false



def errW : Option Int → Value
  | none => .nilIface
  | some c => .iface 0 (.int .i64 c)
theorem errW_none : errW none = .nilIface := rfl
theorem errW_some (c : Int) : errW (some c) = .iface 0 (.int .i64 c) := rfl

theorem info3 : (Try.prog.info? 3).map (fun i => (i.zero, i.size, i.bytes)) = some (some (.int .i64 0), 1, 8) := by kernel_rfl
-- the values' own types

end Go.Proofs.Ytmapmbgjjnlggaa.QFnExactPlayAll
