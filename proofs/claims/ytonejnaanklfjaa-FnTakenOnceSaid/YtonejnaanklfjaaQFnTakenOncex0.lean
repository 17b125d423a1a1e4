-- printed by this session's own program (wip/tools/pp.py: the kit's print.py with changes); Lean checks it
import Derived.Test.YtonejnaanklfjaaProg
import Derived.Below
import Derived.Deep.Draws
import Derived.Deep.AppendLies
import Derived.Maps.AppendAt
import Derived.OwnWalk
import Derived.Laws.BytesArg
import Derived.Laws.MakeOwn
import Derived.Laws.OwnMore
import Derived.Deep.OwnRows
import Derived.Tactics
import Derived.Lib.ConvBytes
import Derived.Laws.Slices
import Derived.WalkKit
import Derived.KernelRfl
import Derived.RowKit3
import Derived.Deep.LoopGhost
import Derived.Deep.QuietTactic
import Derived.BigQuiet
import Derived.WideLaws
import Derived.Deep.DeepCutAuto
import Derived.Deep.CutBlock
import Derived.Deep.RegionHeld3
import Derived.Laws.Rows
import Derived.Lib.AppendStr
import Derived.ArgAppend
import Derived.Laws.IdiomCopy
import Derived.OrdersHeld
import Derived.Laws.BitsLemmas
import Derived.RowKit
import Derived.Maps.OwnOps
import Derived.Maps.OwnSet
import Derived.Maps.Views
import Derived.Test.YtonejnaanklfjaaWWords
import Derived.Test.YtonejnaanklfjaaWLast
import Derived.Test.YtonejnaanklfjaaWTab
import Derived.Test.YtonejnaanklfjaaWFour
import Derived.Test.YtonejnaanklfjaaWQPut
import Derived.Test.YtonejnaanklfjaaWApart
import Derived.Test.YtonejnaanklfjaaWArr
import Derived.Test.YtonejnaanklfjaaWZeros
import Derived.Test.YtonejnaanklfjaaWFoot
import Derived.Test.YtonejnaanklfjaaWKept
import Derived.Test.YtonejnaanklfjaaWShare
import Derived.Test.YtonejnaanklfjaaWN
import Derived.Test.YtonejnaanklfjaaWFootNe
import Derived.Test.YtonejnaanklfjaaWAt
import Derived.Test.YtonejnaanklfjaaWEqStruct
import Derived.Test.YtonejnaanklfjaaWRepsOne
import Derived.Test.YtonejnaanklfjaaWInv
import Derived.Test.YtonejnaanklfjaaWInvWords
import Derived.Test.YtonejnaanklfjaaWGuard
import Derived.Test.YtonejnaanklfjaaWNEv
import Derived.Test.YtonejnaanklfjaaWMore
import Derived.Test.YtonejnaanklfjaaVia
import Derived.Test.YtonejnaanklfjaaSq
namespace Go.Proofs.Ytonejnaanklfjaa.QFnTakenOnce
open Go.RowKit Go.Proofs.YtonejnaanklfjaaW.PrintWords Go.Proofs.YtonejnaanklfjaaW.PrintLast Go.Proofs.YtonejnaanklfjaaW.PrintMore
attribute [local go_sem] max2_int min2_int max_two min_two max_three min_three max_four min_four strLss strGtr strLeq strGeq   -- for this text's walks alone
set_option linter.unusedVariables false
set_option linter.unusedSimpArgs false



def errW : Option Int → Value
  | none => .nilIface
  | some c => .iface 0 (.int .i64 c)
theorem errW_none : errW none = .nilIface := rfl
theorem errW_some (c : Int) : errW (some c) = .iface 0 (.int .i64 c) := rfl

theorem info3 : (Try.prog.info? 3).map (fun i => (i.zero, i.size, i.bytes)) = some (some (.int .i64 0), 1, 8) := by kernel_rfl
-- the values' own types

end Go.Proofs.Ytonejnaanklfjaa.QFnTakenOnce
