-- printed by this session's own program (wip/tools/pp.py: the kit's print.py with changes); Lean checks it
import Derived.Test.YtkgogglnipdcfaaProg
import Derived.Below
import Derived.Deep.Draws
import Derived.Deep.AppendLies
import Derived.Maps.AppendAt
import Derived.OwnWalk
import Derived.Laws.BytesArg
import Derived.Laws.MakeOwn
import Derived.Laws.OwnMore
import Derived.Deep.OwnRows
import Derived.Tactics
import Derived.Lib.ConvBytes
import Derived.Laws.Slices
import Derived.WalkKit
import Derived.KernelRfl
import Derived.RowKit3
import Derived.Deep.LoopGhost
import Derived.Deep.QuietTactic
import Derived.BigQuiet
import Derived.WideLaws
import Derived.Deep.DeepCutAuto
import Derived.Deep.CutBlock
import Derived.Deep.RegionHeld3
import Derived.Laws.Rows
import Derived.Lib.AppendStr
import Derived.ArgAppend
import Derived.Laws.IdiomCopy
import Derived.OrdersHeld
import Derived.Laws.BitsLemmas
import Derived.RowKit
import Derived.Test.YtkgogglnipdcfaaIns
import Derived.Test.YtkgogglnipdcfaaSts
import Derived.Test.YtkgogglnipdcfaaWWords
import Derived.Test.YtkgogglnipdcfaaWLast
import Derived.Test.YtkgogglnipdcfaaWTab
import Derived.Test.YtkgogglnipdcfaaWFour
import Derived.Test.YtkgogglnipdcfaaWQPut
import Derived.Test.YtkgogglnipdcfaaWApart
import Derived.Test.YtkgogglnipdcfaaWArr
import Derived.Test.YtkgogglnipdcfaaWZeros
import Derived.Test.YtkgogglnipdcfaaWFoot
import Derived.Test.YtkgogglnipdcfaaWKept
import Derived.Test.YtkgogglnipdcfaaWShare
import Derived.Test.YtkgogglnipdcfaaWN
import Derived.Test.YtkgogglnipdcfaaWFootNe
import Derived.Test.YtkgogglnipdcfaaWAt
import Derived.Test.YtkgogglnipdcfaaWEqStruct
import Derived.Test.YtkgogglnipdcfaaWRepsOne
import Derived.Test.YtkgogglnipdcfaaWInv
import Derived.Test.YtkgogglnipdcfaaWInvWords
import Derived.Test.YtkgogglnipdcfaaWGuard
import Derived.Test.YtkgogglnipdcfaaWNEv
import Derived.Test.YtkgogglnipdcfaaWMore
import Derived.Test.YtkgogglnipdcfaaVia
import Derived.Test.YtkgogglnipdcfaaSq
namespace Go.Proofs.Ytkgogglnipdcfaa.QFnMixes
open Go.RowKit Go.Proofs.YtkgogglnipdcfaaW.PrintWords Go.Proofs.YtkgogglnipdcfaaW.PrintLast Go.Proofs.YtkgogglnipdcfaaW.PrintMore
attribute [local go_sem] max2_int min2_int max_two min_two max_three min_three max_four min_four strLss strGtr strLeq strGeq   -- for this text's walks alone
set_option linter.unusedVariables false
set_option linter.unusedSimpArgs false



def errW : Option Int → Value
  | none => .nilIface
  | some c => .iface 0 (.int .i64 c)
theorem errW_none : errW none = .nilIface := rfl
theorem errW_some (c : Int) : errW (some c) = .iface 0 (.int .i64 c) := rfl

theorem info3 : (Try.prog.info? 3).map (fun i => (i.zero, i.size, i.bytes)) = some (some (.int .i64 0), 1, 8) := by kernel_rfl
theorem info9 : (Try.prog.info? 9).map (fun i => (i.zero, i.size, i.bytes)) = some (some (.string ⟨#[]⟩), 1, 16) := by kernel_rfl
theorem info22 : (Try.prog.info? 22).map (fun i => (i.zero, i.size, i.bytes)) = some (some (.slice none 0 0), 1, 24) := by kernel_rfl
-- the values' own types
def rd_L2 (xs : List (List ByteArray)) (i : Int) : (List ByteArray) := xs.getD i.toNat ([] : List ByteArray)
theorem at_L2 {w : World} {A : Option Addr} {n : Nat} {xs : List (List ByteArray)} (h : Kd.C (Kd.slice 9 Kd.string) w A n xs) (i : Int) (h0 : 0 ≤ i) (h1 : i < n) : ∃ ad A0 c0, A = some ad ∧ w.cell? (ad.add i.toNat) = some (.slice A0 (rd_L2 xs i).length c0) ∧ (rd_L2 xs i).length ≤ c0 ∧ Kd.string.C w A0 (rd_L2 xs i).length (rd_L2 xs i) := by
  obtain ⟨ad, c, e, _, hK, hc0⟩ := Kd.C_get h ([] : List ByteArray) i h0 h1
  have hc : ∀ j u, c[j]? = some u → w.cell? (ad.add (i.toNat * 1 + j)) = some u := hc0
  obtain ⟨A0, c0, rfl, l0, g0⟩ := hK
  exact ⟨ad, A0, c0, e, by have hq := hc 0 _ rfl; rwa [Nat.mul_one, Nat.add_zero] at hq, l0, g0⟩

end Go.Proofs.Ytkgogglnipdcfaa.QFnMixes
