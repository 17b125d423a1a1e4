-- printed by this session's own program (wip/tools/pp.py: the kit's print.py with changes); Lean checks it
import Derived.Test.YtihekdlcfohkkaaGreatDoorProg
import Derived.Below
import Derived.Deep.Draws
import Derived.Deep.AppendLies
import Derived.Maps.AppendAt
import Derived.OwnWalk
import Derived.Laws.BytesArg
import Derived.Laws.MakeOwn
import Derived.Laws.OwnMore
import Derived.Deep.OwnRows
import Derived.Tactics
import Derived.Lib.ConvBytes
import Derived.Laws.Slices
import Derived.WalkKit
import Derived.KernelRfl
import Derived.RowKit3
import Derived.Deep.LoopGhost
import Derived.Deep.QuietTactic
import Derived.BigQuiet
import Derived.WideLaws
import Derived.Deep.DeepCutAuto
import Derived.Deep.CutBlock
import Derived.Deep.RegionHeld3
import Derived.Laws.Rows
import Derived.Lib.AppendStr
import Derived.ArgAppend
import Derived.Laws.IdiomCopy
import Derived.OrdersHeld
import Derived.Laws.BitsLemmas
import Derived.RowKit
import Derived.Test.YtihekdlcfohkkaaGreatDoorIns
import Derived.Test.YtihekdlcfohkkaaGreatDoorStr
import Derived.Test.YtihekdlcfohkkaaGreatDoorWWords
import Derived.Test.YtihekdlcfohkkaaGreatDoorWLast
import Derived.Test.YtihekdlcfohkkaaGreatDoorWTab
import Derived.Test.YtihekdlcfohkkaaGreatDoorWFour
import Derived.Test.YtihekdlcfohkkaaGreatDoorWQPut
import Derived.Test.YtihekdlcfohkkaaGreatDoorWApart
import Derived.Test.YtihekdlcfohkkaaGreatDoorWArr
import Derived.Test.YtihekdlcfohkkaaGreatDoorWZeros
import Derived.Test.YtihekdlcfohkkaaGreatDoorWFoot
import Derived.Test.YtihekdlcfohkkaaGreatDoorWKept
import Derived.Test.YtihekdlcfohkkaaGreatDoorWShare
import Derived.Test.YtihekdlcfohkkaaGreatDoorWN
import Derived.Test.YtihekdlcfohkkaaGreatDoorWFootNe
import Derived.Test.YtihekdlcfohkkaaGreatDoorWAt
import Derived.Test.YtihekdlcfohkkaaGreatDoorWEqStruct
import Derived.Test.YtihekdlcfohkkaaGreatDoorWRepsOne
import Derived.Test.YtihekdlcfohkkaaGreatDoorWInv
import Derived.Test.YtihekdlcfohkkaaGreatDoorWInvWords
import Derived.Test.YtihekdlcfohkkaaGreatDoorWGuard
import Derived.Test.YtihekdlcfohkkaaGreatDoorWNEv
import Derived.Test.YtihekdlcfohkkaaGreatDoorWMore
import Derived.Test.YtihekdlcfohkkaaGreatDoorVia
import Derived.Test.YtihekdlcfohkkaaGreatDoorSq
import Derived.Test.YtihekdlcfohkkaaGreatDoorMk
import Derived.Test.YtihekdlcfohkkaaGreatDoorSep2
namespace Go.Proofs.YtihekdlcfohkkaaGreatDoor.QFnNets
open Go.RowKit Go.Proofs.YtihekdlcfohkkaaGreatDoorW.PrintWords Go.Proofs.YtihekdlcfohkkaaGreatDoorW.PrintLast Go.Proofs.YtihekdlcfohkkaaGreatDoorW.PrintMore
attribute [local go_sem] max2_int min2_int max_two min_two max_three min_three max_four min_four strLss strGtr strLeq strGeq
set_option linter.unusedVariables false
set_option linter.unusedSimpArgs false
set_option maxHeartbeats 16000000
set_option maxRecDepth 100000
def abu:Option Int→Value
  |none=> .nilIface
  |some c=> .iface 0 (.int .i64 c)
theorem oZ:abu none= .nilIface:=rfl
theorem oY (c:Int):abu (some c)= .iface 0 (.int .i64 c):=rfl
theorem yX:(Tryz.prog.info? 3).map (fun i=>(i.zero,i.size,i.bytes))=some (some (.int .i64 0),1,8):=by kernel_rfl
theorem sG:(Tryz.prog.info? 5).map (fun i=>(i.zero,i.size,i.bytes))=some (some (.int .u8 0),1,1):=by kernel_rfl
theorem fu:(Tryz.prog.info? 9).map (fun i=>(i.zero,i.size,i.bytes))=some (some (.string ⟨#[]⟩),1,16):=by kernel_rfl
theorem NJ:(Tryz.prog.info? 53).map (fun i=>(i.zero,i.size,i.bytes))=some (some (.agg #[(.int .i64 0),(.int .i64 0),(.string ⟨#[]⟩)]),3,32):=by kernel_rfl
theorem GV:(Tryz.prog.info? 62).map (fun i=>(i.zero,i.size,i.bytes))=some (some (.slice none 0 0),1,24):=by kernel_rfl
def aN (xs:List (List ByteArray)) (i:Int):(List ByteArray):=xs.getD i.toNat ([]:List ByteArray)
theorem ke {w:World} {A:Option Addr} {n:Nat} {xs:List (List ByteArray)} (h:Kd.C (Kd.slice 9 Kd.string) w A n xs) (i:Int) (h0:0≤i) (h1:i<n):∃ad A0 c0,A=some ad∧w.cell? (ad.add i.toNat)=some (.slice A0 (aN xs i).length c0)∧(aN xs i).length≤c0∧Kd.string.C w A0 (aN xs i).length (aN xs i):=by
  obtain ⟨ad,c,e,_,hK,fL⟩:=Kd.U7 h ([]:List ByteArray) i h0 h1
  have hc:∀j u,c[j]? =some u→w.cell? (ad.add (i.toNat*1+j))=some u:=fL
  obtain ⟨A0,c0,rfl,l0,g0⟩:=hK
  exact ⟨ad,A0,c0,e,by have hq:=hc 0 _ rfl;rwa [Nat.mul_one,Nat.add_zero] at hq,l0,g0⟩
structure mK where
  f0:Int
  f1:Int
  f2:ByteArray
def z53:mK:=⟨(0:Int),(0:Int),(⟨#[]⟩:ByteArray)⟩
def K7:Kd mK:=Kd.iso (Kd.pair (Kd.int .i64) (Kd.pair (Kd.int .i64) Kd.string)) (fun x:mK=>(x.f0,x.f1,x.f2))
theorem ND {w:World} {x:mK} {cs:List Value} (h:K7.K w x cs):cs=[.int .i64 x.f0,.int .i64 x.f1,.string x.f2]:=by
  obtain ⟨_,_,rfl,rfl,⟨_,_,rfl,rfl,rfl⟩⟩:=h
  exact rfl
theorem I2 (w:World) (base:Nat) (ok:Nat→Prop) (x:mK):K7.M w base ok x [.int .i64 x.f0,.int .i64 x.f1,.string x.f2]:=⟨[.int .i64 x.f0],[.int .i64 x.f1,.string x.f2],rfl,rfl,⟨[.int .i64 x.f1],[.string x.f2],rfl,rfl,rfl⟩⟩
def ic (xs:List mK) (i:Int):mK:=xs.getD i.toNat z53
theorem O9 {w:World} {A:Option Addr} {n:Nat} {xs:List mK} (h:Kd.C K7 w A n xs) (i:Int) (h0:0≤i) (h1:i<n):∃ad,A=some ad∧w.cell? (ad.add (i.toNat*3))=some (.int .i64 (ic xs i).f0)∧w.cell? ⟨(ad.add (i.toNat*3)).block,(ad.add (i.toNat*3)).off+1,none⟩=some (.int .i64 (ic xs i).f1)∧w.cell? ⟨(ad.add (i.toNat*3)).block,(ad.add (i.toNat*3)).off+2,none⟩=some (.string (ic xs i).f2):=by
  obtain ⟨ad,c,e,_,hK,fL⟩:=Kd.U7 h z53 i h0 h1
  have hc:∀j u,c[j]? =some u→w.cell? (ad.add (i.toNat*3+j))=some u:=fL
  obtain rfl:=ND hK
  exact ⟨ad,e,hc 0 _ rfl,by rw [←BN _ _ 1 (by omega)];exact hc 1 _ rfl,by rw [←BN _ _ 2 (by omega)];exact hc 2 _ rfl⟩
end Go.Proofs.YtihekdlcfohkkaaGreatDoor.QFnNets
