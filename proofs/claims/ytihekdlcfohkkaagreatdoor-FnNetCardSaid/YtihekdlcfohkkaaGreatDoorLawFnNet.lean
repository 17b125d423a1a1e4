-- printed by this session's own program (wip/tools/pp.py: the kit's print.py with changes); Lean checks it
import Derived.Test.YtihekdlcfohkkaaGreatDoorRows
import Derived.Test.YtihekdlcfohkkaaGreatDoorTie
import Derived.Test.YtihekdlcfohkkaaGreatDoorCards
import Derived.LaidMore
import Derived.Lay
import Derived.SevenTiedAt
import Derived.Stop.Joined
import Derived.Test.YtihekdlcfohkkaaGreatDoorQFnNetx15
import Derived.Test.YtihekdlcfohkkaaGreatDoorPureFnNet
import Derived.WalkKit
import Derived.ProofKit
import Derived.OpenShut
import Derived.ShutString
import Derived.ChangeOld
import Derived.Below
import Derived.SizedLaws
import Derived.Test.YtihekdlcfohkkaaGreatDoorWSized
namespace Go.Proofs.YtihekdlcfohkkaaGreatDoor.fnNet
open Go.ChangeShapes Go.WideShapes Go.ChangeAt Go.RowKit
open Go.ChangeMaps (open_string shut_string)
set_option linter.unusedVariables false
theorem own:ownKnob Tryz.prog.godebug=none:=by kernel_rfl
theorem laidOut:laidOutB Tryz.prog=true:=by kernel_rfl
def R5 (k:IntKind) (w:World) (a:Option Addr) (len cap:Nat) (zs:List Int):Prop:=
  (a=none∧len=0∧cap=0∧zs=[])∨
  ∃x,a=some x∧len≤cap∧cap≤maxLen∧zs.length=cap∧(∀i,i<zs.length→w.cell? (x.add i)=some (.int k (zs.getD i 0)))∧∀n∈zs,(Lit.int k n).wf=true
def G6:List (String×DataW Unit):=[("unicode/utf8.acceptRanges",Rows.laid_unicode_utf8_acceptRanges),("unicode/utf8.first",Rows.laid_unicode_utf8_first)]
set_option maxRecDepth 100000 in
theorem lifted (os:Os) (started:os.Started) (H:Type) (enc:TypeId×Value→H):
    ReturnsInHanded {} Tryz.checked os 6 .any (fun w args=>(Rows.fnNetSpec.pre enc Tryz.prog Tryz.f6 Rows.fnNetRow.domain false w args∧laidMetH Tryz.prog G6 w)∧sizedMet enc Tryz.prog Tryz.f6 (OpenSpec.ofChange Rows.fnNetSpec) false w args) (Rows.fnNetSpec.post enc Tryz.prog Tryz.f6 false true false false):=by
  refine returnsInHanded_of_change_and (C:=Tryz.checked) (X:=fun w _=>laidMetH Tryz.prog G6 w) (fun _ _ _ hh h=>h.of_heap hh) own started (by kernel_rfl) Tryz.func6
    (ChangeSpec.witness_shaped (enc:=enc) (C:=Tryz.checked) (os:=os) (X:=fun w _=>laidMetH Tryz.prog G6 w) false (World.laidAll Tryz.prog os G6) #[.slice none 0 0,.slice none 0 0] 8 (World.laidAll_os _ _ _) (World.shaped_of_ZipB (by kernel_rfl) (by kernel_rfl)) (by kernel_rfl) (by kernel_rfl) (by kernel_rfl)
      (by rw [MakeChecks.laidMetH_plain _ _ _ (by kernel_rfl)];exact laidMet_laidAll _ (by kernel_rfl) (by kernel_rfl))) ?_
  intro W base args ds gs before QS hW ahp X4 _ _
  have sK:(DataW.weightsEach Tryz.prog (Tryz.f6.params.toList++Rows.fnNetSpec.plain.varTypes Tryz.prog) (ds++gs)).all (· ≤reachBytes)=true:=X4
  have TC:∀(j:Nat) t v,Tryz.f6.params[j]? =some t→args[j]? =some v→Value.okWide Tryz.prog W .any base t v:=QS
  have hW':=hW
  obtain ⟨p,q,hA0,hV,rfl,hfz,hnd⟩:=hW
  have hA:DataW.TrodAll enc Tryz.prog W 0 (fun _=>true) true Tryz.f6.params.toList args.toList ds p:=hA0
  rw [Tryz.params6] at hA TC sK
  obtain ⟨v0,vs0,d0,ds0,p0,q0,rS,rfl,rfl,h0,r0⟩:=trodAll_cons hA
  obtain ⟨v1,vs1,d1,ds1,p1,q1,rfl,rfl,rfl,h1,r1⟩:=trodAll_cons r0
  obtain ⟨rfl,rfl,rfl⟩:=trodAll_nil r1
  obtain rfl:args= #[v0,v1]:=by cases args;simp_all
  obtain ⟨rfl,rfl⟩:=trodVars_none hV
  obtain ⟨a0,Dc,DC,rfl⟩:=okWide_slice Tryz.underlying56 (TC 0 56 v0 rfl rfl)
  have k0:=h0
  have lt0:∀x∈p0,x.block<W.heap.size:=by obtain ⟨m,hm⟩:=k0;exact DataW.trod_lt m _ _ _ hm
  obtain ⟨z0,w0⟩:∃zs,R5 .u8 W a0 Dc DC zs:=by
    obtain ⟨fuel,hf⟩:=h0
    rcases open_ints Tryz.underlying56 Tryz.underlying5 (by kernel_rfl) hf with ⟨sU,_⟩|⟨x,l,c,zs,sU,_,hl,hm,hz,_,nt,hwz⟩
    · simp [Value.cells] at sU
      obtain ⟨rfl,rfl,rfl⟩:=sU
      exact ⟨[],.inl ⟨rfl,rfl,rfl,rfl⟩⟩
    · simp [Value.cells] at sU
      obtain ⟨rfl,rfl,rfl⟩:=sU
      exact ⟨zs,.inr ⟨_,rfl,hl,hm,by simpa using hz,nt,hwz⟩⟩
  have y0:Dc*1≤140737488351232:=Go.Proofs.YtihekdlcfohkkaaGreatDoorW.PrintWords.xw sK (j:=0) (t:=56) rfl rfl Tryz.underlying56 Tryz.underlying5 (by kernel_rfl) (by kernel_rfl) h0
  obtain ⟨a1,Db,DB,rfl⟩:=okWide_slice Tryz.underlying56 (TC 1 56 v1 rfl rfl)
  have k1:=h1
  have lt1:∀x∈p1,x.block<W.heap.size:=by obtain ⟨m,hm⟩:=k1;exact DataW.trod_lt m _ _ _ hm
  obtain ⟨z1,w1⟩:∃zs,R5 .u8 W a1 Db DB zs:=by
    obtain ⟨fuel,hf⟩:=h1
    rcases open_ints Tryz.underlying56 Tryz.underlying5 (by kernel_rfl) hf with ⟨sU,_⟩|⟨x,l,c,zs,sU,_,hl,hm,hz,_,nt,hwz⟩
    · simp [Value.cells] at sU
      obtain ⟨rfl,rfl,rfl⟩:=sU
      exact ⟨[],.inl ⟨rfl,rfl,rfl,rfl⟩⟩
    · simp [Value.cells] at sU
      obtain ⟨rfl,rfl,rfl⟩:=sU
      exact ⟨zs,.inr ⟨_,rfl,hl,hm,by simpa using hz,nt,hwz⟩⟩
  have y1:Db*1≤140737488351232:=Go.Proofs.YtihekdlcfohkkaaGreatDoorW.PrintWords.xw sK (j:=1) (t:=56) rfl rfl Tryz.underlying56 Tryz.underlying5 (by kernel_rfl) (by kernel_rfl) h1
  clear hA0 QS X4 sK
  refine (QFnNet.dx.walk Pure.abu a0 Dc DC z0 a1 Db DB z1 W w0 y0 w1 y1).mono fun e W' ⟨he,bel⟩=> ?_
  subst he
  exact ⟨_,rfl,_,_,_,[],_,[],hW',trodAll_mk1 (shut_bool Tryz.underlying4 _),(trodAll_cons_mk (Below.trod laidOut (by kernel_rfl) (of_decide_eq_true (by kernel_rfl)) k0 bel lt0) (trodAll_cons_mk (Below.trod laidOut (by kernel_rfl) (of_decide_eq_true (by kernel_rfl)) k1 bel lt1) trodAll_mk0)),rfl,bel.frame _,fun h=>by cases h⟩
theorem over:Rows.fnNetRow.holds Tryz.pinned (OpenSpec.ofChange Rows.fnNetSpec):=
  OpenClaim.holds_of_wide 6 Tryz.f6 rfl rfl rfl rfl rfl rfl rfl ⟨rfl,rfl,rfl,rfl,rfl⟩ rfl rfl rfl rfl rfl (by kernel_rfl) Tryz.func6 (by kernel_rfl)
    (of_decide_eq_true (by kernel_rfl)) (by unfold Func.isWrapper;first|(rw [if_pos (by decide+kernel)];kernel_rfl)|(rw [if_neg (by decide+kernel)];exact ⟨rfl,rfl⟩))
    (fun os started H enc _=>lifted os started H enc)
theorem proved:Rows.FnNetSaid:=over
#print axioms proved
end Go.Proofs.YtihekdlcfohkkaaGreatDoor.fnNet
namespace Go.Proofs.YtihekdlcfohkkaaGreatDoor
theorem fnNet_holds:Rows.FnNetCardSaid:=
  Claim7.holds_tied_plain_at .later [] [.data,.pinned] true (true,"70c8ab9978485109f3e0cdbdc6e7f19b00bfdc69d6a0e359aab9e79e35d5b23a") false fnNet.over (fun _ h=>by cases h) (by kernel_rfl) (fun _ h=>by cases h) fnNet_row_tie rfl ⟨rfl,rfl⟩ (by kernel_rfl) rfl
    (fun f fn hf hfn=>by
      obtain rfl:f=6:=Option.some.inj ((show Tryz.prog.funcNamed "loop.example/g00549/laws.FnNet" =some 6 by kernel_rfl).symm.trans hf)|>.symm
      obtain rfl:fn=Tryz.f6:=(Option.some.inj (Tryz.func6.symm.trans hfn)).symm
      exact ⟨by kernel_rfl,fun j t ht=>by
        rw [Tryz.params6] at ht
        have hm:t∈[56]:=by simpa using Array.mem_of_getElem? ht
        have tY:([56].all fun u=> !Tryz.prog.wantsStandIn u)=true:=by kernel_rfl
        exact (show Tryz.prog.wantsStandIn t=false by simpa using List.all_eq_true.1 tY t hm)⟩)
    (by kernel_rfl)
#print axioms fnNet_holds
end Go.Proofs.YtihekdlcfohkkaaGreatDoor
