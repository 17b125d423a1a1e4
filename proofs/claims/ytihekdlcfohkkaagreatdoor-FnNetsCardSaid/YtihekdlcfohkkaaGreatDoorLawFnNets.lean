-- printed by this session's own program (wip/tools/pp.py: the kit's print.py with changes); Lean checks it
import Derived.Test.YtihekdlcfohkkaaGreatDoorRows
import Derived.Test.YtihekdlcfohkkaaGreatDoorTie
import Derived.Test.YtihekdlcfohkkaaGreatDoorCards
import Derived.LaidMore
import Derived.Lay
import Derived.SevenTiedAt
import Derived.Stop.Joined
import Derived.Test.YtihekdlcfohkkaaGreatDoorQFnNetsx15
import Derived.Test.YtihekdlcfohkkaaGreatDoorPureFnNets
import Derived.WalkKit
import Derived.ProofKit
import Derived.OpenShut
import Derived.ShutString
import Derived.ChangeOld
import Derived.Below
import Derived.SizedLaws
import Derived.Test.YtihekdlcfohkkaaGreatDoorWSized
namespace Go.Proofs.YtihekdlcfohkkaaGreatDoor.fnNets
open Go.ChangeShapes Go.WideShapes Go.ChangeAt Go.RowKit
open Go.ChangeMaps (open_string shut_string)
set_option linter.unusedVariables false
theorem own:ownKnob Tryz.prog.godebug=none:=by kernel_rfl
theorem laidOut:laidOutB Tryz.prog=true:=by kernel_rfl
def UM (k:IntKind) (w:World) (a:Option Addr) (len cap:Nat) (zs:List Int):Prop:=
  (a=none∧len=0∧cap=0∧zs=[])∨
  ∃x,a=some x∧len≤cap∧cap≤maxLen∧zs.length=cap∧(∀i,i<zs.length→w.cell? (x.add i)=some (.int k (zs.getD i 0)))∧∀n∈zs,(Lit.int k n).wf=true
def I1:List (String×DataW Unit):=[("unicode/utf8.acceptRanges",Rows.laid_unicode_utf8_acceptRanges),("unicode/utf8.first",Rows.laid_unicode_utf8_first)]
set_option maxRecDepth 100000 in
theorem lifted (os:Os) (started:os.Started) (H:Type) (enc:TypeId×Value→H):
    ReturnsInHanded {} Tryz.checked os 7 .any (fun w args=>(Rows.fnNetsSpec.pre enc Tryz.prog Tryz.f7 Rows.fnNetsRow.domain false w args∧laidMetH Tryz.prog I1 w)∧sizedMet enc Tryz.prog Tryz.f7 (OpenSpec.ofChange Rows.fnNetsSpec) false w args) (Rows.fnNetsSpec.post enc Tryz.prog Tryz.f7 false true false false):=by
  refine returnsInHanded_of_change_and (C:=Tryz.checked) (X:=fun w _=>laidMetH Tryz.prog I1 w) (fun _ _ _ hh h=>h.of_heap hh) own started (by kernel_rfl) Tryz.func7
    (ChangeSpec.witness_shaped (enc:=enc) (C:=Tryz.checked) (os:=os) (X:=fun w _=>laidMetH Tryz.prog I1 w) false (World.laidAll Tryz.prog os I1) #[.slice none 0 0,.slice none 0 0] 8 (World.laidAll_os _ _ _) (World.shaped_of_ZipB (by kernel_rfl) (by kernel_rfl)) (by kernel_rfl) (by kernel_rfl) (by kernel_rfl)
      (by rw [MakeChecks.laidMetH_plain _ _ _ (by kernel_rfl)];exact laidMet_laidAll _ (by kernel_rfl) (by kernel_rfl))) ?_
  intro W base args ds gs before Ts hW aj3 aa1 _ _
  have sr:(DataW.weightsEach Tryz.prog (Tryz.f7.params.toList++Rows.fnNetsSpec.plain.varTypes Tryz.prog) (ds++gs)).all (· ≤reachBytes)=true:=aa1
  have Wp:∀(j:Nat) t v,Tryz.f7.params[j]? =some t→args[j]? =some v→Value.okWide Tryz.prog W .any base t v:=Ts
  have hW':=hW
  obtain ⟨p,q,hA0,hV,rfl,hfz,hnd⟩:=hW
  have hA:DataW.TrodAll enc Tryz.prog W 0 (fun _=>true) true Tryz.f7.params.toList args.toList ds p:=hA0
  rw [Tryz.params7] at hA Wp sr
  obtain ⟨v0,vs0,d0,ds0,p0,q0,sJ,rfl,rfl,h0,r0⟩:=trodAll_cons hA
  obtain ⟨v1,vs1,d1,ds1,p1,q1,rfl,rfl,rfl,h1,r1⟩:=trodAll_cons r0
  obtain ⟨rfl,rfl,rfl⟩:=trodAll_nil r1
  obtain rfl:args= #[v0,v1]:=by cases args;simp_all
  obtain ⟨rfl,rfl⟩:=trodVars_none hV
  obtain ⟨a0,EI,Fc,rfl⟩:=okWide_slice Tryz.underlying56 (Wp 0 56 v0 rfl rfl)
  have k0:=h0
  have lt0:∀x∈p0,x.block<W.heap.size:=by obtain ⟨m,hm⟩:=k0;exact DataW.trod_lt m _ _ _ hm
  obtain ⟨z0,w0⟩:∃zs,UM .u8 W a0 EI Fc zs:=by
    obtain ⟨fuel,hf⟩:=h0
    rcases open_ints Tryz.underlying56 Tryz.underlying5 (by kernel_rfl) hf with ⟨tF,_⟩|⟨x,l,c,zs,tF,_,hl,hm,hz,_,mP,hwz⟩
    · simp [Value.cells] at tF
      obtain ⟨rfl,rfl,rfl⟩:=tF
      exact ⟨[],.inl ⟨rfl,rfl,rfl,rfl⟩⟩
    · simp [Value.cells] at tF
      obtain ⟨rfl,rfl,rfl⟩:=tF
      exact ⟨zs,.inr ⟨_,rfl,hl,hm,by simpa using hz,mP,hwz⟩⟩
  have y0:EI*1≤140737488351232:=Go.Proofs.YtihekdlcfohkkaaGreatDoorW.PrintWords.yC sr (j:=0) (t:=56) rfl rfl Tryz.underlying56 Tryz.underlying5 (by kernel_rfl) (by kernel_rfl) h0
  obtain ⟨a1,EH,Fb,rfl⟩:=okWide_slice Tryz.underlying56 (Wp 1 56 v1 rfl rfl)
  have k1:=h1
  have lt1:∀x∈p1,x.block<W.heap.size:=by obtain ⟨m,hm⟩:=k1;exact DataW.trod_lt m _ _ _ hm
  obtain ⟨z1,w1⟩:∃zs,UM .u8 W a1 EH Fb zs:=by
    obtain ⟨fuel,hf⟩:=h1
    rcases open_ints Tryz.underlying56 Tryz.underlying5 (by kernel_rfl) hf with ⟨tF,_⟩|⟨x,l,c,zs,tF,_,hl,hm,hz,_,mP,hwz⟩
    · simp [Value.cells] at tF
      obtain ⟨rfl,rfl,rfl⟩:=tF
      exact ⟨[],.inl ⟨rfl,rfl,rfl,rfl⟩⟩
    · simp [Value.cells] at tF
      obtain ⟨rfl,rfl,rfl⟩:=tF
      exact ⟨zs,.inr ⟨_,rfl,hl,hm,by simpa using hz,mP,hwz⟩⟩
  have y1:EH*1≤140737488351232:=Go.Proofs.YtihekdlcfohkkaaGreatDoorW.PrintWords.yC sr (j:=1) (t:=56) rfl rfl Tryz.underlying56 Tryz.underlying5 (by kernel_rfl) (by kernel_rfl) h1
  clear hA0 Ts aa1 sr
  refine (QFnNets.cl.walk Pure.YU a0 EI Fc z0 a1 EH Fb z1 W w0 y0 w1 y1).mono fun e W' ⟨he,bel⟩=> ?_
  subst he
  exact ⟨_,rfl,_,_,_,[],_,[],hW',trodAll_mk1 (shut_bool Tryz.underlying4 _),(trodAll_cons_mk (Below.trod laidOut (by kernel_rfl) (of_decide_eq_true (by kernel_rfl)) k0 bel lt0) (trodAll_cons_mk (Below.trod laidOut (by kernel_rfl) (of_decide_eq_true (by kernel_rfl)) k1 bel lt1) trodAll_mk0)),rfl,bel.frame _,fun h=>by cases h⟩
theorem over:Rows.fnNetsRow.holds Tryz.pinned (OpenSpec.ofChange Rows.fnNetsSpec):=
  OpenClaim.holds_of_wide 7 Tryz.f7 rfl rfl rfl rfl rfl rfl rfl ⟨rfl,rfl,rfl,rfl,rfl⟩ rfl rfl rfl rfl rfl (by kernel_rfl) Tryz.func7 (by kernel_rfl)
    (of_decide_eq_true (by kernel_rfl)) (by unfold Func.isWrapper;first|(rw [if_pos (by decide+kernel)];kernel_rfl)|(rw [if_neg (by decide+kernel)];exact ⟨rfl,rfl⟩))
    (fun os started H enc _=>lifted os started H enc)
theorem proved:Rows.FnNetsSaid:=over
#print axioms proved
end Go.Proofs.YtihekdlcfohkkaaGreatDoor.fnNets
namespace Go.Proofs.YtihekdlcfohkkaaGreatDoor
theorem fnNets_holds:Rows.FnNetsCardSaid:=
  Claim7.holds_tied_plain_at .later [] [.data,.pinned] true (true,"70c8ab9978485109f3e0cdbdc6e7f19b00bfdc69d6a0e359aab9e79e35d5b23a") false fnNets.over (fun _ h=>by cases h) (by kernel_rfl) (fun _ h=>by cases h) fnNets_row_tie rfl ⟨rfl,rfl⟩ (by kernel_rfl) rfl
    (fun f fn hf hfn=>by
      obtain rfl:f=7:=Option.some.inj ((show Tryz.prog.funcNamed "loop.example/g00549/laws.FnNets" =some 7 by kernel_rfl).symm.trans hf)|>.symm
      obtain rfl:fn=Tryz.f7:=(Option.some.inj (Tryz.func7.symm.trans hfn)).symm
      exact ⟨by kernel_rfl,fun j t ht=>by
        rw [Tryz.params7] at ht
        have hm:t∈[56]:=by simpa using Array.mem_of_getElem? ht
        have uC:([56].all fun u=> !Tryz.prog.wantsStandIn u)=true:=by kernel_rfl
        exact (show Tryz.prog.wantsStandIn t=false by simpa using List.all_eq_true.1 uC t hm)⟩)
    (by kernel_rfl)
#print axioms fnNets_holds
end Go.Proofs.YtihekdlcfohkkaaGreatDoor
