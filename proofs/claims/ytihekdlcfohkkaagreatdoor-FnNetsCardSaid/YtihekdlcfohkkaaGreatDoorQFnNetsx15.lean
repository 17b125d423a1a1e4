-- printed by this session's own program (wip/tools/pp.py: the kit's print.py with changes); Lean checks it
import Derived.Test.YtihekdlcfohkkaaGreatDoorQFnNetsx0
import Derived.Test.YtihekdlcfohkkaaGreatDoorQFnNetsx1
import Derived.Test.YtihekdlcfohkkaaGreatDoorQFnNetsx2
import Derived.Test.YtihekdlcfohkkaaGreatDoorQFnNetsx3
import Derived.Test.YtihekdlcfohkkaaGreatDoorQFnNetsx4
import Derived.Test.YtihekdlcfohkkaaGreatDoorQFnNetsx6
import Derived.Test.YtihekdlcfohkkaaGreatDoorQFnNetsx7
import Derived.Test.YtihekdlcfohkkaaGreatDoorQFnNetsx9
import Derived.Test.YtihekdlcfohkkaaGreatDoorQFnNetsx12
import Derived.Test.YtihekdlcfohkkaaGreatDoorQFnNetsx13
import Derived.Test.YtihekdlcfohkkaaGreatDoorQFnNetsx14
namespace Go.Proofs.YtihekdlcfohkkaaGreatDoor.QFnNets
open Go.RowKit Go.Proofs.YtihekdlcfohkkaaGreatDoorW.PrintWords Go.Proofs.YtihekdlcfohkkaaGreatDoorW.PrintLast Go.Proofs.YtihekdlcfohkkaaGreatDoorW.PrintMore
attribute [local go_sem] max2_int min2_int max_two min_two max_three min_three max_four min_four strLss strGtr strLeq strGeq
set_option linter.unusedVariables false
set_option linter.unusedSimpArgs false
set_option maxHeartbeats 16000000
set_option maxRecDepth 100000
mutual
def aT.j0:Nat→Int→Bool→List Int→List (List ByteArray)→List (List ByteArray)→List (List ByteArray)→Int→Option (List ByteArray×Bool)
  |0,_,_,_,_,_,_,_=>none
  |k+1,x1,Iy,aeo,aen,aem,Cd,ael=>if Iy=true then (some (([]:List ByteArray),false)) else (if 0≤x1 then (if x1<(Cd.length:Int) then (aT.l0 k ([]:List ByteArray) (aN Cd x1) ((aN Cd x1).length:Int) 0) else (none)) else (none))
def aT.l0:Nat→List ByteArray→List ByteArray→Int→Int→Option (List ByteArray×Bool)
  |0,_,_,_,_=>none
  |k+1,x6,Vf,Zd,Qy=>if Qy<Zd then (if 0≤Qy then (if Qy<(Vf.length:Int) then (aT.l1 k x6 (aQ ByteArray.empty Vf Qy) 0 Vf Zd Qy) else (none)) else (none)) else (aT.l2 k x6 ([]:List ByteArray) (x6.length:Int) 0)
def aT.l1:Nat→List ByteArray→ByteArray→Int→List ByteArray→Int→Int→Option (List ByteArray×Bool)
  |0,_,_,_,_,_,_=>none
  |k+1,x6,x8,x9,Vf,Zd,Qy=>if x9<(x6.length:Int) then (if 0≤x9 then (if 0<((aQ ByteArray.empty x6 x9).size:Int) then (if 0<(x8.size:Int) then (if (bt (aQ ByteArray.empty x6 x9) 0)≤(bt x8 0) then (aT.l1 k x6 x8 (wrap64 (x9+1)) Vf Zd Qy) else ((some (([]:List ByteArray):List ByteArray)).bind fun yh=>(if x9≤(x6.length:Int) then ((some (x6.take (x9:Int).toNat:List ByteArray)).bind fun ko=>(if yh.length+ko.length<8796093022208 then ((some (yh++ko:List ByteArray)).bind fun sV=>(if sV.length<8796093022208 then ((some (sV++[x8]:List ByteArray)).bind fun oK=>((some (x6.drop (x9:Int).toNat:List ByteArray)).bind fun jm=>(if oK.length+jm.length<8796093022208 then (aT.l0 k (oK++jm) Vf Zd (wrap64 (Qy+1))) else (none)))) else (none))) else (none))) else (none)))) else (none)) else (none)) else (none)) else ((some (([]:List ByteArray):List ByteArray)).bind fun yg=>(if 0≤x9 then (if x9≤(x6.length:Int) then ((some (x6.take (x9:Int).toNat:List ByteArray)).bind fun kj=>(if yg.length+kj.length<8796093022208 then ((some (yg++kj:List ByteArray)).bind fun sU=>(if sU.length<8796093022208 then ((some (sU++[x8]:List ByteArray)).bind fun oJ=>((some (x6.drop (x9:Int).toNat:List ByteArray)).bind fun jl=>(if oJ.length+jl.length<8796093022208 then (aT.l0 k (oJ++jl) Vf Zd (wrap64 (Qy+1))) else (none)))) else (none))) else (none))) else (none)) else (none)))
def aT.l2:Nat→List ByteArray→List ByteArray→Int→Int→Option (List ByteArray×Bool)
  |0,_,_,_,_=>none
  |k+1,x6,qE,x64,Ve=>if Ve<x64 then (if 0≤Ve then (if Ve<(x6.length:Int) then (if 1≤((aQ ByteArray.empty x6 Ve).size:Int) then (if qE.length<8796093022208 then (aT.l2 k x6 (qE++[(aQ ByteArray.empty x6 Ve).extract 1 (aQ ByteArray.empty x6 Ve).size]) x64 (wrap64 (Ve+1))) else (none)) else (none)) else (none)) else (none)) else (some (qE,true))
end
def aT.f (k:Nat) (bn:List Int) (aU:List (List ByteArray)) (bu:List (List ByteArray)) (aM:List (List ByteArray)) (bR:Int) (a1:Int):Option (List ByteArray×Bool):=(aj.f k bn aU bu aM bR).bind fun Mx=>(if Mx=true then ((bE.f a1 0 3).bind fun Au=>(aT.j0 k a1 (!Au) bn aU bu aM bR)) else (aT.j0 k a1 true bn aU bu aM bR))
theorem aT.calls (k:Nat) (fV:Option Addr) (fT:Nat) (bn:List Int) (gv:Option Addr) (fS:Nat) (aU:List (List ByteArray)) (fU:Option Addr) (fR:Nat) (bu:List (List ByteArray)) (gB:Option Addr) (fQ:Nat) (aM:List (List ByteArray)) (bR:Int) (a1:Int) (r1:List ByteArray) (r2:Bool) (w:World) (jE:Kd.C (Kd.int .i64) w fV bn.length bn) (jI:bn.length≤fT) (jD:Kd.C (Kd.slice 9 Kd.string) w gv aU.length aU) (jH:aU.length≤fS) (jC:Kd.C (Kd.slice 9 Kd.string) w fU bu.length bu) (jG:bu.length≤fR) (jB:Kd.C (Kd.slice 9 Kd.string) w gB aM.length aM) (jF:aM.length≤fQ) (h:aT.f k bn aU bu aM bR a1=some (r1,r2)):
  Calls Tryz.prog 46 #[.agg #[.slice fV bn.length fT,.slice gv aU.length fS,.slice fU bu.length fR,.slice gB aM.length fQ,.int .i64 bR],.int .i64 a1] w fun e w'=>∃lG:Value,e= .returned (.tuple #[lG,.bool r2])∧Kd.R Kd.string 9 w' w.heap.size (fun _=>True) lG r1∧Below w.heap.size w w':=by
 have lg:=Tryz.underlying27
 have gE:=ak jE;have gF:=ak jI;clear jE jI;have iM:=ak jD;have jx:=ak jH;clear jD jH;have iy:=ak jC;have jK:=ak jG;clear jC jG;have iL:=ak jB;have jY:=ak jF;clear jB jF
 have HB:=ak (Below.refl w.heap.size w)
 have H:((aj.f k bn aU bu aM bR).bind fun Mx=>(if Mx=true then ((bE.f a1 0 3).bind fun Au=>(aT.j0 k a1 (!Au) bn aU bu aM bR)) else (aT.j0 k a1 true bn aU bu aM bR)))=some (r1,r2):=h
 clear h;have HC3:=ak H;clear H
 go_enter Tryz.func46,Tryz.ntmps46
 go_upto_region 1 with (first|((with_reducible refine av (N:=2) rfl ?_);refine bN 2 #[.slice fV bn.length fT,.slice gv aU.length fS,.slice fU bu.length fR,.slice gB aM.length fQ,.int .i64 bR] 27 ?_;intro BB hg w4 eI hb;have cw:=ak (eI);have U5:=ak (mX hg (aq HB));have dI:=ak (mX hg (aq HB));replace HB:=ak (aH (aq HB) hb);clear hb eI hg))
 repeat (go_quiet (first|((with_reducible refine av (N:=2) rfl ?_);refine bN 2 #[.slice fV bn.length fT,.slice gv aU.length fS,.slice fU bu.length fR,.slice gB aM.length fQ,.int .i64 bR] 27 ?_;intro BB hg w4 eI hb;have cw:=ak (eI);have U5:=ak (mX hg (aq HB));have dI:=ak (mX hg (aq HB));replace HB:=ak (aH (aq HB) hb);clear hb eI hg));go_upto_region 1 with (first|((with_reducible refine av (N:=2) rfl ?_);refine bN 2 #[.slice fV bn.length fT,.slice gv aU.length fS,.slice fU bu.length fR,.slice gB aM.length fQ,.int .i64 bR] 27 ?_;intro BB hg w4 eI hb;have cw:=ak (eI);have U5:=ak (mX hg (aq HB));have dI:=ak (mX hg (aq HB));replace HB:=ak (aH (aq HB) hb);clear hb eI hg)))
 (try simp only [Act.put,List.setIfInBounds_toArray,List.set_cons_zero,List.set_cons_succ])
 go_cut [21] (fun v21 wc=>∃(kq:Nat) (k7:Bool),v21= .bool k7∧Aside0 (aT.j0 kq a1 k7 bn aU bu aM bR=some (r1,r2))∧Aside0 (kq≤k)∧Aside0 (wc.heap[BB]? =some (.cells #[(.slice fV bn.length fT),(.slice gv aU.length fS),(.slice fU bu.length fR),(.slice gB aM.length fQ),.int .i64 bR] 27 (0,0)))∧Aside0 (Below w.heap.size w wc))
 case first=>
  have H:=HC3.out;clear HC3;replace H:=bS H;obtain ⟨Mx,A5,H⟩:=H
  by_cases c6:Mx=true
  ·subst c6
   have H1:((bE.f a1 0 3).bind fun Au=>(aT.j0 k a1 (!Au) bn aU bu aM bR))=some (r1,r2):=by rw [if_pos rfl] at H;exact H
   clear H
   have H:=H1
   clear H1;replace H:=bS H;obtain ⟨Au,A7,H⟩:=H
   have H':=ak H
   clear H;have kZ:=an cw
   go_wp2_with (first|(go_at_call 42;(with_reducible refine (aj.calls k _ _ bn _ _ aU _ _ bu _ _ aM bR true _ ?side1 ?side2 ?side3 ?side4 ?side5 ?side6 ?side7 ?side8 A5.out).mono ?_);(case side1=>exact cd (Kd.aD gE.out HB.out));(case side2=>exact gF.out);(case side3=>exact cd (Kd.aD iM.out HB.out));(case side4=>exact jx.out);(case side5=>exact cd (Kd.aD iy.out HB.out));(case side6=>exact jK.out);(case side7=>exact cd (Kd.aD iL.out HB.out));(case side8=>exact jY.out);rintro e w9 ⟨rfl,hb⟩;replace cw:=ak (cW (dm cw) hb);replace HB:=ak (aH (az HB dI) hb);(try clear hb))|(go_at_call 79;(with_reducible refine (bE.calls a1 0 3 Au _ A7.out).mono ?_);rintro e w' ⟨rfl,⟨nd,rfl⟩⟩;(try first|exact ⟨rfl,_,World.drewN_drewN _ _ _⟩|exact ⟨rfl,_,Eq.trans (World.drewN_drewN _ _ _) (congrArg (World.drewN _) (Nat.add_assoc _ _ _))⟩)))
   repeat (go_quiet (first|(go_at_call 42;(with_reducible refine (aj.calls k _ _ bn _ _ aU _ _ bu _ _ aM bR true _ ?side1 ?side2 ?side3 ?side4 ?side5 ?side6 ?side7 ?side8 A5.out).mono ?_);(case side1=>exact cd (Kd.aD gE.out HB.out));(case side2=>exact gF.out);(case side3=>exact cd (Kd.aD iM.out HB.out));(case side4=>exact jx.out);(case side5=>exact cd (Kd.aD iy.out HB.out));(case side6=>exact jK.out);(case side7=>exact cd (Kd.aD iL.out HB.out));(case side8=>exact jY.out);rintro e w9 ⟨rfl,hb⟩;replace cw:=ak (cW (dm cw) hb);replace HB:=ak (aH (az HB dI) hb);(try clear hb))|(go_at_call 79;(with_reducible refine (bE.calls a1 0 3 Au _ A7.out).mono ?_);rintro e w' ⟨rfl,⟨nd,rfl⟩⟩;(try first|exact ⟨rfl,_,World.drewN_drewN _ _ _⟩|exact ⟨rfl,_,Eq.trans (World.drewN_drewN _ _ _) (congrArg (World.drewN _) (Nat.add_assoc _ _ _))⟩)));try go_wp2_with (first|(go_at_call 42;(with_reducible refine (aj.calls k _ _ bn _ _ aU _ _ bu _ _ aM bR true _ ?side1 ?side2 ?side3 ?side4 ?side5 ?side6 ?side7 ?side8 A5.out).mono ?_);(case side1=>exact cd (Kd.aD gE.out HB.out));(case side2=>exact gF.out);(case side3=>exact cd (Kd.aD iM.out HB.out));(case side4=>exact jx.out);(case side5=>exact cd (Kd.aD iy.out HB.out));(case side6=>exact jK.out);(case side7=>exact cd (Kd.aD iL.out HB.out));(case side8=>exact jY.out);rintro e w9 ⟨rfl,hb⟩;replace cw:=ak (cW (dm cw) hb);replace HB:=ak (aH (az HB dI) hb);(try clear hb))|(go_at_call 79;(with_reducible refine (bE.calls a1 0 3 Au _ A7.out).mono ?_);rintro e w' ⟨rfl,⟨nd,rfl⟩⟩;(try first|exact ⟨rfl,_,World.drewN_drewN _ _ _⟩|exact ⟨rfl,_,Eq.trans (World.drewN_drewN _ _ _) (congrArg (World.drewN _) (Nat.add_assoc _ _ _))⟩))))
   go_meet
   case rel=>exact ⟨_,(!Au),er,H',⟨by first|omega|exact Nat.le_refl _⟩,⟨dm cw⟩,⟨az HB dI⟩⟩
  ·replace c6:=Bool.eq_false_iff.mpr c6
   subst c6
   have H1:(aT.j0 k a1 true bn aU bu aM bR)=some (r1,r2):=by rw [if_neg (show¬(false=true) by decide)] at H;exact H
   clear H
   have H:=H1
   clear H1
   have H':=ak H
   clear H;have ai7:=an cw
   go_wp2_with (first|(go_at_call 42;(with_reducible refine (aj.calls k _ _ bn _ _ aU _ _ bu _ _ aM bR false _ ?side1 ?side2 ?side3 ?side4 ?side5 ?side6 ?side7 ?side8 A5.out).mono ?_);(case side1=>exact cd (Kd.aD gE.out HB.out));(case side2=>exact gF.out);(case side3=>exact cd (Kd.aD iM.out HB.out));(case side4=>exact jx.out);(case side5=>exact cd (Kd.aD iy.out HB.out));(case side6=>exact jK.out);(case side7=>exact cd (Kd.aD iL.out HB.out));(case side8=>exact jY.out);rintro e Vh ⟨rfl,hb⟩;replace cw:=ak (cW (dm cw) hb);replace HB:=ak (aH (az HB dI) hb);(try clear hb)))
   repeat (go_quiet (first|(go_at_call 42;(with_reducible refine (aj.calls k _ _ bn _ _ aU _ _ bu _ _ aM bR false _ ?side1 ?side2 ?side3 ?side4 ?side5 ?side6 ?side7 ?side8 A5.out).mono ?_);(case side1=>exact cd (Kd.aD gE.out HB.out));(case side2=>exact gF.out);(case side3=>exact cd (Kd.aD iM.out HB.out));(case side4=>exact jx.out);(case side5=>exact cd (Kd.aD iy.out HB.out));(case side6=>exact jK.out);(case side7=>exact cd (Kd.aD iL.out HB.out));(case side8=>exact jY.out);rintro e Vh ⟨rfl,hb⟩;replace cw:=ak (cW (dm cw) hb);replace HB:=ak (aH (az HB dI) hb);(try clear hb)));try go_wp2_with (first|(go_at_call 42;(with_reducible refine (aj.calls k _ _ bn _ _ aU _ _ bu _ _ aM bR false _ ?side1 ?side2 ?side3 ?side4 ?side5 ?side6 ?side7 ?side8 A5.out).mono ?_);(case side1=>exact cd (Kd.aD gE.out HB.out));(case side2=>exact gF.out);(case side3=>exact cd (Kd.aD iM.out HB.out));(case side4=>exact jx.out);(case side5=>exact cd (Kd.aD iy.out HB.out));(case side6=>exact jK.out);(case side7=>exact cd (Kd.aD iL.out HB.out));(case side8=>exact jY.out);rintro e Vh ⟨rfl,hb⟩;replace cw:=ak (cW (dm cw) hb);replace HB:=ak (aH (az HB dI) hb);(try clear hb))))
   go_meet
   case rel=>exact ⟨_,(true),er,H',⟨by first|omega|exact Nat.le_refl _⟩,⟨dm cw⟩,⟨az HB dI⟩⟩
 case rest=>
  clear HC3
  obtain ⟨kq,k7,rfl,HA,UZ,cw,HB⟩:=hcut
  cases kq with
  |zero=>exact absurd HA.out (by simp [aT.j0])
  |succ kj2=>
   have H:=HA.out;clear HA
   simp only [aT.j0] at H
   by_cases nW:k7=true
   ·subst nW
    have H1:(some (([]:List ByteArray),false))=some (r1,r2):=by rw [if_pos rfl] at H;exact H
    clear H
    have H:=H1
    clear H1
    simp only [Option.some.injEq,Prod.mk.injEq] at H
    obtain ⟨rfl,rfl⟩:=H;go_wp2
    repeat (go_quiet (fail);try go_wp2)
    go_ret2
    exact ⟨_,kK,CD,az HB dI⟩
   ·replace nW:=Bool.eq_false_iff.mpr nW
    subst nW
    have H1:(if 0≤a1 then (if a1<(aM.length:Int) then (aT.l0 kj2 ([]:List ByteArray) (aN aM a1) ((aN aM a1).length:Int) 0) else (none)) else (none))=some (r1,r2):=by rw [if_neg (show¬(false=true) by decide)] at H;exact H
    clear H
    have H:=H1
    clear H1;replace H:=dy H;obtain ⟨oA,H⟩:=H;have BL:=decide_eq_true oA;clear oA;replace H:=dy H;obtain ⟨oI,H⟩:=H;have JL:=decide_eq_true oI;clear oI
    have H':=ak H
    clear H;obtain ⟨Sm,Sl,Sk,Sj,Si,Sd,Sc,Sb,Sa,R9⟩:=an cw
    have Rg:0≤(a1:Int):=da
    have Q6:a1<(aM.length:Int):=da
    obtain ⟨Pd,ahX,ahx,agW,xK,Ja,Jo⟩:=ke iL.out a1 Rg Q6
    cases agW
    replace xK:=(HB.out.cell (World.block_lt_of_cell? w _ xK)).trans xK
    have SL:=ak Jo;have aeu:=ak Ja;clear Jo Ja;replace Rg:=eq_true Rg;replace Q6:=eq_true Q6;go_wp2
    repeat (go_quiet (fail);try go_wp2)
    go_loopg [6,28] kj2 (fun kq v6 v28 w'=>∃(bU:List ByteArray) (eE:Int),v28= .int .i64 eE∧Aside0 (aT.l0 kq bU (aN aM a1) ((aN aM a1).length:Int) eE=some (r1,r2))∧Aside0 (kq≤kj2)∧Aside0 (Kd.R Kd.string 9 w' w.heap.size (fun _=>True) v6 bU)∧Aside0 (w'.heap[BB]? =some (.cells #[(.slice fV bn.length fT),(.slice gv aU.length fS),(.slice fU bu.length fR),(.slice (some Pd) aM.length fQ),.int .i64 bR] 27 (0,0)))∧Aside0 (Below w.heap.size w w'))
    case atStart=>exact ⟨(([]:List ByteArray)),(0),er,H',⟨Nat.le_refl _⟩,⟨CD⟩,⟨dm cw⟩,⟨az HB dI⟩⟩
    case round=>
     clear H'
     (try clear nW);(try clear BL);(try clear JL);(try clear Sm);(try clear Sl);(try clear Sk);(try clear Sj);(try clear Si);(try clear Sd);(try clear Sc);(try clear Sb);(try clear Sa);(try clear R9);(try clear xK);(try clear Rg);(try clear Q6)
     obtain ⟨bU,eE,rfl,HA,kg,cG,cw,HB⟩:=hrel
     cases gk with
     |zero=>exact absurd HA.out (by simp [aT.l0])
     |succ k2=>
      have H:=HA.out;clear HA
      simp only [aT.l0] at H
      by_cases Ic:eE<((aN aM a1).length:Int)
      ·rw [if_pos Ic] at H
       have zw:=decide_eq_true Ic
       clear Ic;replace H:=dy H;obtain ⟨Qs,H⟩:=H;have JK:=decide_eq_true Qs;clear Qs;replace H:=dy H;obtain ⟨Fk,H⟩:=H;have Uh:=decide_eq_true Fk;clear Fk
       have H':=ak H
       clear H
       have Rf:0≤(eE:Int):=da
       have Q5:eE<((aN aM a1).length:Int):=da
       obtain ⟨aiG,agV,xJ⟩:=Kd.bq SL.out eE Rf Q5
       cases agV
       replace xJ:=(HB.out.cell (World.block_lt_of_cell? w _ xJ)).trans xJ
       replace Rf:=eq_true Rf;replace Q5:=eq_true Q5;go_wp2
       repeat (go_quiet (fail);try go_wp2)
       go_loopg [9] k2 (fun kq v9 w'=>∃(cr:Int),v9= .int .i64 cr∧Aside0 (aT.l1 kq bU (aQ ByteArray.empty (aN aM a1) eE) cr (aN aM a1) ((aN aM a1).length:Int) eE=some (r1,r2))∧Aside0 (kq≤k2)∧Aside0 (Kd.R Kd.string 9 w' w.heap.size (fun _=>True) u6 bU)∧Aside0 (w'.heap[BB]? =some (.cells #[(.slice fV bn.length fT),(.slice gv aU.length fS),(.slice fU bu.length fR),(.slice (some Pd) aM.length fQ),.int .i64 bR] 27 (0,0)))∧Aside0 (Below w.heap.size w w'))
       case atStart=>exact ⟨(0),er,H',⟨Nat.le_refl _⟩,⟨dH cG⟩,⟨dm cw⟩,⟨az HB dI⟩⟩
       case round=>
        clear H'
        (try clear zw);(try clear JK);(try clear Uh);(try clear xJ);(try clear Rf);(try clear Q5)
        obtain ⟨cr,rfl,HA,yd,cG,cw,HB⟩:=hrel
        cases gk with
        |zero=>exact absurd HA.out (by simp [aT.l1])
        |succ k3=>
         have H:=HA.out;clear HA
         simp only [aT.l1] at H
         by_cases LJ:cr<(bU.length:Int)
         ·rw [if_pos LJ] at H
          have O0:=decide_eq_true LJ
          clear LJ;replace H:=dy H;obtain ⟨BK,H⟩:=H;have uK:=decide_eq_true BK;clear BK;replace H:=dy H;obtain ⟨H7,H⟩:=H;have BJ:=decide_eq_true H7
          have ach:decide (0<(aQ ByteArray.empty bU cr).size)=true:=decide_eq_true (by omega)
          clear H7;replace H:=dy H;obtain ⟨H6,H⟩:=H;have OY:=decide_eq_true H6
          have aiD:decide (0<(aQ ByteArray.empty (aN aM a1) eE).size)=true:=decide_eq_true (by omega)
          clear H6
          by_cases BI:(bt (aQ ByteArray.empty bU cr) 0)≤(bt (aQ ByteArray.empty (aN aM a1) eE) 0)
          ·rw [if_pos BI] at H
           have OX:=decide_eq_true BI
           clear BI
           have H':=ak H
           clear H
           obtain ⟨ahS,ahp,Xs⟩:=Kd.de cG.out
           subst Xs
           obtain ⟨afG,afq,gL,Xt,RB⟩:=ng (Kd.bq (Kd.aJ cG.out).2.2 cr)
           cases Xt
           have p22:0≤(0:Int):=(by omega)
           have q22:0<(aQ ByteArray.empty bU cr).size:=(by have:(0:Int)<((aQ ByteArray.empty bU cr).size:Int):=da;omega)
           have af1:∀h:0<(aQ ByteArray.empty bU cr).size,(((aQ ByteArray.empty bU cr)[0]'h).toNat:Int)=bt (aQ ByteArray.empty bU cr) 0:=jJ (aQ ByteArray.empty bU cr) 0
           clear p22
           have afp:(0<((aQ ByteArray.empty bU cr).size:Int))=True:=eq_true (da)
           replace q22:=eq_true q22
           have p24:0≤(0:Int):=(by omega)
           have q24:0<(aQ ByteArray.empty (aN aM a1) eE).size:=(by have:(0:Int)<((aQ ByteArray.empty (aN aM a1) eE).size:Int):=da;omega)
           have af0:∀h:0<(aQ ByteArray.empty (aN aM a1) eE).size,(((aQ ByteArray.empty (aN aM a1) eE)[0]'h).toNat:Int)=bt (aQ ByteArray.empty (aN aM a1) eE) 0:=jJ (aQ ByteArray.empty (aN aM a1) eE) 0
           clear p24
           have afo:(0<((aQ ByteArray.empty (aN aM a1) eE).size:Int))=True:=eq_true (da)
           replace q24:=eq_true q24;go_wp2
           repeat (go_quiet (fail);try go_wp2)
           go_roundg k3
           case measure=>have:=UZ.out;have:=kg.out;have:=yd.out;omega
           case rel=>exact ⟨(wrap64 (cr+1)),er,H',⟨by have:=UZ.out;have:=kg.out;have:=yd.out;omega⟩,⟨dH cG⟩,⟨dm cw⟩,⟨az HB dI⟩⟩
          ·rw [if_neg BI] at H
           have OX:=decide_eq_false BI
           clear BI
           obtain ⟨yh,ez⟩:∃y_:List ByteArray,y_=(([]:List ByteArray)):=⟨_,rfl⟩
           replace H:(if cr≤(bU.length:Int) then ((some (bU.take (cr:Int).toNat:List ByteArray)).bind fun ko=>(if yh.length+ko.length<8796093022208 then ((some (yh++ko:List ByteArray)).bind fun sV=>(if sV.length<8796093022208 then ((some (sV++[(aQ ByteArray.empty (aN aM a1) eE)]:List ByteArray)).bind fun oK=>((some (bU.drop (cr:Int).toNat:List ByteArray)).bind fun jm=>(if oK.length+jm.length<8796093022208 then (aT.l0 k3 (oK++jm) (aN aM a1) ((aN aM a1).length:Int) (wrap64 (eE+1))) else (none)))) else (none))) else (none))) else (none))=some (r1,r2):=yH
           have BQ:=ak ez;clear ez
           have acf:=eq_true (da:0≤cr)
           replace H:=dy H;obtain ⟨Yc,H⟩:=H;have ace:=eq_true Yc
           have acd:decide (cr≤(bU.length:Int))=true:=decide_eq_true Yc
           clear Yc
           obtain ⟨ko,ez⟩:∃y_:List ByteArray,y_=(bU.take (cr:Int).toNat):=⟨_,rfl⟩
           replace H:(if yh.length+ko.length<8796093022208 then ((some (yh++ko:List ByteArray)).bind fun sV=>(if sV.length<8796093022208 then ((some (sV++[(aQ ByteArray.empty (aN aM a1) eE)]:List ByteArray)).bind fun oK=>((some (bU.drop (cr:Int).toNat:List ByteArray)).bind fun jm=>(if oK.length+jm.length<8796093022208 then (aT.l0 k3 (oK++jm) (aN aM a1) ((aN aM a1).length:Int) (wrap64 (eE+1))) else (none)))) else (none))) else (none))=some (r1,r2):=yH
           have nT:=ak ez;clear ez;replace H:=dy H;obtain ⟨D5,H⟩:=H;have PM:=ak D5;clear D5
           obtain ⟨sV,ez⟩:∃y_:List ByteArray,y_=(yh++ko):=⟨_,rfl⟩
           replace H:(if sV.length<8796093022208 then ((some (sV++[(aQ ByteArray.empty (aN aM a1) eE)]:List ByteArray)).bind fun oK=>((some (bU.drop (cr:Int).toNat:List ByteArray)).bind fun jm=>(if oK.length+jm.length<8796093022208 then (aT.l0 k3 (oK++jm) (aN aM a1) ((aN aM a1).length:Int) (wrap64 (eE+1))) else (none)))) else (none))=some (r1,r2):=yH
           have PA:=ak ez;clear ez;replace H:=dy H;obtain ⟨FN,H⟩:=H;have PL:=ak FN;clear FN
           obtain ⟨oK,ez⟩:∃y_:List ByteArray,y_=(sV++[(aQ ByteArray.empty (aN aM a1) eE)]):=⟨_,rfl⟩
           replace H:((some (bU.drop (cr:Int).toNat:List ByteArray)).bind fun jm=>(if oK.length+jm.length<8796093022208 then (aT.l0 k3 (oK++jm) (aN aM a1) ((aN aM a1).length:Int) (wrap64 (eE+1))) else (none)))=some (r1,r2):=yH
           have Pz:=ak ez;clear ez
           have wN:=eq_true (da:0≤cr)
           have BG:=eq_true (da:cr≤(bU.length:Int))
           obtain ⟨jm,ez⟩:∃y_:List ByteArray,y_=(bU.drop (cr:Int).toNat):=⟨_,rfl⟩
           replace H:(if oK.length+jm.length<8796093022208 then (aT.l0 k3 (oK++jm) (aN aM a1) ((aN aM a1).length:Int) (wrap64 (eE+1))) else (none))=some (r1,r2):=yH
           have uV:=ak ez;clear ez;replace H:=dy H;obtain ⟨OU,H⟩:=H;have PK:=ak OU;clear OU
           obtain ⟨ZI,ez⟩:∃y_:List ByteArray,y_=(oK++jm):=⟨_,rfl⟩
           replace H:(aT.l0 k3 ZI (aN aM a1) ((aN aM a1).length:Int) (wrap64 (eE+1)))=some (r1,r2):=yH
           have Py:=ak ez;clear ez
           have H':=ak H
           clear H
           obtain ⟨akt,kz,agQ⟩:=Kd.de cG.out
           subst agQ
           obtain ⟨afG,afq,gL,Xt,RB⟩:=ng (Kd.bq (Kd.aJ cG.out).2.2 cr)
           cases Xt
           have p22:0≤(0:Int):=(by omega)
           have q22:0<(aQ ByteArray.empty bU cr).size:=(by have:(0:Int)<((aQ ByteArray.empty bU cr).size:Int):=da;omega)
           have af1:∀h:0<(aQ ByteArray.empty bU cr).size,(((aQ ByteArray.empty bU cr)[0]'h).toNat:Int)=bt (aQ ByteArray.empty bU cr) 0:=jJ (aQ ByteArray.empty bU cr) 0
           clear p22
           have afp:(0<((aQ ByteArray.empty bU cr).size:Int))=True:=eq_true (da)
           replace q22:=eq_true q22
           have p24:0≤(0:Int):=(by omega)
           have q24:0<(aQ ByteArray.empty (aN aM a1) eE).size:=(by have:(0:Int)<((aQ ByteArray.empty (aN aM a1) eE).size:Int):=da;omega)
           have af0:∀h:0<(aQ ByteArray.empty (aN aM a1) eE).size,(((aQ ByteArray.empty (aN aM a1) eE)[0]'h).toNat:Int)=bt (aQ ByteArray.empty (aN aM a1) eE) 0:=jJ (aQ ByteArray.empty (aN aM a1) eE) 0
           clear p24
           have afo:(0<((aQ ByteArray.empty (aN aM a1) eE).size:Int))=True:=eq_true (da)
           replace q24:=eq_true q24
           go_wp2_with (first|((with_reducible refine av (N:=48) rfl ?_);refine Kd.gD Kd.string _ 9 ?hg (N:=48) ?hd (xs:=([]:List ByteArray)) (inner:=[]) (ok:=fun _=>True) (okp:=fun _=>True) ?hr ?hp (fun _ hk=>hk) trivial (Below.refl _ _) (Nat.le_refl _) (by simp) ?_;(case hd=>rfl);(case hg=>rfl);(case hr=>exact rZ);(case hp=>exact (bT.none _ _));intro Mr w35 oX hb bK dP;clear bK dP;(first|rw [←BQ.out] at oX|(simp only [Int.reduceToNat] at oX;rw [←BQ.out] at oX));have rN:=ak (Kd.dz (Kd.l9 oX (Kd.ji (dH cG))) (aX (az HB dI)));replace cG:=ak (Kd.iX (dH cG) (Kd.j3 oX) hb);replace cw:=ak (cW (dm cw) hb);replace HB:=ak (aH (az HB dI) hb);clear hb oX;have M8:(cr:Int)≤((bU.length:Int):Int):=da;obtain ⟨aaZ,wK,_,EO,_⟩:=info_parts fu;have ot:bU.length≤kz:=(Kd.aJ cG.out).2.1;have EX:Kd.C Kd.string _ (some gL) bU.length bU:=(Kd.aJ cG.out).2.2;have ze:=vP (P:=Tryz.prog) 62 9 .i64 Tryz.underlying62 wK (some gL) bU.length kz cr (da) M8 ot;have y6:=Kd.ir (m:=(cr:Int).toNat) EX (by omega);have y4:ko.length=(cr:Int).toNat:=(by rw [nT.out,List.length_take];omega);rw [←nT.out] at y6;rw [←y4] at ze;have mU:=ak y6;have U3:=ak (show ko.length≤kz from by omega);clear y6 EX ot wK EO;have adG:=ak y4;clear y4;have zW:=ak (show (cr:Int).toNat≤bU.length from by omega);replace M8:=eq_true M8)|((with_reducible refine bw (b:= .append) (xs:= #[.tmp 48,.tmp 51]) rfl ?_);at_builtin;refine Kd.cH Kd.string (w0:=w) w.heap.size rfl (.tmp 48) (.tmp 51) 62 9 (.string ⟨#[]⟩) 16 rfl Tryz.underlying62 fu rfl (by decide) (by omega) Mr yh ko _ _ _ (fun k_=>some k_≠(.slice (some gL) bU.length kz:Value).ownBlock) (fun _=>False) rfl rfl ?aO ?aR (fun _ _ h=>h) (fun _ h=>h.elim) ?aF ?aB ?aS ?aL ?_;(case aR=>exact cd (by repeat (first|(with_reducible exact mU.out)|(with_reducible refine Kd.kS ?_ _)|(with_reducible refine Kd.kR ?_ _)|(with_reducible refine Kd.mG ?_)|exact mU.out)));(case aB=>exact (az HB dI));(case aF=>exact (fun k_ hk=>Kd.gI (Kd.ji (dH cG)) k_ hk));(case aO=>exact (by (with_reducible repeat (first|apply Kd.cz|apply Kd.cy|apply Kd.cD));exact Kd.bJ rN.out (fun _ hk=>hk.2)));(case aS=>exact (aX (az HB dI)));(case aL=>have:=PM.out;omega);intro Mq Zg ho hb hg eC;rw [←PA.out] at ho;replace cw:=ak (ej (dm cw) hg (Kd.mS rN.out cw.out (by decide)));replace HB:=ak (hb);replace mU:=ak ((show Kd.C Kd.string Zg (some gL) ko.length ko from by rw [nT.out];exact Kd.ir (m:=(cr:Int).toNat) ((Kd.aJ (Kd.cF (ok:=(fun _=>True)) (dH cG) hg eC)).2.2) zW.out));replace cG:=ak (Kd.cF (ok:=(fun _=>True)) (dH cG) hg eC);have rM:=ak (ho);clear rN;clear ho hb hg eC)|((with_reducible refine bw (b:= .append) (xs:= #[.tmp 53,.tmp 55]) rfl ?_);at_builtin;refine Kd.ig Kd.string (w0:=w) w.heap.size rfl (.tmp 53) (.tmp 55) 62 9 (.string ⟨#[]⟩) 16 rfl Tryz.underlying62 fu rfl (by decide) (by omega) Mq sV (aQ ByteArray.empty (aN aM a1) eE) [.string (aQ ByteArray.empty (aN aM a1) eE)] (fun k_=>some k_≠(.slice (some gL) bU.length kz:Value).ownBlock) (fun _=>False) rfl rfl ?aP (fun _ hk=>hk.elim) ?aF ?aO ?aB ?aS ?aL ?_;(case aP=>exact rfl);(case aB=>exact (az HB dI));(case aF=>exact (fun k_ hk=>Kd.gI (Kd.ji (dH cG)) k_ hk));(case aO=>exact (dH rM));(case aS=>exact (aX (az HB dI)));(case aL=>have:=PL.out;omega);intro Mp Zf ho hb hg eC;rw [←Pz.out] at ho;replace cw:=ak (ej (dm cw) hg (Kd.mS rM.out cw.out (by decide)));replace HB:=ak (hb);replace mU:=ak ((show Kd.C Kd.string Zf (some gL) ko.length ko from by rw [nT.out];exact Kd.ir (m:=(cr:Int).toNat) ((Kd.aJ (Kd.cF (ok:=(fun _=>True)) (dH cG) hg eC)).2.2) zW.out));replace cG:=ak (Kd.cF (ok:=(fun _=>True)) (dH cG) hg eC);have rL:=ak (ho);clear rM;clear ho hb hg eC;have M7:(cr:Int)≤((bU.length:Int):Int):=da;obtain ⟨aaY,wJ,_,wE,_⟩:=info_parts fu;have l6:bU.length≤kz:=(Kd.aJ cG.out).2.1;have EW:Kd.C Kd.string _ (some gL) bU.length bU:=(Kd.aJ cG.out).2.2;have Nb:(0:Int)≤(cr:Int):=da;have zc:=o4 (P:=Tryz.prog) 62 9 .i64 Tryz.underlying62 wJ 1 wE (some gL) bU.length kz cr Nb M7;have qR:=Kd.m9 (m:=(cr:Int).toNat) (c:=kz) EW (by omega) l6;obtain ⟨Va,uE⟩:∃A1,A1=(if kz=(cr:Int).toNat then (some gL) else ((some gL):Option Addr).map (·.add ((cr:Int).toNat*1))):=⟨_,rfl⟩;obtain ⟨DG,zh⟩:∃c1,c1=kz-(cr:Int).toNat:=⟨_,rfl⟩;have ua:jm.length=bU.length-(cr:Int).toNat:=(by rw [uV.out,List.length_drop]<;>omega);rw [show (bU).drop (cr:Int).toNat=jm from uV.out.symm] at qR;replace qR:Kd.C Kd.string _ Va jm.length jm:=(by rw [uE];exact qR);rw [←ua,←uE,←zh] at zc;have rH:=ak qR;have U2:=ak (show jm.length≤DG from by rw [ua,zh];exact Nat.sub_le_sub_right l6 _);clear qR EW l6 wJ wE zh;have adF:=ak ua;have PT:=ak uE;clear ua uE;have PR:=ak (show (cr:Int).toNat≤bU.length from by omega);replace M7:=eq_true M7)|((with_reducible refine bw (b:= .append) (xs:= #[.tmp 57,.tmp 60]) rfl ?_);at_builtin;refine Kd.cH Kd.string (w0:=w) w.heap.size rfl (.tmp 57) (.tmp 60) 62 9 (.string ⟨#[]⟩) 16 rfl Tryz.underlying62 fu rfl (by decide) (by omega) Mp oK jm _ _ _ (fun k_=>some k_≠(.slice (some gL) bU.length kz:Value).ownBlock) (fun _=>False) rfl rfl ?aO ?aR (fun _ _ h=>h) (fun _ h=>h.elim) ?aF ?aB ?aS ?aL ?_;(case aR=>exact cd (by repeat (first|(with_reducible exact rH.out)|(with_reducible refine Kd.kS ?_ _)|(with_reducible refine Kd.kR ?_ _)|(with_reducible refine Kd.mG ?_)|exact rH.out)));(case aB=>exact (az HB dI));(case aF=>exact (fun k_ hk=>Kd.gI (Kd.ji (dH cG)) k_ hk));(case aO=>exact (dH rL));(case aS=>exact (aX (az HB dI)));(case aL=>have:=PK.out;omega);intro aae Qz ho hb hg eC;rw [←Py.out] at ho;replace cw:=ak (ej (dm cw) hg (Kd.mS rL.out cw.out (by decide)));replace HB:=ak (hb);replace mU:=ak ((show Kd.C Kd.string Qz (some gL) ko.length ko from by rw [nT.out];exact Kd.ir (m:=(cr:Int).toNat) ((Kd.aJ (Kd.cF (ok:=(fun _=>True)) (dH cG) hg eC)).2.2) zW.out));replace rH:=ak ((show Kd.C Kd.string Qz Va jm.length jm from by rw [uV.out,PT.out];exact Kd.m9 (m:=(cr:Int).toNat) (c:=kz) ((Kd.aJ (Kd.cF (ok:=(fun _=>True)) (dH cG) hg eC)).2.2) PR.out ((Kd.aJ (Kd.cF (ok:=(fun _=>True)) (dH cG) hg eC)).2.1)));replace cG:=ak (Kd.cF (ok:=(fun _=>True)) (dH cG) hg eC);have P1:=ak (ho);clear rL;clear ho hb hg eC))
           repeat (go_quiet (first|((with_reducible refine av (N:=48) rfl ?_);refine Kd.gD Kd.string _ 9 ?hg (N:=48) ?hd (xs:=([]:List ByteArray)) (inner:=[]) (ok:=fun _=>True) (okp:=fun _=>True) ?hr ?hp (fun _ hk=>hk) trivial (Below.refl _ _) (Nat.le_refl _) (by simp) ?_;(case hd=>rfl);(case hg=>rfl);(case hr=>exact rZ);(case hp=>exact (bT.none _ _));intro Mr w35 oX hb bK dP;clear bK dP;(first|rw [←BQ.out] at oX|(simp only [Int.reduceToNat] at oX;rw [←BQ.out] at oX));have rN:=ak (Kd.dz (Kd.l9 oX (Kd.ji (dH cG))) (aX (az HB dI)));replace cG:=ak (Kd.iX (dH cG) (Kd.j3 oX) hb);replace cw:=ak (cW (dm cw) hb);replace HB:=ak (aH (az HB dI) hb);clear hb oX;have M8:(cr:Int)≤((bU.length:Int):Int):=da;obtain ⟨aaZ,wK,_,EO,_⟩:=info_parts fu;have ot:bU.length≤kz:=(Kd.aJ cG.out).2.1;have EX:Kd.C Kd.string _ (some gL) bU.length bU:=(Kd.aJ cG.out).2.2;have ze:=vP (P:=Tryz.prog) 62 9 .i64 Tryz.underlying62 wK (some gL) bU.length kz cr (da) M8 ot;have y6:=Kd.ir (m:=(cr:Int).toNat) EX (by omega);have y4:ko.length=(cr:Int).toNat:=(by rw [nT.out,List.length_take];omega);rw [←nT.out] at y6;rw [←y4] at ze;have mU:=ak y6;have U3:=ak (show ko.length≤kz from by omega);clear y6 EX ot wK EO;have adG:=ak y4;clear y4;have zW:=ak (show (cr:Int).toNat≤bU.length from by omega);replace M8:=eq_true M8)|((with_reducible refine bw (b:= .append) (xs:= #[.tmp 48,.tmp 51]) rfl ?_);at_builtin;refine Kd.cH Kd.string (w0:=w) w.heap.size rfl (.tmp 48) (.tmp 51) 62 9 (.string ⟨#[]⟩) 16 rfl Tryz.underlying62 fu rfl (by decide) (by omega) Mr yh ko _ _ _ (fun k_=>some k_≠(.slice (some gL) bU.length kz:Value).ownBlock) (fun _=>False) rfl rfl ?aO ?aR (fun _ _ h=>h) (fun _ h=>h.elim) ?aF ?aB ?aS ?aL ?_;(case aR=>exact cd (by repeat (first|(with_reducible exact mU.out)|(with_reducible refine Kd.kS ?_ _)|(with_reducible refine Kd.kR ?_ _)|(with_reducible refine Kd.mG ?_)|exact mU.out)));(case aB=>exact (az HB dI));(case aF=>exact (fun k_ hk=>Kd.gI (Kd.ji (dH cG)) k_ hk));(case aO=>exact (by (with_reducible repeat (first|apply Kd.cz|apply Kd.cy|apply Kd.cD));exact Kd.bJ rN.out (fun _ hk=>hk.2)));(case aS=>exact (aX (az HB dI)));(case aL=>have:=PM.out;omega);intro Mq Zg ho hb hg eC;rw [←PA.out] at ho;replace cw:=ak (ej (dm cw) hg (Kd.mS rN.out cw.out (by decide)));replace HB:=ak (hb);replace mU:=ak ((show Kd.C Kd.string Zg (some gL) ko.length ko from by rw [nT.out];exact Kd.ir (m:=(cr:Int).toNat) ((Kd.aJ (Kd.cF (ok:=(fun _=>True)) (dH cG) hg eC)).2.2) zW.out));replace cG:=ak (Kd.cF (ok:=(fun _=>True)) (dH cG) hg eC);have rM:=ak (ho);clear rN;clear ho hb hg eC)|((with_reducible refine bw (b:= .append) (xs:= #[.tmp 53,.tmp 55]) rfl ?_);at_builtin;refine Kd.ig Kd.string (w0:=w) w.heap.size rfl (.tmp 53) (.tmp 55) 62 9 (.string ⟨#[]⟩) 16 rfl Tryz.underlying62 fu rfl (by decide) (by omega) Mq sV (aQ ByteArray.empty (aN aM a1) eE) [.string (aQ ByteArray.empty (aN aM a1) eE)] (fun k_=>some k_≠(.slice (some gL) bU.length kz:Value).ownBlock) (fun _=>False) rfl rfl ?aP (fun _ hk=>hk.elim) ?aF ?aO ?aB ?aS ?aL ?_;(case aP=>exact rfl);(case aB=>exact (az HB dI));(case aF=>exact (fun k_ hk=>Kd.gI (Kd.ji (dH cG)) k_ hk));(case aO=>exact (dH rM));(case aS=>exact (aX (az HB dI)));(case aL=>have:=PL.out;omega);intro Mp Zf ho hb hg eC;rw [←Pz.out] at ho;replace cw:=ak (ej (dm cw) hg (Kd.mS rM.out cw.out (by decide)));replace HB:=ak (hb);replace mU:=ak ((show Kd.C Kd.string Zf (some gL) ko.length ko from by rw [nT.out];exact Kd.ir (m:=(cr:Int).toNat) ((Kd.aJ (Kd.cF (ok:=(fun _=>True)) (dH cG) hg eC)).2.2) zW.out));replace cG:=ak (Kd.cF (ok:=(fun _=>True)) (dH cG) hg eC);have rL:=ak (ho);clear rM;clear ho hb hg eC;have M7:(cr:Int)≤((bU.length:Int):Int):=da;obtain ⟨aaY,wJ,_,wE,_⟩:=info_parts fu;have l6:bU.length≤kz:=(Kd.aJ cG.out).2.1;have EW:Kd.C Kd.string _ (some gL) bU.length bU:=(Kd.aJ cG.out).2.2;have Nb:(0:Int)≤(cr:Int):=da;have zc:=o4 (P:=Tryz.prog) 62 9 .i64 Tryz.underlying62 wJ 1 wE (some gL) bU.length kz cr Nb M7;have qR:=Kd.m9 (m:=(cr:Int).toNat) (c:=kz) EW (by omega) l6;obtain ⟨Va,uE⟩:∃A1,A1=(if kz=(cr:Int).toNat then (some gL) else ((some gL):Option Addr).map (·.add ((cr:Int).toNat*1))):=⟨_,rfl⟩;obtain ⟨DG,zh⟩:∃c1,c1=kz-(cr:Int).toNat:=⟨_,rfl⟩;have ua:jm.length=bU.length-(cr:Int).toNat:=(by rw [uV.out,List.length_drop]<;>omega);rw [show (bU).drop (cr:Int).toNat=jm from uV.out.symm] at qR;replace qR:Kd.C Kd.string _ Va jm.length jm:=(by rw [uE];exact qR);rw [←ua,←uE,←zh] at zc;have rH:=ak qR;have U2:=ak (show jm.length≤DG from by rw [ua,zh];exact Nat.sub_le_sub_right l6 _);clear qR EW l6 wJ wE zh;have adF:=ak ua;have PT:=ak uE;clear ua uE;have PR:=ak (show (cr:Int).toNat≤bU.length from by omega);replace M7:=eq_true M7)|((with_reducible refine bw (b:= .append) (xs:= #[.tmp 57,.tmp 60]) rfl ?_);at_builtin;refine Kd.cH Kd.string (w0:=w) w.heap.size rfl (.tmp 57) (.tmp 60) 62 9 (.string ⟨#[]⟩) 16 rfl Tryz.underlying62 fu rfl (by decide) (by omega) Mp oK jm _ _ _ (fun k_=>some k_≠(.slice (some gL) bU.length kz:Value).ownBlock) (fun _=>False) rfl rfl ?aO ?aR (fun _ _ h=>h) (fun _ h=>h.elim) ?aF ?aB ?aS ?aL ?_;(case aR=>exact cd (by repeat (first|(with_reducible exact rH.out)|(with_reducible refine Kd.kS ?_ _)|(with_reducible refine Kd.kR ?_ _)|(with_reducible refine Kd.mG ?_)|exact rH.out)));(case aB=>exact (az HB dI));(case aF=>exact (fun k_ hk=>Kd.gI (Kd.ji (dH cG)) k_ hk));(case aO=>exact (dH rL));(case aS=>exact (aX (az HB dI)));(case aL=>have:=PK.out;omega);intro aae Qz ho hb hg eC;rw [←Py.out] at ho;replace cw:=ak (ej (dm cw) hg (Kd.mS rL.out cw.out (by decide)));replace HB:=ak (hb);replace mU:=ak ((show Kd.C Kd.string Qz (some gL) ko.length ko from by rw [nT.out];exact Kd.ir (m:=(cr:Int).toNat) ((Kd.aJ (Kd.cF (ok:=(fun _=>True)) (dH cG) hg eC)).2.2) zW.out));replace rH:=ak ((show Kd.C Kd.string Qz Va jm.length jm from by rw [uV.out,PT.out];exact Kd.m9 (m:=(cr:Int).toNat) (c:=kz) ((Kd.aJ (Kd.cF (ok:=(fun _=>True)) (dH cG) hg eC)).2.2) PR.out ((Kd.aJ (Kd.cF (ok:=(fun _=>True)) (dH cG) hg eC)).2.1)));replace cG:=ak (Kd.cF (ok:=(fun _=>True)) (dH cG) hg eC);have P1:=ak (ho);clear rL;clear ho hb hg eC));try go_wp2_with (first|((with_reducible refine av (N:=48) rfl ?_);refine Kd.gD Kd.string _ 9 ?hg (N:=48) ?hd (xs:=([]:List ByteArray)) (inner:=[]) (ok:=fun _=>True) (okp:=fun _=>True) ?hr ?hp (fun _ hk=>hk) trivial (Below.refl _ _) (Nat.le_refl _) (by simp) ?_;(case hd=>rfl);(case hg=>rfl);(case hr=>exact rZ);(case hp=>exact (bT.none _ _));intro Mr w35 oX hb bK dP;clear bK dP;(first|rw [←BQ.out] at oX|(simp only [Int.reduceToNat] at oX;rw [←BQ.out] at oX));have rN:=ak (Kd.dz (Kd.l9 oX (Kd.ji (dH cG))) (aX (az HB dI)));replace cG:=ak (Kd.iX (dH cG) (Kd.j3 oX) hb);replace cw:=ak (cW (dm cw) hb);replace HB:=ak (aH (az HB dI) hb);clear hb oX;have M8:(cr:Int)≤((bU.length:Int):Int):=da;obtain ⟨aaZ,wK,_,EO,_⟩:=info_parts fu;have ot:bU.length≤kz:=(Kd.aJ cG.out).2.1;have EX:Kd.C Kd.string _ (some gL) bU.length bU:=(Kd.aJ cG.out).2.2;have ze:=vP (P:=Tryz.prog) 62 9 .i64 Tryz.underlying62 wK (some gL) bU.length kz cr (da) M8 ot;have y6:=Kd.ir (m:=(cr:Int).toNat) EX (by omega);have y4:ko.length=(cr:Int).toNat:=(by rw [nT.out,List.length_take];omega);rw [←nT.out] at y6;rw [←y4] at ze;have mU:=ak y6;have U3:=ak (show ko.length≤kz from by omega);clear y6 EX ot wK EO;have adG:=ak y4;clear y4;have zW:=ak (show (cr:Int).toNat≤bU.length from by omega);replace M8:=eq_true M8)|((with_reducible refine bw (b:= .append) (xs:= #[.tmp 48,.tmp 51]) rfl ?_);at_builtin;refine Kd.cH Kd.string (w0:=w) w.heap.size rfl (.tmp 48) (.tmp 51) 62 9 (.string ⟨#[]⟩) 16 rfl Tryz.underlying62 fu rfl (by decide) (by omega) Mr yh ko _ _ _ (fun k_=>some k_≠(.slice (some gL) bU.length kz:Value).ownBlock) (fun _=>False) rfl rfl ?aO ?aR (fun _ _ h=>h) (fun _ h=>h.elim) ?aF ?aB ?aS ?aL ?_;(case aR=>exact cd (by repeat (first|(with_reducible exact mU.out)|(with_reducible refine Kd.kS ?_ _)|(with_reducible refine Kd.kR ?_ _)|(with_reducible refine Kd.mG ?_)|exact mU.out)));(case aB=>exact (az HB dI));(case aF=>exact (fun k_ hk=>Kd.gI (Kd.ji (dH cG)) k_ hk));(case aO=>exact (by (with_reducible repeat (first|apply Kd.cz|apply Kd.cy|apply Kd.cD));exact Kd.bJ rN.out (fun _ hk=>hk.2)));(case aS=>exact (aX (az HB dI)));(case aL=>have:=PM.out;omega);intro Mq Zg ho hb hg eC;rw [←PA.out] at ho;replace cw:=ak (ej (dm cw) hg (Kd.mS rN.out cw.out (by decide)));replace HB:=ak (hb);replace mU:=ak ((show Kd.C Kd.string Zg (some gL) ko.length ko from by rw [nT.out];exact Kd.ir (m:=(cr:Int).toNat) ((Kd.aJ (Kd.cF (ok:=(fun _=>True)) (dH cG) hg eC)).2.2) zW.out));replace cG:=ak (Kd.cF (ok:=(fun _=>True)) (dH cG) hg eC);have rM:=ak (ho);clear rN;clear ho hb hg eC)|((with_reducible refine bw (b:= .append) (xs:= #[.tmp 53,.tmp 55]) rfl ?_);at_builtin;refine Kd.ig Kd.string (w0:=w) w.heap.size rfl (.tmp 53) (.tmp 55) 62 9 (.string ⟨#[]⟩) 16 rfl Tryz.underlying62 fu rfl (by decide) (by omega) Mq sV (aQ ByteArray.empty (aN aM a1) eE) [.string (aQ ByteArray.empty (aN aM a1) eE)] (fun k_=>some k_≠(.slice (some gL) bU.length kz:Value).ownBlock) (fun _=>False) rfl rfl ?aP (fun _ hk=>hk.elim) ?aF ?aO ?aB ?aS ?aL ?_;(case aP=>exact rfl);(case aB=>exact (az HB dI));(case aF=>exact (fun k_ hk=>Kd.gI (Kd.ji (dH cG)) k_ hk));(case aO=>exact (dH rM));(case aS=>exact (aX (az HB dI)));(case aL=>have:=PL.out;omega);intro Mp Zf ho hb hg eC;rw [←Pz.out] at ho;replace cw:=ak (ej (dm cw) hg (Kd.mS rM.out cw.out (by decide)));replace HB:=ak (hb);replace mU:=ak ((show Kd.C Kd.string Zf (some gL) ko.length ko from by rw [nT.out];exact Kd.ir (m:=(cr:Int).toNat) ((Kd.aJ (Kd.cF (ok:=(fun _=>True)) (dH cG) hg eC)).2.2) zW.out));replace cG:=ak (Kd.cF (ok:=(fun _=>True)) (dH cG) hg eC);have rL:=ak (ho);clear rM;clear ho hb hg eC;have M7:(cr:Int)≤((bU.length:Int):Int):=da;obtain ⟨aaY,wJ,_,wE,_⟩:=info_parts fu;have l6:bU.length≤kz:=(Kd.aJ cG.out).2.1;have EW:Kd.C Kd.string _ (some gL) bU.length bU:=(Kd.aJ cG.out).2.2;have Nb:(0:Int)≤(cr:Int):=da;have zc:=o4 (P:=Tryz.prog) 62 9 .i64 Tryz.underlying62 wJ 1 wE (some gL) bU.length kz cr Nb M7;have qR:=Kd.m9 (m:=(cr:Int).toNat) (c:=kz) EW (by omega) l6;obtain ⟨Va,uE⟩:∃A1,A1=(if kz=(cr:Int).toNat then (some gL) else ((some gL):Option Addr).map (·.add ((cr:Int).toNat*1))):=⟨_,rfl⟩;obtain ⟨DG,zh⟩:∃c1,c1=kz-(cr:Int).toNat:=⟨_,rfl⟩;have ua:jm.length=bU.length-(cr:Int).toNat:=(by rw [uV.out,List.length_drop]<;>omega);rw [show (bU).drop (cr:Int).toNat=jm from uV.out.symm] at qR;replace qR:Kd.C Kd.string _ Va jm.length jm:=(by rw [uE];exact qR);rw [←ua,←uE,←zh] at zc;have rH:=ak qR;have U2:=ak (show jm.length≤DG from by rw [ua,zh];exact Nat.sub_le_sub_right l6 _);clear qR EW l6 wJ wE zh;have adF:=ak ua;have PT:=ak uE;clear ua uE;have PR:=ak (show (cr:Int).toNat≤bU.length from by omega);replace M7:=eq_true M7)|((with_reducible refine bw (b:= .append) (xs:= #[.tmp 57,.tmp 60]) rfl ?_);at_builtin;refine Kd.cH Kd.string (w0:=w) w.heap.size rfl (.tmp 57) (.tmp 60) 62 9 (.string ⟨#[]⟩) 16 rfl Tryz.underlying62 fu rfl (by decide) (by omega) Mp oK jm _ _ _ (fun k_=>some k_≠(.slice (some gL) bU.length kz:Value).ownBlock) (fun _=>False) rfl rfl ?aO ?aR (fun _ _ h=>h) (fun _ h=>h.elim) ?aF ?aB ?aS ?aL ?_;(case aR=>exact cd (by repeat (first|(with_reducible exact rH.out)|(with_reducible refine Kd.kS ?_ _)|(with_reducible refine Kd.kR ?_ _)|(with_reducible refine Kd.mG ?_)|exact rH.out)));(case aB=>exact (az HB dI));(case aF=>exact (fun k_ hk=>Kd.gI (Kd.ji (dH cG)) k_ hk));(case aO=>exact (dH rL));(case aS=>exact (aX (az HB dI)));(case aL=>have:=PK.out;omega);intro aae Qz ho hb hg eC;rw [←Py.out] at ho;replace cw:=ak (ej (dm cw) hg (Kd.mS rL.out cw.out (by decide)));replace HB:=ak (hb);replace mU:=ak ((show Kd.C Kd.string Qz (some gL) ko.length ko from by rw [nT.out];exact Kd.ir (m:=(cr:Int).toNat) ((Kd.aJ (Kd.cF (ok:=(fun _=>True)) (dH cG) hg eC)).2.2) zW.out));replace rH:=ak ((show Kd.C Kd.string Qz Va jm.length jm from by rw [uV.out,PT.out];exact Kd.m9 (m:=(cr:Int).toNat) (c:=kz) ((Kd.aJ (Kd.cF (ok:=(fun _=>True)) (dH cG) hg eC)).2.2) PR.out ((Kd.aJ (Kd.cF (ok:=(fun _=>True)) (dH cG) hg eC)).2.1)));replace cG:=ak (Kd.cF (ok:=(fun _=>True)) (dH cG) hg eC);have P1:=ak (ho);clear rL;clear ho hb hg eC)))
           go_roundg k3
           case measure=>have:=UZ.out;have:=kg.out;have:=yd.out;omega
           case rel=>exact ⟨(ZI),(wrap64 (eE+1)),er,H',⟨by have:=UZ.out;have:=kg.out;have:=yd.out;omega⟩,⟨by (with_reducible repeat (first|apply Kd.cz|apply Kd.cy|apply Kd.cD));exact Kd.bJ P1.out (fun _ hk=>trivial)⟩,⟨dm cw⟩,⟨az HB dI⟩⟩
         ·rw [if_neg LJ] at H
          have O0:=decide_eq_false LJ
          clear LJ
          obtain ⟨yg,ez⟩:∃y_:List ByteArray,y_=(([]:List ByteArray)):=⟨_,rfl⟩
          replace H:(if 0≤cr then (if cr≤(bU.length:Int) then ((some (bU.take (cr:Int).toNat:List ByteArray)).bind fun kj=>(if yg.length+kj.length<8796093022208 then ((some (yg++kj:List ByteArray)).bind fun sU=>(if sU.length<8796093022208 then ((some (sU++[(aQ ByteArray.empty (aN aM a1) eE)]:List ByteArray)).bind fun oJ=>((some (bU.drop (cr:Int).toNat:List ByteArray)).bind fun jl=>(if oJ.length+jl.length<8796093022208 then (aT.l0 k3 (oJ++jl) (aN aM a1) ((aN aM a1).length:Int) (wrap64 (eE+1))) else (none)))) else (none))) else (none))) else (none)) else (none))=some (r1,r2):=yH
          have BP:=ak ez;clear ez;replace H:=dy H;obtain ⟨SB,H⟩:=H;have OT:=eq_true SB
          have aix:decide (0≤cr)=true:=decide_eq_true SB
          clear SB;replace H:=dy H;obtain ⟨Fh,H⟩:=H;have JH:=eq_true Fh
          have Ub:decide (cr≤(bU.length:Int))=true:=decide_eq_true Fh
          clear Fh
          obtain ⟨kj,ez⟩:∃y_:List ByteArray,y_=(bU.take (cr:Int).toNat):=⟨_,rfl⟩
          replace H:(if yg.length+kj.length<8796093022208 then ((some (yg++kj:List ByteArray)).bind fun sU=>(if sU.length<8796093022208 then ((some (sU++[(aQ ByteArray.empty (aN aM a1) eE)]:List ByteArray)).bind fun oJ=>((some (bU.drop (cr:Int).toNat:List ByteArray)).bind fun jl=>(if oJ.length+jl.length<8796093022208 then (aT.l0 k3 (oJ++jl) (aN aM a1) ((aN aM a1).length:Int) (wrap64 (eE+1))) else (none)))) else (none))) else (none))=some (r1,r2):=yH
          have nS:=ak ez;clear ez;replace H:=dy H;obtain ⟨Me,H⟩:=H;have PJ:=ak Me;clear Me
          obtain ⟨sU,ez⟩:∃y_:List ByteArray,y_=(yg++kj):=⟨_,rfl⟩
          replace H:(if sU.length<8796093022208 then ((some (sU++[(aQ ByteArray.empty (aN aM a1) eE)]:List ByteArray)).bind fun oJ=>((some (bU.drop (cr:Int).toNat:List ByteArray)).bind fun jl=>(if oJ.length+jl.length<8796093022208 then (aT.l0 k3 (oJ++jl) (aN aM a1) ((aN aM a1).length:Int) (wrap64 (eE+1))) else (none)))) else (none))=some (r1,r2):=yH
          have Px:=ak ez;clear ez;replace H:=dy H;obtain ⟨Qr,H⟩:=H;have PI:=ak Qr;clear Qr
          obtain ⟨oJ,ez⟩:∃y_:List ByteArray,y_=(sU++[(aQ ByteArray.empty (aN aM a1) eE)]):=⟨_,rfl⟩
          replace H:((some (bU.drop (cr:Int).toNat:List ByteArray)).bind fun jl=>(if oJ.length+jl.length<8796093022208 then (aT.l0 k3 (oJ++jl) (aN aM a1) ((aN aM a1).length:Int) (wrap64 (eE+1))) else (none)))=some (r1,r2):=yH
          have Pw:=ak ez;clear ez
          have ab3:=eq_true (da:0≤cr)
          have ab2:=eq_true (da:cr≤(bU.length:Int))
          obtain ⟨jl,ez⟩:∃y_:List ByteArray,y_=(bU.drop (cr:Int).toNat):=⟨_,rfl⟩
          replace H:(if oJ.length+jl.length<8796093022208 then (aT.l0 k3 (oJ++jl) (aN aM a1) ((aN aM a1).length:Int) (wrap64 (eE+1))) else (none))=some (r1,r2):=yH
          have uU:=ak ez;clear ez;replace H:=dy H;obtain ⟨Md,H⟩:=H;have PG:=ak Md;clear Md
          obtain ⟨ZH,ez⟩:∃y_:List ByteArray,y_=(oJ++jl):=⟨_,rfl⟩
          replace H:(aT.l0 k3 ZH (aN aM a1) ((aN aM a1).length:Int) (wrap64 (eE+1)))=some (r1,r2):=yH
          have Pv:=ak ez;clear ez
          have H':=ak H
          clear H
          obtain ⟨kC,ku,agN⟩:=Kd.de cG.out
          subst agN
          go_wp2_with (first|((with_reducible refine av (N:=48) rfl ?_);refine Kd.gD Kd.string _ 9 ?hg (N:=48) ?hd (xs:=([]:List ByteArray)) (inner:=[]) (ok:=fun _=>True) (okp:=fun _=>True) ?hr ?hp (fun _ hk=>hk) trivial (Below.refl _ _) (Nat.le_refl _) (by simp) ?_;(case hd=>rfl);(case hg=>rfl);(case hr=>exact rZ);(case hp=>exact (bT.none _ _));intro Mo w50 oW hb bK dP;clear bK dP;(first|rw [←BP.out] at oW|(simp only [Int.reduceToNat] at oW;rw [←BP.out] at oW));have rK:=ak (Kd.dz (Kd.l9 oW (Kd.ji (dH cG))) (aX (az HB dI)));replace cG:=ak (Kd.iX (dH cG) (Kd.j3 oW) hb);replace cw:=ak (cW (dm cw) hb);replace HB:=ak (aH (az HB dI) hb);clear hb oW;have M6:(cr:Int)≤((bU.length:Int):Int):=da;obtain ⟨aaX,wI,_,EN,_⟩:=info_parts fu;have oq:bU.length≤ku:=(Kd.aJ cG.out).2.1;have EV:Kd.C Kd.string _ kC bU.length bU:=(Kd.aJ cG.out).2.2;have za:=vP (P:=Tryz.prog) 62 9 .i64 Tryz.underlying62 wI kC bU.length ku cr (da) M6 oq;have y5:=Kd.ir (m:=(cr:Int).toNat) EV (by omega);have yZ:kj.length=(cr:Int).toNat:=(by rw [nS.out,List.length_take];omega);rw [←nS.out] at y5;rw [←yZ] at za;have mT:=ak y5;have U1:=ak (show kj.length≤ku from by omega);clear y5 EV oq wI EN;have adE:=ak yZ;clear yZ;have zV:=ak (show (cr:Int).toNat≤bU.length from by omega);replace M6:=eq_true M6)|((with_reducible refine bw (b:= .append) (xs:= #[.tmp 48,.tmp 51]) rfl ?_);at_builtin;refine Kd.cH Kd.string (w0:=w) w.heap.size rfl (.tmp 48) (.tmp 51) 62 9 (.string ⟨#[]⟩) 16 rfl Tryz.underlying62 fu rfl (by decide) (by omega) Mo yg kj _ _ _ (fun k_=>some k_≠(.slice kC bU.length ku:Value).ownBlock) (fun _=>False) rfl rfl ?aO ?aR (fun _ _ h=>h) (fun _ h=>h.elim) ?aF ?aB ?aS ?aL ?_;(case aR=>exact cd (by repeat (first|(with_reducible exact mT.out)|(with_reducible refine Kd.kS ?_ _)|(with_reducible refine Kd.kR ?_ _)|(with_reducible refine Kd.mG ?_)|exact mT.out)));(case aB=>exact (az HB dI));(case aF=>exact (fun k_ hk=>Kd.gI (Kd.ji (dH cG)) k_ hk));(case aO=>exact (by (with_reducible repeat (first|apply Kd.cz|apply Kd.cy|apply Kd.cD));exact Kd.bJ rK.out (fun _ hk=>hk.2)));(case aS=>exact (aX (az HB dI)));(case aL=>have:=PJ.out;omega);intro Mn Ze ho hb hg eC;rw [←Px.out] at ho;replace cw:=ak (ej (dm cw) hg (Kd.mS rK.out cw.out (by decide)));replace HB:=ak (hb);replace mT:=ak ((show Kd.C Kd.string Ze kC kj.length kj from by rw [nS.out];exact Kd.ir (m:=(cr:Int).toNat) ((Kd.aJ (Kd.cF (ok:=(fun _=>True)) (dH cG) hg eC)).2.2) zV.out));replace cG:=ak (Kd.cF (ok:=(fun _=>True)) (dH cG) hg eC);have rJ:=ak (ho);clear rK;clear ho hb hg eC)|((with_reducible refine bw (b:= .append) (xs:= #[.tmp 53,.tmp 55]) rfl ?_);at_builtin;refine Kd.ig Kd.string (w0:=w) w.heap.size rfl (.tmp 53) (.tmp 55) 62 9 (.string ⟨#[]⟩) 16 rfl Tryz.underlying62 fu rfl (by decide) (by omega) Mn sU (aQ ByteArray.empty (aN aM a1) eE) [.string (aQ ByteArray.empty (aN aM a1) eE)] (fun k_=>some k_≠(.slice kC bU.length ku:Value).ownBlock) (fun _=>False) rfl rfl ?aP (fun _ hk=>hk.elim) ?aF ?aO ?aB ?aS ?aL ?_;(case aP=>exact rfl);(case aB=>exact (az HB dI));(case aF=>exact (fun k_ hk=>Kd.gI (Kd.ji (dH cG)) k_ hk));(case aO=>exact (dH rJ));(case aS=>exact (aX (az HB dI)));(case aL=>have:=PI.out;omega);intro Mm w54 ho hb hg eC;rw [←Pw.out] at ho;replace cw:=ak (ej (dm cw) hg (Kd.mS rJ.out cw.out (by decide)));replace HB:=ak (hb);replace mT:=ak ((show Kd.C Kd.string w54 kC kj.length kj from by rw [nS.out];exact Kd.ir (m:=(cr:Int).toNat) ((Kd.aJ (Kd.cF (ok:=(fun _=>True)) (dH cG) hg eC)).2.2) zV.out));replace cG:=ak (Kd.cF (ok:=(fun _=>True)) (dH cG) hg eC);have rI:=ak (ho);clear rJ;clear ho hb hg eC;have M5:(cr:Int)≤((bU.length:Int):Int):=da;obtain ⟨aaW,wH,_,wD,_⟩:=info_parts fu;have l5:bU.length≤ku:=(Kd.aJ cG.out).2.1;have EU:Kd.C Kd.string _ kC bU.length bU:=(Kd.aJ cG.out).2.2;have Na:(0:Int)≤(cr:Int):=da;have y9:=o4 (P:=Tryz.prog) 62 9 .i64 Tryz.underlying62 wH 1 wD kC bU.length ku cr Na M5;have qQ:=Kd.m9 (m:=(cr:Int).toNat) (c:=ku) EU (by omega) l5;obtain ⟨U9,uD⟩:∃A1,A1=(if ku=(cr:Int).toNat then kC else (kC:Option Addr).map (·.add ((cr:Int).toNat*1))):=⟨_,rfl⟩;obtain ⟨c55,zg⟩:∃c1,c1=ku-(cr:Int).toNat:=⟨_,rfl⟩;have tZ:jl.length=bU.length-(cr:Int).toNat:=(by rw [uU.out,List.length_drop]<;>omega);rw [show (bU).drop (cr:Int).toNat=jl from uU.out.symm] at qQ;replace qQ:Kd.C Kd.string _ U9 jl.length jl:=(by rw [uD];exact qQ);rw [←tZ,←uD,←zg] at y9;have rG:=ak qQ;have U0:=ak (show jl.length≤c55 from by rw [tZ,zg];exact Nat.sub_le_sub_right l5 _);clear qQ EU l5 wH wD zg;have adD:=ak tZ;have PS:=ak uD;clear tZ uD;have PO:=ak (show (cr:Int).toNat≤bU.length from by omega);replace M5:=eq_true M5)|((with_reducible refine bw (b:= .append) (xs:= #[.tmp 57,.tmp 60]) rfl ?_);at_builtin;refine Kd.cH Kd.string (w0:=w) w.heap.size rfl (.tmp 57) (.tmp 60) 62 9 (.string ⟨#[]⟩) 16 rfl Tryz.underlying62 fu rfl (by decide) (by omega) Mm oJ jl _ _ _ (fun k_=>some k_≠(.slice kC bU.length ku:Value).ownBlock) (fun _=>False) rfl rfl ?aO ?aR (fun _ _ h=>h) (fun _ h=>h.elim) ?aF ?aB ?aS ?aL ?_;(case aR=>exact cd (by repeat (first|(with_reducible exact rG.out)|(with_reducible refine Kd.kS ?_ _)|(with_reducible refine Kd.kR ?_ _)|(with_reducible refine Kd.mG ?_)|exact rG.out)));(case aB=>exact (az HB dI));(case aF=>exact (fun k_ hk=>Kd.gI (Kd.ji (dH cG)) k_ hk));(case aO=>exact (dH rI));(case aS=>exact (aX (az HB dI)));(case aL=>have:=PG.out;omega);intro aad Th ho hb hg eC;rw [←Pv.out] at ho;replace cw:=ak (ej (dm cw) hg (Kd.mS rI.out cw.out (by decide)));replace HB:=ak (hb);replace mT:=ak ((show Kd.C Kd.string Th kC kj.length kj from by rw [nS.out];exact Kd.ir (m:=(cr:Int).toNat) ((Kd.aJ (Kd.cF (ok:=(fun _=>True)) (dH cG) hg eC)).2.2) zV.out));replace rG:=ak ((show Kd.C Kd.string Th U9 jl.length jl from by rw [uU.out,PS.out];exact Kd.m9 (m:=(cr:Int).toNat) (c:=ku) ((Kd.aJ (Kd.cF (ok:=(fun _=>True)) (dH cG) hg eC)).2.2) PO.out ((Kd.aJ (Kd.cF (ok:=(fun _=>True)) (dH cG) hg eC)).2.1)));replace cG:=ak (Kd.cF (ok:=(fun _=>True)) (dH cG) hg eC);have P0:=ak (ho);clear rI;clear ho hb hg eC))
          repeat (go_quiet (first|((with_reducible refine av (N:=48) rfl ?_);refine Kd.gD Kd.string _ 9 ?hg (N:=48) ?hd (xs:=([]:List ByteArray)) (inner:=[]) (ok:=fun _=>True) (okp:=fun _=>True) ?hr ?hp (fun _ hk=>hk) trivial (Below.refl _ _) (Nat.le_refl _) (by simp) ?_;(case hd=>rfl);(case hg=>rfl);(case hr=>exact rZ);(case hp=>exact (bT.none _ _));intro Mo w50 oW hb bK dP;clear bK dP;(first|rw [←BP.out] at oW|(simp only [Int.reduceToNat] at oW;rw [←BP.out] at oW));have rK:=ak (Kd.dz (Kd.l9 oW (Kd.ji (dH cG))) (aX (az HB dI)));replace cG:=ak (Kd.iX (dH cG) (Kd.j3 oW) hb);replace cw:=ak (cW (dm cw) hb);replace HB:=ak (aH (az HB dI) hb);clear hb oW;have M6:(cr:Int)≤((bU.length:Int):Int):=da;obtain ⟨aaX,wI,_,EN,_⟩:=info_parts fu;have oq:bU.length≤ku:=(Kd.aJ cG.out).2.1;have EV:Kd.C Kd.string _ kC bU.length bU:=(Kd.aJ cG.out).2.2;have za:=vP (P:=Tryz.prog) 62 9 .i64 Tryz.underlying62 wI kC bU.length ku cr (da) M6 oq;have y5:=Kd.ir (m:=(cr:Int).toNat) EV (by omega);have yZ:kj.length=(cr:Int).toNat:=(by rw [nS.out,List.length_take];omega);rw [←nS.out] at y5;rw [←yZ] at za;have mT:=ak y5;have U1:=ak (show kj.length≤ku from by omega);clear y5 EV oq wI EN;have adE:=ak yZ;clear yZ;have zV:=ak (show (cr:Int).toNat≤bU.length from by omega);replace M6:=eq_true M6)|((with_reducible refine bw (b:= .append) (xs:= #[.tmp 48,.tmp 51]) rfl ?_);at_builtin;refine Kd.cH Kd.string (w0:=w) w.heap.size rfl (.tmp 48) (.tmp 51) 62 9 (.string ⟨#[]⟩) 16 rfl Tryz.underlying62 fu rfl (by decide) (by omega) Mo yg kj _ _ _ (fun k_=>some k_≠(.slice kC bU.length ku:Value).ownBlock) (fun _=>False) rfl rfl ?aO ?aR (fun _ _ h=>h) (fun _ h=>h.elim) ?aF ?aB ?aS ?aL ?_;(case aR=>exact cd (by repeat (first|(with_reducible exact mT.out)|(with_reducible refine Kd.kS ?_ _)|(with_reducible refine Kd.kR ?_ _)|(with_reducible refine Kd.mG ?_)|exact mT.out)));(case aB=>exact (az HB dI));(case aF=>exact (fun k_ hk=>Kd.gI (Kd.ji (dH cG)) k_ hk));(case aO=>exact (by (with_reducible repeat (first|apply Kd.cz|apply Kd.cy|apply Kd.cD));exact Kd.bJ rK.out (fun _ hk=>hk.2)));(case aS=>exact (aX (az HB dI)));(case aL=>have:=PJ.out;omega);intro Mn Ze ho hb hg eC;rw [←Px.out] at ho;replace cw:=ak (ej (dm cw) hg (Kd.mS rK.out cw.out (by decide)));replace HB:=ak (hb);replace mT:=ak ((show Kd.C Kd.string Ze kC kj.length kj from by rw [nS.out];exact Kd.ir (m:=(cr:Int).toNat) ((Kd.aJ (Kd.cF (ok:=(fun _=>True)) (dH cG) hg eC)).2.2) zV.out));replace cG:=ak (Kd.cF (ok:=(fun _=>True)) (dH cG) hg eC);have rJ:=ak (ho);clear rK;clear ho hb hg eC)|((with_reducible refine bw (b:= .append) (xs:= #[.tmp 53,.tmp 55]) rfl ?_);at_builtin;refine Kd.ig Kd.string (w0:=w) w.heap.size rfl (.tmp 53) (.tmp 55) 62 9 (.string ⟨#[]⟩) 16 rfl Tryz.underlying62 fu rfl (by decide) (by omega) Mn sU (aQ ByteArray.empty (aN aM a1) eE) [.string (aQ ByteArray.empty (aN aM a1) eE)] (fun k_=>some k_≠(.slice kC bU.length ku:Value).ownBlock) (fun _=>False) rfl rfl ?aP (fun _ hk=>hk.elim) ?aF ?aO ?aB ?aS ?aL ?_;(case aP=>exact rfl);(case aB=>exact (az HB dI));(case aF=>exact (fun k_ hk=>Kd.gI (Kd.ji (dH cG)) k_ hk));(case aO=>exact (dH rJ));(case aS=>exact (aX (az HB dI)));(case aL=>have:=PI.out;omega);intro Mm w54 ho hb hg eC;rw [←Pw.out] at ho;replace cw:=ak (ej (dm cw) hg (Kd.mS rJ.out cw.out (by decide)));replace HB:=ak (hb);replace mT:=ak ((show Kd.C Kd.string w54 kC kj.length kj from by rw [nS.out];exact Kd.ir (m:=(cr:Int).toNat) ((Kd.aJ (Kd.cF (ok:=(fun _=>True)) (dH cG) hg eC)).2.2) zV.out));replace cG:=ak (Kd.cF (ok:=(fun _=>True)) (dH cG) hg eC);have rI:=ak (ho);clear rJ;clear ho hb hg eC;have M5:(cr:Int)≤((bU.length:Int):Int):=da;obtain ⟨aaW,wH,_,wD,_⟩:=info_parts fu;have l5:bU.length≤ku:=(Kd.aJ cG.out).2.1;have EU:Kd.C Kd.string _ kC bU.length bU:=(Kd.aJ cG.out).2.2;have Na:(0:Int)≤(cr:Int):=da;have y9:=o4 (P:=Tryz.prog) 62 9 .i64 Tryz.underlying62 wH 1 wD kC bU.length ku cr Na M5;have qQ:=Kd.m9 (m:=(cr:Int).toNat) (c:=ku) EU (by omega) l5;obtain ⟨U9,uD⟩:∃A1,A1=(if ku=(cr:Int).toNat then kC else (kC:Option Addr).map (·.add ((cr:Int).toNat*1))):=⟨_,rfl⟩;obtain ⟨c55,zg⟩:∃c1,c1=ku-(cr:Int).toNat:=⟨_,rfl⟩;have tZ:jl.length=bU.length-(cr:Int).toNat:=(by rw [uU.out,List.length_drop]<;>omega);rw [show (bU).drop (cr:Int).toNat=jl from uU.out.symm] at qQ;replace qQ:Kd.C Kd.string _ U9 jl.length jl:=(by rw [uD];exact qQ);rw [←tZ,←uD,←zg] at y9;have rG:=ak qQ;have U0:=ak (show jl.length≤c55 from by rw [tZ,zg];exact Nat.sub_le_sub_right l5 _);clear qQ EU l5 wH wD zg;have adD:=ak tZ;have PS:=ak uD;clear tZ uD;have PO:=ak (show (cr:Int).toNat≤bU.length from by omega);replace M5:=eq_true M5)|((with_reducible refine bw (b:= .append) (xs:= #[.tmp 57,.tmp 60]) rfl ?_);at_builtin;refine Kd.cH Kd.string (w0:=w) w.heap.size rfl (.tmp 57) (.tmp 60) 62 9 (.string ⟨#[]⟩) 16 rfl Tryz.underlying62 fu rfl (by decide) (by omega) Mm oJ jl _ _ _ (fun k_=>some k_≠(.slice kC bU.length ku:Value).ownBlock) (fun _=>False) rfl rfl ?aO ?aR (fun _ _ h=>h) (fun _ h=>h.elim) ?aF ?aB ?aS ?aL ?_;(case aR=>exact cd (by repeat (first|(with_reducible exact rG.out)|(with_reducible refine Kd.kS ?_ _)|(with_reducible refine Kd.kR ?_ _)|(with_reducible refine Kd.mG ?_)|exact rG.out)));(case aB=>exact (az HB dI));(case aF=>exact (fun k_ hk=>Kd.gI (Kd.ji (dH cG)) k_ hk));(case aO=>exact (dH rI));(case aS=>exact (aX (az HB dI)));(case aL=>have:=PG.out;omega);intro aad Th ho hb hg eC;rw [←Pv.out] at ho;replace cw:=ak (ej (dm cw) hg (Kd.mS rI.out cw.out (by decide)));replace HB:=ak (hb);replace mT:=ak ((show Kd.C Kd.string Th kC kj.length kj from by rw [nS.out];exact Kd.ir (m:=(cr:Int).toNat) ((Kd.aJ (Kd.cF (ok:=(fun _=>True)) (dH cG) hg eC)).2.2) zV.out));replace rG:=ak ((show Kd.C Kd.string Th U9 jl.length jl from by rw [uU.out,PS.out];exact Kd.m9 (m:=(cr:Int).toNat) (c:=ku) ((Kd.aJ (Kd.cF (ok:=(fun _=>True)) (dH cG) hg eC)).2.2) PO.out ((Kd.aJ (Kd.cF (ok:=(fun _=>True)) (dH cG) hg eC)).2.1)));replace cG:=ak (Kd.cF (ok:=(fun _=>True)) (dH cG) hg eC);have P0:=ak (ho);clear rI;clear ho hb hg eC));try go_wp2_with (first|((with_reducible refine av (N:=48) rfl ?_);refine Kd.gD Kd.string _ 9 ?hg (N:=48) ?hd (xs:=([]:List ByteArray)) (inner:=[]) (ok:=fun _=>True) (okp:=fun _=>True) ?hr ?hp (fun _ hk=>hk) trivial (Below.refl _ _) (Nat.le_refl _) (by simp) ?_;(case hd=>rfl);(case hg=>rfl);(case hr=>exact rZ);(case hp=>exact (bT.none _ _));intro Mo w50 oW hb bK dP;clear bK dP;(first|rw [←BP.out] at oW|(simp only [Int.reduceToNat] at oW;rw [←BP.out] at oW));have rK:=ak (Kd.dz (Kd.l9 oW (Kd.ji (dH cG))) (aX (az HB dI)));replace cG:=ak (Kd.iX (dH cG) (Kd.j3 oW) hb);replace cw:=ak (cW (dm cw) hb);replace HB:=ak (aH (az HB dI) hb);clear hb oW;have M6:(cr:Int)≤((bU.length:Int):Int):=da;obtain ⟨aaX,wI,_,EN,_⟩:=info_parts fu;have oq:bU.length≤ku:=(Kd.aJ cG.out).2.1;have EV:Kd.C Kd.string _ kC bU.length bU:=(Kd.aJ cG.out).2.2;have za:=vP (P:=Tryz.prog) 62 9 .i64 Tryz.underlying62 wI kC bU.length ku cr (da) M6 oq;have y5:=Kd.ir (m:=(cr:Int).toNat) EV (by omega);have yZ:kj.length=(cr:Int).toNat:=(by rw [nS.out,List.length_take];omega);rw [←nS.out] at y5;rw [←yZ] at za;have mT:=ak y5;have U1:=ak (show kj.length≤ku from by omega);clear y5 EV oq wI EN;have adE:=ak yZ;clear yZ;have zV:=ak (show (cr:Int).toNat≤bU.length from by omega);replace M6:=eq_true M6)|((with_reducible refine bw (b:= .append) (xs:= #[.tmp 48,.tmp 51]) rfl ?_);at_builtin;refine Kd.cH Kd.string (w0:=w) w.heap.size rfl (.tmp 48) (.tmp 51) 62 9 (.string ⟨#[]⟩) 16 rfl Tryz.underlying62 fu rfl (by decide) (by omega) Mo yg kj _ _ _ (fun k_=>some k_≠(.slice kC bU.length ku:Value).ownBlock) (fun _=>False) rfl rfl ?aO ?aR (fun _ _ h=>h) (fun _ h=>h.elim) ?aF ?aB ?aS ?aL ?_;(case aR=>exact cd (by repeat (first|(with_reducible exact mT.out)|(with_reducible refine Kd.kS ?_ _)|(with_reducible refine Kd.kR ?_ _)|(with_reducible refine Kd.mG ?_)|exact mT.out)));(case aB=>exact (az HB dI));(case aF=>exact (fun k_ hk=>Kd.gI (Kd.ji (dH cG)) k_ hk));(case aO=>exact (by (with_reducible repeat (first|apply Kd.cz|apply Kd.cy|apply Kd.cD));exact Kd.bJ rK.out (fun _ hk=>hk.2)));(case aS=>exact (aX (az HB dI)));(case aL=>have:=PJ.out;omega);intro Mn Ze ho hb hg eC;rw [←Px.out] at ho;replace cw:=ak (ej (dm cw) hg (Kd.mS rK.out cw.out (by decide)));replace HB:=ak (hb);replace mT:=ak ((show Kd.C Kd.string Ze kC kj.length kj from by rw [nS.out];exact Kd.ir (m:=(cr:Int).toNat) ((Kd.aJ (Kd.cF (ok:=(fun _=>True)) (dH cG) hg eC)).2.2) zV.out));replace cG:=ak (Kd.cF (ok:=(fun _=>True)) (dH cG) hg eC);have rJ:=ak (ho);clear rK;clear ho hb hg eC)|((with_reducible refine bw (b:= .append) (xs:= #[.tmp 53,.tmp 55]) rfl ?_);at_builtin;refine Kd.ig Kd.string (w0:=w) w.heap.size rfl (.tmp 53) (.tmp 55) 62 9 (.string ⟨#[]⟩) 16 rfl Tryz.underlying62 fu rfl (by decide) (by omega) Mn sU (aQ ByteArray.empty (aN aM a1) eE) [.string (aQ ByteArray.empty (aN aM a1) eE)] (fun k_=>some k_≠(.slice kC bU.length ku:Value).ownBlock) (fun _=>False) rfl rfl ?aP (fun _ hk=>hk.elim) ?aF ?aO ?aB ?aS ?aL ?_;(case aP=>exact rfl);(case aB=>exact (az HB dI));(case aF=>exact (fun k_ hk=>Kd.gI (Kd.ji (dH cG)) k_ hk));(case aO=>exact (dH rJ));(case aS=>exact (aX (az HB dI)));(case aL=>have:=PI.out;omega);intro Mm w54 ho hb hg eC;rw [←Pw.out] at ho;replace cw:=ak (ej (dm cw) hg (Kd.mS rJ.out cw.out (by decide)));replace HB:=ak (hb);replace mT:=ak ((show Kd.C Kd.string w54 kC kj.length kj from by rw [nS.out];exact Kd.ir (m:=(cr:Int).toNat) ((Kd.aJ (Kd.cF (ok:=(fun _=>True)) (dH cG) hg eC)).2.2) zV.out));replace cG:=ak (Kd.cF (ok:=(fun _=>True)) (dH cG) hg eC);have rI:=ak (ho);clear rJ;clear ho hb hg eC;have M5:(cr:Int)≤((bU.length:Int):Int):=da;obtain ⟨aaW,wH,_,wD,_⟩:=info_parts fu;have l5:bU.length≤ku:=(Kd.aJ cG.out).2.1;have EU:Kd.C Kd.string _ kC bU.length bU:=(Kd.aJ cG.out).2.2;have Na:(0:Int)≤(cr:Int):=da;have y9:=o4 (P:=Tryz.prog) 62 9 .i64 Tryz.underlying62 wH 1 wD kC bU.length ku cr Na M5;have qQ:=Kd.m9 (m:=(cr:Int).toNat) (c:=ku) EU (by omega) l5;obtain ⟨U9,uD⟩:∃A1,A1=(if ku=(cr:Int).toNat then kC else (kC:Option Addr).map (·.add ((cr:Int).toNat*1))):=⟨_,rfl⟩;obtain ⟨c55,zg⟩:∃c1,c1=ku-(cr:Int).toNat:=⟨_,rfl⟩;have tZ:jl.length=bU.length-(cr:Int).toNat:=(by rw [uU.out,List.length_drop]<;>omega);rw [show (bU).drop (cr:Int).toNat=jl from uU.out.symm] at qQ;replace qQ:Kd.C Kd.string _ U9 jl.length jl:=(by rw [uD];exact qQ);rw [←tZ,←uD,←zg] at y9;have rG:=ak qQ;have U0:=ak (show jl.length≤c55 from by rw [tZ,zg];exact Nat.sub_le_sub_right l5 _);clear qQ EU l5 wH wD zg;have adD:=ak tZ;have PS:=ak uD;clear tZ uD;have PO:=ak (show (cr:Int).toNat≤bU.length from by omega);replace M5:=eq_true M5)|((with_reducible refine bw (b:= .append) (xs:= #[.tmp 57,.tmp 60]) rfl ?_);at_builtin;refine Kd.cH Kd.string (w0:=w) w.heap.size rfl (.tmp 57) (.tmp 60) 62 9 (.string ⟨#[]⟩) 16 rfl Tryz.underlying62 fu rfl (by decide) (by omega) Mm oJ jl _ _ _ (fun k_=>some k_≠(.slice kC bU.length ku:Value).ownBlock) (fun _=>False) rfl rfl ?aO ?aR (fun _ _ h=>h) (fun _ h=>h.elim) ?aF ?aB ?aS ?aL ?_;(case aR=>exact cd (by repeat (first|(with_reducible exact rG.out)|(with_reducible refine Kd.kS ?_ _)|(with_reducible refine Kd.kR ?_ _)|(with_reducible refine Kd.mG ?_)|exact rG.out)));(case aB=>exact (az HB dI));(case aF=>exact (fun k_ hk=>Kd.gI (Kd.ji (dH cG)) k_ hk));(case aO=>exact (dH rI));(case aS=>exact (aX (az HB dI)));(case aL=>have:=PG.out;omega);intro aad Th ho hb hg eC;rw [←Pv.out] at ho;replace cw:=ak (ej (dm cw) hg (Kd.mS rI.out cw.out (by decide)));replace HB:=ak (hb);replace mT:=ak ((show Kd.C Kd.string Th kC kj.length kj from by rw [nS.out];exact Kd.ir (m:=(cr:Int).toNat) ((Kd.aJ (Kd.cF (ok:=(fun _=>True)) (dH cG) hg eC)).2.2) zV.out));replace rG:=ak ((show Kd.C Kd.string Th U9 jl.length jl from by rw [uU.out,PS.out];exact Kd.m9 (m:=(cr:Int).toNat) (c:=ku) ((Kd.aJ (Kd.cF (ok:=(fun _=>True)) (dH cG) hg eC)).2.2) PO.out ((Kd.aJ (Kd.cF (ok:=(fun _=>True)) (dH cG) hg eC)).2.1)));replace cG:=ak (Kd.cF (ok:=(fun _=>True)) (dH cG) hg eC);have P0:=ak (ho);clear rI;clear ho hb hg eC)))
          go_roundg k3
          case measure=>have:=UZ.out;have:=kg.out;have:=yd.out;omega
          case rel=>exact ⟨(ZH),(wrap64 (eE+1)),er,H',⟨by have:=UZ.out;have:=kg.out;have:=yd.out;omega⟩,⟨by (with_reducible repeat (first|apply Kd.cz|apply Kd.cy|apply Kd.cD));exact Kd.bJ P0.out (fun _ hk=>trivial)⟩,⟨dm cw⟩,⟨az HB dI⟩⟩
      ·rw [if_neg Ic] at H
       have zw:=decide_eq_false Ic
       clear Ic
       have H':=ak H
       clear H
       obtain ⟨aei,OK,agM⟩:=Kd.de cG.out
       subst agM;go_wp2
       repeat (go_quiet (fail);try go_wp2)
       go_loopg [11,65] k2 (fun kq v11 v65 w'=>∃(ym:List ByteArray) (kT:Int),v65= .int .i64 kT∧Aside0 (aT.l2 kq bU ym (bU.length:Int) kT=some (r1,r2))∧Aside0 (kq≤k2)∧Aside0 (Kd.R Kd.string 9 w' w.heap.size (fun k_=>some k_≠(v11:Value).ownBlock) (.slice aei bU.length OK) bU)∧Aside0 (Kd.R Kd.string 9 w' w.heap.size (fun k_=>some k_≠((.slice aei bU.length OK):Value).ownBlock) v11 ym)∧Aside0 (w'.heap[BB]? =some (.cells #[(.slice fV bn.length fT),(.slice gv aU.length fS),(.slice fU bu.length fR),(.slice (some Pd) aM.length fQ),.int .i64 bR] 27 (0,0)))∧Aside0 (Below w.heap.size w w'))
       case atStart=>exact ⟨(([]:List ByteArray)),(0),er,H',⟨Nat.le_refl _⟩,⟨by (with_reducible repeat (first|apply Kd.cz|apply Kd.cy|apply Kd.cD));exact Kd.bJ cG.out (fun _ hk=>(by simp [Value.ownBlock]))⟩,⟨CD⟩,⟨dm cw⟩,⟨az HB dI⟩⟩
       case round=>
        clear H'
        (try clear zw)
        obtain ⟨ym,kT,rfl,HA,yd,cG,sR,cw,HB⟩:=hrel
        cases gk with
        |zero=>exact absurd HA.out (by simp [aT.l2])
        |succ k3=>
         have H:=HA.out;clear HA
         simp only [aT.l2] at H
         by_cases LG:kT<(bU.length:Int)
         ·rw [if_pos LG] at H
          have JG:=decide_eq_true LG
          clear LG;replace H:=dy H;obtain ⟨c59,H⟩:=H;have aiu:=decide_eq_true c59;clear c59;replace H:=dy H;obtain ⟨c60,H⟩:=H;have abY:=decide_eq_true c60;clear c60;replace H:=dy H;obtain ⟨ZA,H⟩:=H;have abX:=eq_true ZA
          have ait:decide (1≤((aQ ByteArray.empty bU kT).size:Int))=true:=decide_eq_true ZA
          clear ZA;replace H:=dy H;obtain ⟨c62,H⟩:=H;have PF:=ak c62;clear c62
          obtain ⟨ZG,ez⟩:∃y_:List ByteArray,y_=(ym++[(aQ ByteArray.empty bU kT).extract 1 (aQ ByteArray.empty bU kT).size]):=⟨_,rfl⟩
          replace H:(aT.l2 k3 bU ZG (bU.length:Int) (wrap64 (kT+1)))=some (r1,r2):=yH
          have Pu:=ak ez;clear ez
          have H':=ak H
          clear H
          obtain ⟨ajI,ajw,Pc,agU,aep⟩:=ng (Kd.bq (Kd.aJ cG.out).2.2 kT)
          cases agU
          go_wp2_with (first|((with_reducible refine bw (b:= .append) (xs:= #[.tmp 69,.tmp 72]) rfl ?_);at_builtin;refine Kd.ig Kd.string (w0:=w) w.heap.size rfl (.tmp 69) (.tmp 72) 62 9 (.string ⟨#[]⟩) 16 rfl Tryz.underlying62 fu rfl (by decide) (by omega) u11 ym ((aQ ByteArray.empty bU kT).extract 1 (aQ ByteArray.empty bU kT).size) [.string ((aQ ByteArray.empty bU kT).extract 1 (aQ ByteArray.empty bU kT).size)] (fun k_=>some k_≠(.slice (some Pc) bU.length OK:Value).ownBlock) (fun _=>False) rfl rfl ?aP (fun _ hk=>hk.elim) ?aF ?aO ?aB ?aS ?aL ?_;(case aP=>exact rfl);(case aB=>exact (az HB dI));(case aF=>exact (fun k_ hk=>Kd.gI (Kd.ji (dH cG)) k_ hk));(case aO=>exact (dH sR));(case aS=>exact (aX (az HB dI)));(case aL=>have:=PF.out;omega);intro aac w63 ho hb hg eC;rw [←Pu.out] at ho;replace cG:=ak (Kd.cF (ok:=(fun _=>True)) (by (with_reducible repeat (first|apply Kd.cz|apply Kd.cy|apply Kd.cD));exact Kd.bJ cG.out (fun _ hk=>⟨trivial,hk⟩)) hg eC);replace cw:=ak (ej (dm cw) hg (Kd.mS sR.out cw.out (by decide)));replace HB:=ak (hb);have PZ:=ak (ho);clear sR;clear ho hb hg eC))
          repeat (go_quiet (first|((with_reducible refine bw (b:= .append) (xs:= #[.tmp 69,.tmp 72]) rfl ?_);at_builtin;refine Kd.ig Kd.string (w0:=w) w.heap.size rfl (.tmp 69) (.tmp 72) 62 9 (.string ⟨#[]⟩) 16 rfl Tryz.underlying62 fu rfl (by decide) (by omega) u11 ym ((aQ ByteArray.empty bU kT).extract 1 (aQ ByteArray.empty bU kT).size) [.string ((aQ ByteArray.empty bU kT).extract 1 (aQ ByteArray.empty bU kT).size)] (fun k_=>some k_≠(.slice (some Pc) bU.length OK:Value).ownBlock) (fun _=>False) rfl rfl ?aP (fun _ hk=>hk.elim) ?aF ?aO ?aB ?aS ?aL ?_;(case aP=>exact rfl);(case aB=>exact (az HB dI));(case aF=>exact (fun k_ hk=>Kd.gI (Kd.ji (dH cG)) k_ hk));(case aO=>exact (dH sR));(case aS=>exact (aX (az HB dI)));(case aL=>have:=PF.out;omega);intro aac w63 ho hb hg eC;rw [←Pu.out] at ho;replace cG:=ak (Kd.cF (ok:=(fun _=>True)) (by (with_reducible repeat (first|apply Kd.cz|apply Kd.cy|apply Kd.cD));exact Kd.bJ cG.out (fun _ hk=>⟨trivial,hk⟩)) hg eC);replace cw:=ak (ej (dm cw) hg (Kd.mS sR.out cw.out (by decide)));replace HB:=ak (hb);have PZ:=ak (ho);clear sR;clear ho hb hg eC));try go_wp2_with (first|((with_reducible refine bw (b:= .append) (xs:= #[.tmp 69,.tmp 72]) rfl ?_);at_builtin;refine Kd.ig Kd.string (w0:=w) w.heap.size rfl (.tmp 69) (.tmp 72) 62 9 (.string ⟨#[]⟩) 16 rfl Tryz.underlying62 fu rfl (by decide) (by omega) u11 ym ((aQ ByteArray.empty bU kT).extract 1 (aQ ByteArray.empty bU kT).size) [.string ((aQ ByteArray.empty bU kT).extract 1 (aQ ByteArray.empty bU kT).size)] (fun k_=>some k_≠(.slice (some Pc) bU.length OK:Value).ownBlock) (fun _=>False) rfl rfl ?aP (fun _ hk=>hk.elim) ?aF ?aO ?aB ?aS ?aL ?_;(case aP=>exact rfl);(case aB=>exact (az HB dI));(case aF=>exact (fun k_ hk=>Kd.gI (Kd.ji (dH cG)) k_ hk));(case aO=>exact (dH sR));(case aS=>exact (aX (az HB dI)));(case aL=>have:=PF.out;omega);intro aac w63 ho hb hg eC;rw [←Pu.out] at ho;replace cG:=ak (Kd.cF (ok:=(fun _=>True)) (by (with_reducible repeat (first|apply Kd.cz|apply Kd.cy|apply Kd.cD));exact Kd.bJ cG.out (fun _ hk=>⟨trivial,hk⟩)) hg eC);replace cw:=ak (ej (dm cw) hg (Kd.mS sR.out cw.out (by decide)));replace HB:=ak (hb);have PZ:=ak (ho);clear sR;clear ho hb hg eC)))
          go_roundg k3
          case measure=>have:=UZ.out;have:=kg.out;have:=yd.out;omega
          case rel=>exact ⟨(ZG),(wrap64 (kT+1)),er,H',⟨by have:=UZ.out;have:=kg.out;have:=yd.out;omega⟩,⟨by (with_reducible repeat (first|apply Kd.cz|apply Kd.cy|apply Kd.cD));exact Kd.bJ cG.out (fun _ hk=>hk.2)⟩,⟨dH PZ⟩,⟨dm cw⟩,⟨az HB dI⟩⟩
         ·rw [if_neg LG] at H
          have JG:=decide_eq_false LG
          clear LG
          simp only [Option.some.injEq,Prod.mk.injEq] at H
          obtain ⟨rfl,rfl⟩:=H;go_wp2
          repeat (go_quiet (fail);try go_wp2)
          go_ret2
          exact ⟨_,kK,by (with_reducible repeat (first|apply Kd.cz|apply Kd.cy|apply Kd.cD));exact Kd.bJ sR.out (fun _ hk=>trivial),az HB dI⟩
def iS.f (k:Nat) (l0:List Int):Option (List Int):=(bX.f k l0 0 0).bind fun O3=>(some O3.1)
theorem iS.calls (k:Nat) (A0:Option Addr) (c0:Nat) (l0:List Int) (r:List Int) (w:World) (ff:Kd.C (Kd.int .u8) w A0 l0.length l0) (fL:l0.length≤c0) (h:iS.f k l0=some r):
  Calls Tryz.prog 47 #[.slice A0 l0.length c0] w fun e w'=>∃lG:Value,e= .returned (lG)∧Kd.R (Kd.int .i64) 3 w' w.heap.size (fun _=>True) lG r∧Below w.heap.size w w':=by
 have ajY:=Tryz.underlying89
 have fZ:=ak ff;have ki:=ak fL;clear ff fL
 have HB:=ak (Below.refl w.heap.size w)
 have H:((bX.f k l0 0 0).bind fun O3=>(some O3.1))=some r:=h
 clear h;replace H:=bS H;obtain ⟨⟨aeY,aeX,aeW⟩,A2,H⟩:=H
 dsimp only at H
 obtain rfl:=Option.some.inj H
 go_enter Tryz.func47,Tryz.ntmps47
 go_wp2_with (first|((with_reducible refine av (N:=6) rfl ?_);refine bN 6 #[.slice A0 l0.length c0,.int .i64 0,.int .u64 0] 89 ?_;intro TS hg w3 eI hb;have FG:=ak ((show ay w w3 TS l0 0 0 from ay.vG eI (by rw [hg];exact (aX (aq HB))) fZ.out));replace HB:=ak (aH (aq HB) hb);clear hb eI hg)|(go_at_call 65;(with_reducible refine (bX.calls k TS l0 0 0 aeY aeX aeW w _ ?side1 ?side2 A2.out).mono ?_);(case side1=>exact ay.d FG);(case side2=>exact ay.b HB FG);rintro e w4 ⟨ai8,rfl,xh,hi,hb,hk⟩;have adM:=ak (Kd.dz xh (aX (ay.b HB FG)));replace HB:=ak (hb);replace FG:=ak (hi);(try clear hb);(try clear hk);(try clear hi);(try clear xh)))
 go_ret
 exact ⟨_,kK,by (with_reducible repeat (first|apply Kd.cz|apply Kd.cy|apply Kd.cD));exact adM.out,ay.b HB FG⟩
def yO (A0:Option Addr) (c0:Nat) (l0:List Int) (gr:Nat) (x4 x5 x7 iO iz kD kV:Value):Act:= { tmps:= #[.slice A0 l0.length c0,undef,.pointer (some ⟨gr,0,none⟩),.bool false,.slice A0 l0.length c0,.int .i64 (l0.length:Int),.bool true,.bool false,.bool false,.slice A0 l0.length c0,.bool true,.bool false,.bool false,undef,.slice A0 l0.length c0,x7,.slice A0 l0.length c0,.int .i64 (l0.length:Int),iO,.slice A0 l0.length c0,.int .i64 (l0.length:Int),iz,kD,undef],defers:=[]}
def eu.T3:Bool×List (List Nat×List Nat):=(true,[([],[]),([0],[0]),([],[]),([2],[2]),([3,3],[3]),([],[]),([5],[5]),([6,6],[6]),([],[]),([1,4,7,8],[1,4,7,8]),([9,1,0,1,2,3,4,5,6,7,8,9],[9]),([10,0,1,2,3,4,5,6,7,8,9,10],[])])
def eu.B3:List Nat:=[0,1,0,4,12,0,32,96,0,511,1023,2047]
theorem eu.FX:gz .any (opsOf Tryz.f48 3)=eu.T3:=by kernel_rfl
theorem eu.zJ:dZ eu.T3.2 eu.B3=true:=by kernel_rfl
def eu.f (k:Nat) (l0:List Int):Option (List Int×List (List ByteArray)×List (List ByteArray)×List (List ByteArray)×Int×Bool):=(bk.f (l0.length:Int) 1 4).bind fun t1=>(if t1=true then ((eX.f k l0).bind fun t2=>(if t2=true then (if l0.length≤1048576 then some (l0,List.replicate l0.length [],List.replicate l0.length [],List.replicate 4 [],0,true) else none) else some ([],[],[],[],0,false))) else some ([],[],[],[],0,false))
theorem eu.zu (k:Nat) (A0:Option Addr) (c0:Nat) (l0:List Int) (r1:List Int) (r2:List (List ByteArray)) (r3:List (List ByteArray)) (r4:List (List ByteArray)) (r5:Int) (r6:Bool) (w:World) (ff:Kd.C (Kd.int .i64) w A0 l0.length l0) (fL:l0.length≤c0) (h:eu.f k l0=some (r1,r2,r3,r4,r5,r6)):
  Calls Tryz.prog 48 #[.slice A0 l0.length c0] w (DP w r1 r2 r3 r4 r6)∧r5=0:=by
 have lg:=Tryz.underlying27
 have fZ:=ak ff;have ki:=ak fL;clear ff fL
 have HB:=ak (Below.refl w.heap.size w)
 unfold eu.f at h
 obtain ⟨t1,A1,H⟩:=bS h;clear h
 cases t1 with
 |false=>
  obtain ⟨rfl,rfl,rfl,rfl,rfl,rfl⟩:[]=r1∧[]=r2∧[]=r3∧[]=r4∧0=r5∧false=r6:=by simpa using H
  refine ⟨?_,rfl⟩
  clear H
  go_enter Tryz.func48,Tryz.ntmps48
  go_wp2_with (first|((with_reducible refine av (N:=2) rfl ?_);refine bN 2 #[.slice none 0 0,.slice none 0 0,.slice none 0 0,.slice none 0 0,.int .i64 0] 27 ?_;intro gr hg w8 eI hb;have BR:=ak eI;have GR:=ak (mX hg (aq HB));replace HB:=ak (aH (aq HB) hb);clear hb eI hg)|(go_at_call 70;(with_reducible refine (bk.calls (l0.length:Int) 1 4 false _ A1.out).mono ?_);rintro e w' ⟨rfl,⟨nd,rfl⟩⟩;(try (rw [mF w8];generalize xP:World.drewN w8 _=w8;have Bo:Aside0 (w8.heap[gr]? =some (.cells #[.slice none 0 0,.slice none 0 0,.slice none 0 0,.slice none 0 0,.int .i64 0] 27 (0,0))):=⟨by rw [←xP];exact (dm BR)⟩;have Bn:Aside0 (Below w.heap.size w w8):=⟨by rw [←xP];exact (az HB GR)⟩;clear BR HB xP;have BR:=Bo;have HB:=Bn;clear Bo Bn));obtain ⟨Dy,Dx,Dr,Dq,Dj,Di,Dh,Db,Da,C4⟩:=an BR))
  refine bodyPost_ret (cK rfl _ _ gr 27 #[.slice none 0 0,.slice none 0 0,.slice none 0 0,.slice none 0 0,.int .i64 0] (0,0) _ rfl (by exact oR BR.out _ _ _ _ _) Tryz.underlying27 rfl (by kernel_rfl)) rfl ?_
  exact ⟨_,_,_,_,0,1,2,rfl,Kd.qo _ _ _ _ _,Kd.qn _ _ _ _ _,Kd.qn _ _ _ _ _,Kd.qn _ _ _ _ _,⟨by decide,by decide,by decide⟩,mB HB.out GR.out _ _ _ _ _⟩
 |true=>
  rw [if_pos rfl] at H
  obtain ⟨t2,A2,H⟩:=bS H
  cases t2 with
  |false=>
   obtain ⟨rfl,rfl,rfl,rfl,rfl,rfl⟩:[]=r1∧[]=r2∧[]=r3∧[]=r4∧0=r5∧false=r6:=by simpa using H
   refine ⟨?_,rfl⟩
   clear H
   go_enter Tryz.func48,Tryz.ntmps48
   go_wp2_with (first|((with_reducible refine av (N:=2) rfl ?_);refine bN 2 #[.slice none 0 0,.slice none 0 0,.slice none 0 0,.slice none 0 0,.int .i64 0] 27 ?_;intro gr hg w8 eI hb;have BR:=ak eI;have GR:=ak (mX hg (aq HB));replace HB:=ak (aH (aq HB) hb);clear hb eI hg)|(go_at_call 70;(with_reducible refine (bk.calls (l0.length:Int) 1 4 true _ A1.out).mono ?_);rintro e w' ⟨rfl,⟨nd,rfl⟩⟩;(try (rw [mF w8];generalize xP:World.drewN w8 _=w8;have Bo:Aside0 (w8.heap[gr]? =some (.cells #[.slice none 0 0,.slice none 0 0,.slice none 0 0,.slice none 0 0,.int .i64 0] 27 (0,0))):=⟨by rw [←xP];exact (dm BR)⟩;have Bn:Aside0 (Below w.heap.size w w8):=⟨by rw [←xP];exact (az HB GR)⟩;clear BR HB xP;have BR:=Bo;have HB:=Bn;clear Bo Bn));obtain ⟨Dy,Dx,Dr,Dq,Dj,Di,Dh,Db,Da,C4⟩:=an BR)|(go_at_call 71;(with_reducible refine (eX.calls k _ _ l0 false _ ?side1 ?side2 A2.out).mono ?_);(case side1=>exact cd (Kd.aD fZ.out (aq HB)));(case side2=>exact ki.out);rintro e w' ⟨rfl,⟨nd,rfl⟩⟩;clear Dy Dx Dr Dq Dj Di Dh Db Da C4;(try (rw [mF w8];generalize xP:World.drewN w8 _=w8;have Bo:Aside0 (w8.heap[gr]? =some (.cells #[.slice none 0 0,.slice none 0 0,.slice none 0 0,.slice none 0 0,.int .i64 0] 27 (0,0))):=⟨by rw [←xP];exact (dm BR)⟩;have Bn:Aside0 (Below w.heap.size w w8):=⟨by rw [←xP];exact (az HB GR)⟩;clear BR HB xP;have BR:=Bo;have HB:=Bn;clear Bo Bn));obtain ⟨Dy,Dx,Dr,Dq,Dj,Di,Dh,Db,Da,C4⟩:=an BR))
   refine bodyPost_ret (cK rfl _ _ gr 27 #[.slice none 0 0,.slice none 0 0,.slice none 0 0,.slice none 0 0,.int .i64 0] (0,0) _ rfl (by exact oR BR.out _ _ _ _ _) Tryz.underlying27 rfl (by kernel_rfl)) rfl ?_
   exact ⟨_,_,_,_,0,1,2,rfl,Kd.qo _ _ _ _ _,Kd.qn _ _ _ _ _,Kd.qn _ _ _ _ _,Kd.qn _ _ _ _ _,⟨by decide,by decide,by decide⟩,mB HB.out GR.out _ _ _ _ _⟩
  |true=>
   rw [if_pos rfl] at H
   obtain ⟨hn,H⟩:=dy H
   obtain ⟨rfl,rfl,rfl,rfl,rfl,rfl⟩:l0=r1∧List.replicate l0.length []=r2∧List.replicate l0.length []=r3∧List.replicate 4 []=r4∧0=r5∧true=r6:=by simpa using H
   refine ⟨?_,rfl⟩
   clear H
   have HN:=ak hn;clear hn
   have HCL:=ak (show cY.f l0=some l0 from by unfold cY.f;rw [Option.bind_some,if_pos (by have:=HN.out;simp only [List.length_nil];omega)];rfl)
   go_enter Tryz.func48,Tryz.ntmps48
   try go_wp2_with (first|((with_reducible refine av (N:=2) rfl ?_);refine bN 2 #[.slice none 0 0,.slice none 0 0,.slice none 0 0,.slice none 0 0,.int .i64 0] 27 ?_;intro gr hg w8 eI hb;have BR:=ak eI;have GR:=ak (mX hg (aq HB));replace HB:=ak (aH (aq HB) hb);clear hb eI hg)|(go_at_call 70;(with_reducible refine (bk.calls (l0.length:Int) 1 4 true _ A1.out).mono ?_);rintro e w' ⟨rfl,⟨nd,rfl⟩⟩;(try (rw [mF w8];generalize xP:World.drewN w8 _=w8;have Bo:Aside0 (w8.heap[gr]? =some (.cells #[.slice none 0 0,.slice none 0 0,.slice none 0 0,.slice none 0 0,.int .i64 0] 27 (0,0))):=⟨by rw [←xP];exact (dm BR)⟩;have Bn:Aside0 (Below w.heap.size w w8):=⟨by rw [←xP];exact (az HB GR)⟩;clear BR HB xP;have BR:=Bo;have HB:=Bn;clear Bo Bn));obtain ⟨Dy,Dx,Dr,Dq,Dj,Di,Dh,Db,Da,C4⟩:=an BR)|(go_at_call 71;(with_reducible refine (eX.calls k _ _ l0 true _ ?side1 ?side2 A2.out).mono ?_);(case side1=>exact cd (Kd.aD fZ.out (aq HB)));(case side2=>exact ki.out);rintro e w' ⟨rfl,⟨nd,rfl⟩⟩;clear Dy Dx Dr Dq Dj Di Dh Db Da C4;(try (rw [mF w8];generalize xP:World.drewN w8 _=w8;have Bo:Aside0 (w8.heap[gr]? =some (.cells #[.slice none 0 0,.slice none 0 0,.slice none 0 0,.slice none 0 0,.int .i64 0] 27 (0,0))):=⟨by rw [←xP];exact (dm BR)⟩;have Bn:Aside0 (Below w.heap.size w w8):=⟨by rw [←xP];exact (az HB GR)⟩;clear BR HB xP;have BR:=Bo;have HB:=Bn;clear Bo Bn));obtain ⟨Dy,Dx,Dr,Dq,Dj,Di,Dh,Db,Da,C4⟩:=an BR))
   clear Dy Dx Dr Dq Dj Di Dh Db Da C4
   replace BR:=ak (fG BR.out)
   replace HB:=ak (cO HB.out)
   refine dV (n:=12) (S:=fun w'=>True) (ds:=[]) (bl 12 0) (by kernel_rfl) rfl rfl trivial (fun ah=> ?_);refine bZ eu.FX eu.zJ (fun aA ef=> ?_)
   generalize w8.drew=w9 at BR HB ah⊢
   refine ag 0 (some 14) 12 1 aA ?_
   refine ag 2 (some 16) 12 5 aA ?_
   refine ag 3 (some 17) 12 13 aA ?_
   refine ag 5 (some 19) 12 45 aA ?_
   refine ag 6 (some 20) 12 109 aA ?_
   clear ah ef
   refine IV [1,4,7,8] (bl 12 511) (fuel:=3) (fun s a W=>∃x4 x5 x7 iO iz kD kV:Value,∃g5 g8 g9 gx:Nat,a=yO A0 c0 l0 gr x4 x5 x7 iO iz kD kV∧uW w W gr l0 false (s 1) (s 4) (s 7) (s 8) false false x4 x5 x7 iO iz kD kV g5 g8 g9 gx) ⟨undef,undef,undef,undef,undef,undef,undef,0,0,0,0,by simp only [yO],HB.out,BR.out,fun a=>(by cases a),fun a=>(by cases a),fun a=>(by cases a),fun a=>(by cases a),fun a=>(by cases a),fun a=>(by cases a),fun a=>(by cases a),fun a=>(by cases a),fun a=>(by cases a),fun a=>(by cases a)⟩ trivial ⟨?_,?_,?_,?_,trivial⟩ ?_
   ·refine Nw (some 15) (fun s a W hI hs hd K hK=> ?_)
    obtain ⟨x4,x5,x7,iO,iz,kD,kV,g5,g8,g9,gx,rfl,F⟩:=hI
    rw [hs] at F
    unfold yO
    refine fM Tryz.func85 (by kernel_rfl) rfl #[.slice A0 l0.length c0] (by rfl) rfl rfl (by (try simp only [List.map_toArray,List.map_cons,List.map_nil]);first|done|rfl) ?_
    with_reducible refine (cY.calls _ _ l0 l0 _ ?side1 ?side2 HCL.out).mono ?_
    (case side1=>exact cd (Kd.aD fZ.out F.below))
    (case side2=>exact ki.out)
    rintro e W1 ⟨v,rfl,ho,hb⟩
    refine ⟨_,rfl,?_⟩
    exact hK.out _ _ trivial ⟨x4,x5,v,iO,iz,kD,kV,g5,g8,g9,gx,by show Act.put _ (some 15) _=_;simp only [yO,Act.put,List.setIfInBounds_toArray,List.set_cons_zero,List.set_cons_succ],by simpa only [hs,hs,beq_self_eq_true,Bool.true_or,Bool.false_or,Nat.reduceBEq] using F.afk ho hb⟩
   ·refine Nw (some 18) (fun s a W hI hs hd K hK=> ?_)
    obtain ⟨x4,x5,x7,iO,iz,kD,kV,g5,g8,g9,gx,rfl,F⟩:=hI
    rw [hs] at F
    unfold yO
    refine rV (by rfl) rfl _ rfl l0.length HN.out rfl (fun v W1 ho hb hn=> ?_)
    exact hK.out _ _ trivial ⟨x4,x5,x7,v,iz,kD,kV,W.heap.size,g8,g9,gx,by show Act.put _ (some 18) _=_;simp only [yO,Act.put,List.setIfInBounds_toArray,List.set_cons_zero,List.set_cons_succ],by simpa only [hs,hs,beq_self_eq_true,Bool.true_or,Bool.false_or,Nat.reduceBEq] using F.aaL ho hb hn⟩
   ·refine Nw (some 21) (fun s a W hI hs hd K hK=> ?_)
    obtain ⟨x4,x5,x7,iO,iz,kD,kV,g5,g8,g9,gx,rfl,F⟩:=hI
    rw [hs] at F
    unfold yO
    refine rV (by rfl) rfl _ rfl l0.length HN.out rfl (fun v W1 ho hb hn=> ?_)
    exact hK.out _ _ trivial ⟨x4,x5,x7,iO,v,kD,kV,g5,W.heap.size,g9,gx,by show Act.put _ (some 21) _=_;simp only [yO,Act.put,List.setIfInBounds_toArray,List.set_cons_zero,List.set_cons_succ],by simpa only [hs,hs,beq_self_eq_true,Bool.true_or,Bool.false_or,Nat.reduceBEq] using F.aaK ho hb hn⟩
   ·refine Nw (some 22) (fun s a W hI hs hd K hK=> ?_)
    obtain ⟨x4,x5,x7,iO,iz,kD,kV,g5,g8,g9,gx,rfl,F⟩:=hI
    rw [hs] at F
    unfold yO
    refine rV (by rfl) rfl _ rfl 4 (by omega) rfl (fun v W1 ho hb hn=> ?_)
    exact hK.out _ _ trivial ⟨x4,x5,x7,iO,iz,v,kV,g5,g8,W.heap.size,gx,by show Act.put _ (some 22) _=_;simp only [yO,Act.put,List.setIfInBounds_toArray,List.set_cons_zero,List.set_cons_succ],by simpa only [hs,hs,beq_self_eq_true,Bool.true_or,Bool.false_or,Nat.reduceBEq] using F.aaJ ho hb hn⟩
   clear BR HB
   rintro a W-⟨x4,x5,x7,iO,iz,kD,kV,g5,g8,g9,gx,rfl,F⟩
   have HF:=ak F
   have K0:=ak (F.h2 rfl);have K1:=ak (F.h5 rfl);have K2:=ak (F.h8 rfl);have K3:=ak (F.h9 rfl)
   have HNE:=ak (⟨F.Ru rfl rfl,F.Rt rfl rfl,F.Rs rfl rfl⟩:g5≠g8∧g5≠g9∧g8≠g9)
   have BR:=ak F.Ll
   clear F
   unfold yO
   obtain ⟨A7,c7,e7⟩:=Kd.de K0.out;subst e7;obtain ⟨tH,gW,e10⟩:=Kd.mJ K1.out.1;subst e10;obtain ⟨sn,oA,e13⟩:=Kd.mJ K2.out.1;subst e13;obtain ⟨wS,oI,e14⟩:=Kd.mJ K3.out.1;subst e14
   rw [List.length_replicate] at K1 K2;rw [show (List.replicate 4 ([]:List ByteArray)).length=4 from rfl] at K3
   refine ag 9 (some 23) 12 1023 aA ?_
   obtain ⟨D3,Bv,D2,Zk,Zj,Zo,Lg,Lf,Qp,Zn⟩:=an BR
   refine fJ 10 none 12 2047 aA (fun K hK=> ?_)
   refine jV (w1:= ?_) (by rfl) rfl ?_ ?_
   rotate_left
   ·go_simp
    rfl
   refine hK.out _ _ trivial (fun _=> ?_)
   clear hK K D3 Bv D2 Zk Zj Zo Lg Lf Qp Zn
   refine ag 11 (some 3) 12 4095 aA ?_
   refine eZ (cV aA.out (by kernel_rfl)) ?_
   clear aA
   try simp only [List.length_replicate]
   go_wp2
   refine bodyPost_ret (cK rfl _ _ gr 27 #[.slice A7 l0.length c7,.slice tH l0.length gW,.slice sn l0.length oA,.slice wS 4 oI,.int .i64 0] (0,0) _ rfl (by exact oR BR.out _ _ _ _ _) Tryz.underlying27 rfl (by kernel_rfl)) rfl ?_
   exact ⟨_,_,_,_,g5,g8,g9,rfl,CB K0.out BR.out _ _ _ _ _,(xy.Ow K1.out BR.out _ _ _ _ _).1,(xy.Ow K2.out BR.out _ _ _ _ _).1,(xy.Ow K3.out BR.out _ _ _ _ _).1,HNE.out,mB HF.out.below GR.out _ _ _ _ _⟩
theorem eu.calls (k:Nat) (A0:Option Addr) (c0:Nat) (l0:List Int) (r1:List Int) (r2:List (List ByteArray)) (r3:List (List ByteArray)) (r4:List (List ByteArray)) (r5:Int) (r6:Bool) (w:World) (ff:Kd.C (Kd.int .i64) w A0 l0.length l0) (fL:l0.length≤c0) (h:eu.f k l0=some (r1,r2,r3,r4,r5,r6)):
  Calls Tryz.prog 48 #[.slice A0 l0.length c0] w fun e w'=>∃lG Ed Ec Eb:Value,e= .returned (.tuple #[.agg #[lG,Ed,Ec,Eb,.int .i64 r5],.bool r6])∧Kd.R (Kd.int .i64) 3 w' w.heap.size (fun _=>True) lG r1∧Kd.S (Kd.slice 9 Kd.string) 62 w' w.heap.size (fun k_=>some k_≠(Ec:Value).ownBlock∧some k_≠(Eb:Value).ownBlock) Ed r2∧Kd.S (Kd.slice 9 Kd.string) 62 w' w.heap.size (fun k_=>some k_≠(Ed:Value).ownBlock∧some k_≠(Eb:Value).ownBlock) Ec r3∧Kd.S (Kd.slice 9 Kd.string) 62 w' w.heap.size (fun k_=>some k_≠(Ed:Value).ownBlock∧some k_≠(Ec:Value).ownBlock) Eb r4∧Below w.heap.size w w':=by
 obtain ⟨h1,rfl⟩:=eu.zu k A0 c0 l0 r1 r2 r3 r4 r5 r6 w ff fL h
 exact h1.mono fun e w' he=>CC he
theorem Rn {k:Nat} {A0:Option Addr} {c0:Nat} {l0:List Int} {r1:List Int} {r2 r3 r4:List (List ByteArray)} {r5:Int} {r6:Bool} {w:World} (ff:KI.C w A0 l0.length l0) (fL:l0.length≤c0) (h:eu.f k l0=some (r1,r2,r3,r4,r5,r6)):
    Calls Tryz.prog 48 #[.slice A0 l0.length c0] w (qc w ⟨r1,r2,r3,r4,r5⟩ r6):=by
  obtain ⟨h1,rfl⟩:=eu.zu k A0 c0 l0 r1 r2 r3 r4 r5 r6 w ff fL h
  exact h1.mono fun e w' he=>CA he
theorem Cz {k:Nat} {v0 v1 v2 v3 u0 u1 u2 u3:Value} {n m:Nt} {r:Bool} {w:World} (hn:NC w v0 v1 v2 v3 n) (hm:NC w u0 u1 u2 u3 m) (h:iq.f k n.ks n.ps n.ss n.ib n.sd m.ks m.ps m.ss m.ib m.sd=some r):
    Calls Tryz.prog 33 #[.agg #[v0,v1,v2,v3,.int .i64 n.sd],.agg #[u0,u1,u2,u3,.int .i64 m.sd]] w fun e w'=>e= .returned (.bool r)∧Below w.heap.size w w':=by
  obtain ⟨A0,c0,A1,c1,A2,c2,A3,c3,⟨rfl,rfl,rfl,rfl⟩,⟨r0,l0⟩,⟨r1,l1⟩,⟨r2,l2⟩,⟨r3,l3⟩⟩:=hn
  obtain ⟨B0,d0,B1,d1,B2,d2,B3,d3,⟨rfl,rfl,rfl,rfl⟩,⟨s0,m0⟩,⟨s1,m1⟩,⟨s2,m2⟩,⟨s3,m3⟩⟩:=hm
  exact iq.calls k A0 c0 n.ks A1 c1 n.ps A2 c2 n.ss A3 c3 n.ib n.sd B0 d0 m.ks B1 d1 m.ps B2 d2 m.ss B3 d3 m.ib m.sd r w r0 l0 r1 l1 r2 l2 r3 l3 s0 m0 s1 m1 s2 m2 s3 m3 h
theorem GL {k:Nat} {v0 v1 v2 v3:Value} {n:Nt} {r1:Int} {r2:Bool} {w:World} (hn:NC w v0 v1 v2 v3 n) (h:gp.f k n.ks n.ps n.ss n.ib n.sd=some (r1,r2)):
    Calls Tryz.prog 34 #[.agg #[v0,v1,v2,v3,.int .i64 n.sd]] w fun e w'=>e= .returned (.tuple #[.int .i64 r1,.bool r2])∧Below w.heap.size w w':=by
  obtain ⟨A0,c0,A1,c1,A2,c2,A3,c3,⟨rfl,rfl,rfl,rfl⟩,⟨x0,y0⟩,⟨x1,y1⟩,⟨x2,y2⟩,⟨x3,y3⟩⟩:=hn
  exact gp.calls k A0 c0 n.ks A1 c1 n.ps A2 c2 n.ss A3 c3 n.ib n.sd r1 r2 w x0 y0 x1 y1 x2 y2 x3 y3 h
theorem V8 {k:Nat} {v0 v1 v2 v3:Value} {n:Nt} {r1:Int} {r2:Bool} {w:World} (hn:NC w v0 v1 v2 v3 n) (h:dF.f k n.ks n.ps n.ss n.ib n.sd=some (r1,r2)):
    Calls Tryz.prog 44 #[.agg #[v0,v1,v2,v3,.int .i64 n.sd]] w fun e w'=>e= .returned (.tuple #[.int .i64 r1,.bool r2])∧Below w.heap.size w w':=by
  obtain ⟨A0,c0,A1,c1,A2,c2,A3,c3,⟨rfl,rfl,rfl,rfl⟩,⟨x0,y0⟩,⟨x1,y1⟩,⟨x2,y2⟩,⟨x3,y3⟩⟩:=hn
  exact dF.calls k A0 c0 n.ks A1 c1 n.ps A2 c2 n.ss A3 c3 n.ib n.sd r1 r2 w x0 y0 x1 y1 x2 y2 x3 y3 h
theorem V9 {k:Nat} {v0 v1 v2 v3:Value} {n:Nt} {u:Int} {r1:List ByteArray} {r2:Bool} {w:World} (hn:NC w v0 v1 v2 v3 n) (h:jQ.f k n.ks n.ps n.ss n.ib n.sd u=some (r1,r2)):
    Calls Tryz.prog 36 #[.agg #[v0,v1,v2,v3,.int .i64 n.sd],.int .i64 u] w fun e w'=>∃lG:Value,e= .returned (.tuple #[lG,.bool r2])∧Kd.R Kd.string 9 w' w.heap.size (fun _=>True) lG r1∧Below w.heap.size w w':=by
  obtain ⟨A0,c0,A1,c1,A2,c2,A3,c3,⟨rfl,rfl,rfl,rfl⟩,⟨x0,y0⟩,⟨x1,y1⟩,⟨x2,y2⟩,⟨x3,y3⟩⟩:=hn
  exact jQ.calls k A0 c0 n.ks A1 c1 n.ps A2 c2 n.ss A3 c3 n.ib n.sd u r1 r2 w x0 y0 x1 y1 x2 y2 x3 y3 h
theorem V7 {k:Nat} {v0 v1 v2 v3:Value} {n:Nt} {u:Int} {r1:List ByteArray} {r2:Bool} {w:World} (hn:NC w v0 v1 v2 v3 n) (h:aT.f k n.ks n.ps n.ss n.ib n.sd u=some (r1,r2)):
    Calls Tryz.prog 46 #[.agg #[v0,v1,v2,v3,.int .i64 n.sd],.int .i64 u] w fun e w'=>∃lG:Value,e= .returned (.tuple #[lG,.bool r2])∧Kd.R Kd.string 9 w' w.heap.size (fun _=>True) lG r1∧Below w.heap.size w w':=by
  obtain ⟨A0,c0,A1,c1,A2,c2,A3,c3,⟨rfl,rfl,rfl,rfl⟩,⟨x0,y0⟩,⟨x1,y1⟩,⟨x2,y2⟩,⟨x3,y3⟩⟩:=hn
  exact aT.calls k A0 c0 n.ks A1 c1 n.ps A2 c2 n.ss A3 c3 n.ib n.sd u r1 r2 w x0 y0 x1 y1 x2 y2 x3 y3 h
theorem Nq:∃i,Tryz.prog.info? 9=some i∧i.size=1:=⟨_,rfl,by kernel_rfl⟩
def cl.T6:Bool×List (List Nat×List Nat):=(true,[([],[]),([],[]),([0,1],[0,1]),([2],[2]),([3],[3]),([3],[3]),([4,5,3,3],[3,4,5]),([6,3],[3,6]),([3,7],[3,7]),([8,6],[8]),([9],[9]),([10,9,9],[9,10]),([9],[9]),([12,11,9],[9,12]),([11,13,9],[9,11,13]),([9,14],[9,14])])
def cl.B6:List Nat:=[0,0,3,7,15,15,63,127,255,511,1023,2047,1023,8191,16383,32767]
theorem cl.FW:gz .any (opsOf Tryz.f7 6)=cl.T6:=by kernel_rfl
theorem cl.zI:dZ cl.T6.2 cl.B6=true:=by kernel_rfl
def cl.u (k:Nat) (n x:Nt) (j:Nat):Option Bool:=if j<x.ib.length∧(aN n.ib (j:Int)).length≤(aN x.ib (j:Int)).length then cI.f k ((aN x.ib (j:Int)).take (aN n.ib (j:Int)).length) (aN n.ib (j:Int)) else none
def cl.m (k:Nat) (n x:Nt) (z:Int):Option Bool:=(gp.f k n.ks n.ps n.ss n.ib n.sd).bind fun (a,one)=>(gp.f k x.ks x.ps x.ss x.ib x.sd).bind fun (b,two)=>(ax.f k x.ks x.ps x.ss x.ib x.sd).bind fun e=>if (e=true∧one=true∧two=true)∧(b≤wrap64 (a+1)∧(z=2→b≤a))∧n.ib.length≤1048576∧∀j,j<n.ib.length→cl.u k n x j=some true then some true else none
def cl.r (k:Nat) (l1:List Int):Option Bool:=(gM.f k l1).bind fun y=>(iD.f k y).bind fun (z,one)=>(dW.f k y).bind fun (z2,two)=>(gp.f k y.ks y.ps y.ss y.ib y.sd).bind fun (c,three)=>(dF.f k y.ks y.ps y.ss y.ib y.sd).bind fun (c2,four)=>(gN.f k l1).bind fun (v,u)=>(jQ.f k v.ks v.ps v.ss v.ib v.sd u).bind fun (a,Ov)=>(aT.f k v.ks v.ps v.ss v.ib v.sd u).bind fun (b,six)=>(iS.f k l1).bind fun K=>(eu.f k K).bind fun (p1,p2,p3,p4,p5,seven)=>(dU.f k K).bind fun (q1,q2,q3,q4,q5,eight)=>(iq.f k z.ks z.ps z.ss z.ib z.sd z2.ks z2.ps z2.ss z2.ib z2.sd).bind fun e2=>(cI.f k a b).bind fun e3=>(iq.f k p1 p2 p3 p4 p5 q1 q2 q3 q4 q5).bind fun e4=>if (one=two∧e2=true)∧(three=four∧c=c2)∧(Ov=six∧e3=true)∧seven=eight∧e4=true then some true else none
def cl.f (k:Nat) (l0 l1:List Int):Option Bool:=
 if wrap64 ((l0.length:Int)+(l1.length:Int))>1048576 then some true else
 (dr.f k l0).bind fun (n,st)=>(jP.f k n st.f0 st.f1 st.f2).bind fun (x,q)=>(eP.f k n st.f0 st.f1 st.f2).bind fun (m,q')=>
 (iq.f k x.ks x.ps x.ss x.ib x.sd m.ks m.ps m.ss m.ib m.sd).bind fun e1=>(ax.f k n.ks n.ps n.ss n.ib n.sd).bind fun g1=>(aj.f k n.ks n.ps n.ss n.ib n.sd).bind fun g2=>
 if (q=q'∧e1=true∧g1=g2)∧(q=true→cl.m k n x st.f0=some true) then cl.r k l1 else none
theorem cl.calls (k:Nat) (A0:Option Addr) (c0:Nat) (l0:List Int) (A1:Option Addr) (c1:Nat) (l1:List Int) (r:Bool) (w:World) (ff:Kd.C (Kd.int .u8) w A0 l0.length l0) (fL:l0.length≤c0) (sH:Kd.C (Kd.int .u8) w A1 l1.length l1) (qA:l1.length≤c1) (h:cl.f k l0 l1=some r) (FL:r=true):
  Calls Tryz.prog 7 #[.slice A0 l0.length c0,.slice A1 l1.length c1] w fun e w'=>e= .returned (.bool r)∧Below w.heap.size w w':=by
 subst FL
 have lg:=Tryz.underlying27
 have GX:=Tryz.underlying53
 have fZ:=ak ff;have ki:=ak fL;have yc:=ak sH;have LS:=ak qA
 clear ff fL sH qA
 have HS:=Sep.nil w
 unfold cl.f at h
 by_cases wO:wrap64 ((l0.length:Int)+(l1.length:Int))>1048576
 ·have ahD:decide (1048576<wrap64 ((l0.length:Int)+(l1.length:Int)))=true:=decide_eq_true wO
  clear h wO
  go_enter Tryz.func7,Tryz.ntmps7
  go_wp2
  go_ret
  exact ⟨er,HS.base⟩
 ·rw [if_neg wO] at h
  have ahD:decide (1048576<wrap64 ((l0.length:Int)+(l1.length:Int)))=false:=decide_eq_false wO
  clear wO
  replace h:=bS h;obtain ⟨⟨n,s0,s1,s2⟩,T0,h⟩:=h
  dsimp only at h
  replace h:=bS h;obtain ⟨⟨x,q⟩,T1,h⟩:=h
  dsimp only at h
  replace h:=bS h;obtain ⟨⟨m,q'⟩,T2,h⟩:=h
  dsimp only at h
  replace h:=bS h;obtain ⟨e1,T3,h⟩:=h
  replace h:=bS h;obtain ⟨g1,T4,h⟩:=h
  replace h:=bS h;obtain ⟨g2,T5,h⟩:=h
  replace h:=dy h;obtain ⟨⟨⟨rfl,rfl,rfl⟩,hM_⟩,h⟩:=h
  have HM:=ak hM_;clear hM_
  have HH:=ak h;clear h
  have hq6:(q !=q)=false:=bne_self_eq_false q
  have hg6:(g1 !=g1)=false:=bne_self_eq_false g1
  go_enter Tryz.func7,Tryz.ntmps7
  go_upto_region 4 with (first|(go_at_call 41;have cE:=dr.calls (Kd.aD fZ.out HS.base) ki.out T0.out;refine cE.mono ?_;clear cE;rintro e W_ ⟨gv0,gv1,gv2,gv3,rfl,ie,aW⟩;replace HS:=HS.news aW ie;clear ie aW;dsimp only [eO,List.cons_append,List.nil_append] at HS;obtain ⟨vY,vR,rfl⟩:=HS.lz 0;obtain ⟨xB,xu,rfl⟩:=HS.gY 1;obtain ⟨Ae,zq,rfl⟩:=HS.gY 2;obtain ⟨Ac,AN,rfl⟩:=HS.gY 3)|((with_reducible refine av (N:=5) rfl ?_);refine bN 5 #[.slice none 0 0,.slice none 0 0,.slice none 0 0,.slice none 0 0,.int .i64 0] 27 ?_;intro b5 bK W_ bD aW;replace HS:=HS.box bK bD aW;clear bK bD aW;have jz:=an (HS.aI 0))|((with_reducible refine av (N:=6) rfl ?_);refine bN 6 #[.int .i64 0,.int .i64 0,.string (⟨#[]⟩:ByteArray)] 53 ?_;intro b6 bK W_ bD aW;replace HS:=HS.box bK bD aW;clear bK bD aW;clear jz;have jZ:=ck (HS.aI 0);clear jZ;have jZ:=ck (HS.aI 0);have jz:=an (HS.aI 1))|((with_reducible refine p7 (p:=5) rfl ?_);refine n9 rfl rfl rfl (w1:= ?ws5) ?hs5 ?_;(case hs5=>first|(go_simp;rfl)|(go_simp;done));intro W_ Tr;replace HS:=(((((HS.cq 1 0 (.slice vY n.ks.length vR) #[.slice vY n.ks.length vR,.slice none 0 0,.slice none 0 0,.slice none 0 0,.int .i64 0]).cq 1 1 (.slice xB n.ps.length xu) #[.slice vY n.ks.length vR,.slice xB n.ps.length xu,.slice none 0 0,.slice none 0 0,.int .i64 0]).cq 1 2 (.slice Ae n.ss.length zq) #[.slice vY n.ks.length vR,.slice xB n.ps.length xu,.slice Ae n.ss.length zq,.slice none 0 0,.int .i64 0]).cq 1 3 (.slice Ac n.ib.length AN) #[.slice vY n.ks.length vR,.slice xB n.ps.length xu,.slice Ae n.ss.length zq,.slice Ac n.ib.length AN,.int .i64 0]).cq 1 4 (.int .i64 n.sd) #[.slice vY n.ks.length vR,.slice xB n.ps.length xu,.slice Ae n.ss.length zq,.slice Ac n.ib.length AN,.int .i64 n.sd]);rw [←Tr] at HS;clear Tr;clear jZ jz;have jZ:=ck (HS.aI 0))|((with_reducible refine p7 (p:=6) rfl ?_);refine n9 rfl rfl rfl (w1:= ?ws6) ?hs6 ?_;(case hs6=>first|(go_simp;rfl)|(go_simp;done));intro W_ Tr;replace HS:=(((HS.cq 0 0 (.int .i64 s0) #[.int .i64 s0,.int .i64 0,.string (⟨#[]⟩:ByteArray)]).cq 0 1 (.int .i64 s1) #[.int .i64 s0,.int .i64 s1,.string (⟨#[]⟩:ByteArray)]).cq 0 2 (.string s2) #[.int .i64 s0,.int .i64 s1,.string s2]);rw [←Tr] at HS;clear Tr;clear jZ))
  have jZ:=ck (HS.aI 0)
  have jz:=an (HS.aI 1)
  go_upto_region 5 with (first|(go_at_call 30;have cE:=jP.calls (n:=n) (jW HS 2) T1.out;refine cE.mono ?_;clear cE;rintro e W_ ⟨xv0,xv1,xv2,xv3,rfl,ie,aW⟩;replace HS:=HS.news aW ie;clear ie aW;dsimp only [eO,List.cons_append,List.nil_append] at HS;obtain ⟨xz,xp,rfl⟩:=HS.lz 0;obtain ⟨Ab,zn,rfl⟩:=HS.gY 1;obtain ⟨AT,AL,rfl⟩:=HS.gY 2;obtain ⟨AR,DD,rfl⟩:=HS.gY 3;clear jZ jz;have jZ:=ck (HS.aI 4);have jz:=an (HS.aI 5))|((with_reducible refine av (N:=7) rfl ?_);refine bN 7 #[.slice none 0 0,.slice none 0 0,.slice none 0 0,.slice none 0 0,.int .i64 0] 27 ?_;intro b7 bK W_ bD aW;replace HS:=HS.box bK bD aW;clear bK bD aW;clear jZ jz;have fj:=an (HS.aI 0);clear fj;have fj:=an (HS.aI 0);have jZ:=ck (HS.aI 5);have jz:=an (HS.aI 6)))
  clear fj jZ jz
  obtain ⟨rC,gU,gX⟩:=(((((HS.cq 0 0 (.slice xz x.ks.length xp) #[.slice xz x.ks.length xp,.slice none 0 0,.slice none 0 0,.slice none 0 0,.int .i64 0]).cq 0 1 (.slice Ab x.ps.length zn) #[.slice xz x.ks.length xp,.slice Ab x.ps.length zn,.slice none 0 0,.slice none 0 0,.int .i64 0]).cq 0 2 (.slice AT x.ss.length AL) #[.slice xz x.ks.length xp,.slice Ab x.ps.length zn,.slice AT x.ss.length AL,.slice none 0 0,.int .i64 0]).cq 0 3 (.slice AR x.ib.length DD) #[.slice xz x.ks.length xp,.slice Ab x.ps.length zn,.slice AT x.ss.length AL,.slice AR x.ib.length DD,.int .i64 0]).cq 0 4 (.int .i64 x.sd) #[.slice xz x.ks.length xp,.slice Ab x.ps.length zn,.slice AT x.ss.length AL,.slice AR x.ib.length DD,.int .i64 x.sd]).gen
  rw [gU]
  clear HS gU
  have HS:=gX
  clear gX
  have fj:=an (HS.aI 0)
  have jZ:=ck (HS.aI 5)
  have jz:=an (HS.aI 6)
  go_upto_region 6 with (first|(go_at_call 28;have cE:=eP.calls (n:=n) (jW HS 7) T2.out;refine cE.mono ?_;clear cE;rintro e W_ ⟨wv0,wv1,wv2,wv3,rfl,ie,aW⟩;replace HS:=HS.news aW ie;clear ie aW;dsimp only [eO,List.cons_append,List.nil_append] at HS;obtain ⟨FI,E8,rfl⟩:=HS.lz 0;obtain ⟨Iq,HV,rfl⟩:=HS.gY 1;obtain ⟨LX,Ls,rfl⟩:=HS.gY 2;obtain ⟨Qh,OE,rfl⟩:=HS.gY 3;clear fj jZ jz;have fj:=an (HS.aI 4);have jZ:=ck (HS.aI 9);have jz:=an (HS.aI 10))|((with_reducible refine av (N:=9) rfl ?_);refine bN 9 #[.slice none 0 0,.slice none 0 0,.slice none 0 0,.slice none 0 0,.int .i64 0] 27 ?_;intro b9 bK W_ bD aW;replace HS:=HS.box bK bD aW;clear bK bD aW;clear fj jZ jz;have rQ:=an (HS.aI 0);clear rQ;have rQ:=an (HS.aI 0);have fj:=an (HS.aI 5);have jz:=an (HS.aI 11)))
  clear rQ fj jz
  obtain ⟨rC,gU,gX⟩:=(((((HS.cq 0 0 (.slice FI m.ks.length E8) #[.slice FI m.ks.length E8,.slice none 0 0,.slice none 0 0,.slice none 0 0,.int .i64 0]).cq 0 1 (.slice Iq m.ps.length HV) #[.slice FI m.ks.length E8,.slice Iq m.ps.length HV,.slice none 0 0,.slice none 0 0,.int .i64 0]).cq 0 2 (.slice LX m.ss.length Ls) #[.slice FI m.ks.length E8,.slice Iq m.ps.length HV,.slice LX m.ss.length Ls,.slice none 0 0,.int .i64 0]).cq 0 3 (.slice Qh m.ib.length OE) #[.slice FI m.ks.length E8,.slice Iq m.ps.length HV,.slice LX m.ss.length Ls,.slice Qh m.ib.length OE,.int .i64 0]).cq 0 4 (.int .i64 m.sd) #[.slice FI m.ks.length E8,.slice Iq m.ps.length HV,.slice LX m.ss.length Ls,.slice Qh m.ib.length OE,.int .i64 m.sd]).gen
  rw [gU]
  clear HS gU
  have HS:=gX
  clear gX
  have rQ:=an (HS.aI 0)
  have fj:=an (HS.aI 5)
  have jz:=an (HS.aI 11)
  clear rQ fj jz
  go_upto_region 6 with fail
  have rQ:=an (HS.aI 0)
  have fj:=an (HS.aI 5)
  have jz:=an (HS.aI 11)
  refine dV (n:=16) (S:=fun w'=>w'.cell? ⟨b9,0,none⟩=some (.slice FI m.ks.length E8)∧w'.cell? ⟨b9,1,none⟩=some (.slice Iq m.ps.length HV)∧w'.cell? ⟨b9,2,none⟩=some (.slice LX m.ss.length Ls)∧w'.cell? ⟨b9,3,none⟩=some (.slice Qh m.ib.length OE)∧w'.cell? ⟨b9,4,none⟩=some (.int .i64 m.sd)∧w'.cell? ⟨b7,0,none⟩=some (.slice xz x.ks.length xp)∧w'.cell? ⟨b7,1,none⟩=some (.slice Ab x.ps.length zn)∧w'.cell? ⟨b7,2,none⟩=some (.slice AT x.ss.length AL)∧w'.cell? ⟨b7,3,none⟩=some (.slice AR x.ib.length DD)∧w'.cell? ⟨b7,4,none⟩=some (.int .i64 x.sd)∧w'.cell? ⟨b5,0,none⟩=some (.slice vY n.ks.length vR)∧w'.cell? ⟨b5,1,none⟩=some (.slice xB n.ps.length xu)∧w'.cell? ⟨b5,2,none⟩=some (.slice Ae n.ss.length zq)∧w'.cell? ⟨b5,3,none⟩=some (.slice Ac n.ib.length AN)∧w'.cell? ⟨b5,4,none⟩=some (.int .i64 n.sd)) (ds:=[]) (bl 16 0) (by kernel_rfl) rfl rfl ⟨rQ.1,rQ.2.1,rQ.2.2.1,rQ.2.2.2.1,rQ.2.2.2.2.1,fj.1,fj.2.1,fj.2.2.1,fj.2.2.2.1,fj.2.2.2.2.1,jz.1,jz.2.1,jz.2.2.1,jz.2.2.2.1,jz.2.2.2.2.1⟩ (fun ah=> ?_);refine bZ cl.FW cl.zI (fun aA ef=> ?_)
  clear rQ fj jz
  replace HS:=HS.drew
  generalize World.drew _=tD at HS ah⊢
  refine ag 0 (some 60) 16 1 aA ?_
  refine ag 1 (some 61) 16 3 aA ?_
  refine ag 2 (some 62) 16 7 aA ?_
  refine ag 3 (some 63) 16 15 aA ?_
  refine cg 4 (some 64) 16 31 aA ef ah ?_ (hy:=by rintro w' ⟨s0,s1,s2,s3,s4,s5,s6,s7,s8,s9,KN,KM,KK,MY,s14⟩;go_simp;with_reducible rfl)
  refine cg 5 (some 65) 16 63 aA ef ah ?_ (hy:=by rintro w' ⟨s0,s1,s2,s3,s4,s5,s6,s7,s8,s9,KN,KM,KK,MY,s14⟩;go_simp;with_reducible rfl)
  refine fJ 6 (some 66) 16 127 aA (fun K hK=> ?_)
  refine fM Tryz.func33 (by kernel_rfl) rfl #[.agg #[.slice xz x.ks.length xp,.slice Ab x.ps.length zn,.slice AT x.ss.length AL,.slice AR x.ib.length DD,.int .i64 x.sd],.agg #[.slice FI m.ks.length E8,.slice Iq m.ps.length HV,.slice LX m.ss.length Ls,.slice Qh m.ib.length OE,.int .i64 m.sd]] (by rfl) rfl rfl (by (try simp only [List.map_toArray,List.map_cons,List.map_nil]);first|done|rfl) ?_
  have cE:=Cz (n:=x) (m:=m) (jW HS 6) (jW HS 1) T3.out
  refine cE.mono ?_
  clear cE ah
  rintro e W_ ⟨rfl,aW⟩
  refine ⟨_,rfl,?_⟩
  replace HS:=HS.below aW
  clear aW
  have rQ:=an (HS.aI 0)
  have fj:=an (HS.aI 5)
  have jz:=an (HS.aI 11)
  refine hK.out _ _ ⟨rQ.1,rQ.2.1,rQ.2.2.1,rQ.2.2.2.1,rQ.2.2.2.2.1,fj.1,fj.2.1,fj.2.2.1,fj.2.2.2.1,fj.2.2.2.2.1,jz.1,jz.2.1,jz.2.2.1,jz.2.2.2.1,jz.2.2.2.2.1⟩ (fun ah=> ?_)
  clear hK K rQ fj jz
  refine cM (a':= ?_) ?_ ?_
  rotate_left
  ·show Act.put _ (some 66) _=_
   simp only [Act.put,List.setIfInBounds_toArray,List.set_cons_zero,List.set_cons_succ,bW,cA]
   rfl
  refine ag 7 (some 67) 16 255 aA ?_
  refine ag 8 (some 68) 16 511 aA ?_
  refine ag 9 (some 69) 16 1023 aA ?_
  refine cg 10 (some 70) 16 2047 aA ef ah ?_ (hy:=by rintro w' ⟨s0,s1,s2,s3,s4,s5,s6,s7,s8,s9,KN,KM,KK,MY,s14⟩;go_simp;with_reducible rfl)
  refine cg 12 (some 72) 16 6143 aA ef ah ?_ (hy:=by rintro w' ⟨s0,s1,s2,s3,s4,s5,s6,s7,s8,s9,KN,KM,KK,MY,s14⟩;go_simp;with_reducible rfl)
  refine fJ 11 (some 71) 16 8191 aA (fun K hK=> ?_)
  refine fM Tryz.func35 (by kernel_rfl) rfl #[.agg #[.slice vY n.ks.length vR,.slice xB n.ps.length xu,.slice Ae n.ss.length zq,.slice Ac n.ib.length AN,.int .i64 n.sd]] (by rfl) rfl rfl (by (try simp only [List.map_toArray,List.map_cons,List.map_nil]);first|done|rfl) ?_
  have cE:=ax.KZ (n:=n) (jW HS 12) T4.out
  refine cE.mono ?_
  clear cE ah
  rintro e W_ ⟨rfl,aW⟩
  refine ⟨_,rfl,?_⟩
  replace HS:=HS.below aW
  clear aW
  have rQ:=an (HS.aI 0)
  have fj:=an (HS.aI 5)
  have jz:=an (HS.aI 11)
  refine hK.out _ _ ⟨rQ.1,rQ.2.1,rQ.2.2.1,rQ.2.2.2.1,rQ.2.2.2.2.1,fj.1,fj.2.1,fj.2.2.1,fj.2.2.2.1,fj.2.2.2.2.1,jz.1,jz.2.1,jz.2.2.1,jz.2.2.2.1,jz.2.2.2.2.1⟩ (fun ah=> ?_)
  clear hK K rQ fj jz
  refine cM (a':= ?_) ?_ ?_
  rotate_left
  ·show Act.put _ (some 71) _=_
   simp only [Act.put,List.setIfInBounds_toArray,List.set_cons_zero,List.set_cons_succ,bW,cA]
   rfl
  refine fJ 13 (some 73) 16 16383 aA (fun K hK=> ?_)
  refine fM Tryz.func42 (by kernel_rfl) rfl #[.agg #[.slice vY n.ks.length vR,.slice xB n.ps.length xu,.slice Ae n.ss.length zq,.slice Ac n.ib.length AN,.int .i64 n.sd]] (by rfl) rfl rfl (by (try simp only [List.map_toArray,List.map_cons,List.map_nil]);first|done|rfl) ?_
  have cE:=aj.KZ (n:=n) (jW HS 12) T5.out
  refine cE.mono ?_
  clear cE ah
  rintro e W_ ⟨rfl,aW⟩
  refine ⟨_,rfl,?_⟩
  replace HS:=HS.below aW
  clear aW
  have rQ:=an (HS.aI 0)
  have fj:=an (HS.aI 5)
  have jz:=an (HS.aI 11)
  refine hK.out _ _ ⟨rQ.1,rQ.2.1,rQ.2.2.1,rQ.2.2.2.1,rQ.2.2.2.2.1,fj.1,fj.2.1,fj.2.2.1,fj.2.2.2.1,fj.2.2.2.2.1,jz.1,jz.2.1,jz.2.2.1,jz.2.2.2.1,jz.2.2.2.2.1⟩ (fun ah=> ?_)
  clear hK K rQ fj jz
  refine cM (a':= ?_) ?_ ?_
  rotate_left
  ·show Act.put _ (some 73) _=_
   simp only [Act.put,List.setIfInBounds_toArray,List.set_cons_zero,List.set_cons_succ,bW,cA]
   rfl
  refine ag 14 (some 74) 16 32767 aA ?_
  refine ag 15 (some 75) 16 65535 aA ?_
  refine eZ (cV aA.out (by kernel_rfl)) ?_
  clear aA ef ah
  go_upto_if 76 with fail
  go_cut [] (fun wc=>Sep w wc [])
  case first=>
    clear HH
    cases q with
    |false=>
     clear HM
     go_wp2
     go_meet
     case rel=>exact HS.none
    |true=>
     have h:=HM.out rfl;clear HM
     unfold cl.m at h
     replace h:=bS h;obtain ⟨⟨a,one⟩,T6,h⟩:=h
     dsimp only at h
     replace h:=bS h;obtain ⟨⟨b,two⟩,T7,h⟩:=h
     dsimp only at h
     replace h:=bS h;obtain ⟨e,T8,h⟩:=h
     replace h:=dy h;obtain ⟨⟨⟨rfl,rfl,rfl⟩,⟨Oq,L9⟩,hN_,hU_⟩,-⟩:=h
     have HN:=ak hN_;have HU:=ak hU_;have YS:=ak L9;clear hN_ hU_ L9
     have hbb:decide (wrap64 (a+1)<b)=false:=decide_eq_false (by omega)
     clear Oq
     replace HS:=HS.tail
     replace HS:=HS.tail
     replace HS:=HS.tail
     replace HS:=HS.tail
     replace HS:=HS.tail
     have fj:=an (HS.aI 0)
     have jz:=an (HS.aI 6)
     go_upto_region 10 with (first|(go_at_call 34;have cE:=GL (n:=n) (jW HS 7) T6.out;refine cE.mono ?_;clear cE;rintro e W_ ⟨rfl,aW⟩;replace HS:=HS.below aW;clear aW;clear fj jz;have fj:=an (HS.aI 0);have jz:=an (HS.aI 6)))
     go_upto_region 11 with (first|(go_at_call 34;have cE:=GL (n:=x) (jW HS 1) T7.out;refine cE.mono ?_;clear cE;rintro e W_ ⟨rfl,aW⟩;replace HS:=HS.below aW;clear aW;clear fj jz;have fj:=an (HS.aI 0);have jz:=an (HS.aI 6)))
     clear fj jz
     go_cut [113] (fun aeT wc=>aeT= .bool false∧Sep w wc [rA KI 3 (.slice vY n.ks.length vR) n.ks,sA KT 62 (.slice xB n.ps.length xu) n.ps,sA KT 62 (.slice Ae n.ss.length zq) n.ss,sA KT 62 (.slice Ac n.ib.length AN) n.ib,rA KI 3 (.slice xz x.ks.length xp) x.ks,sA KT 62 (.slice Ab x.ps.length zn) x.ps,sA KT 62 (.slice AT x.ss.length AL) x.ss,sA KT 62 (.slice AR x.ib.length DD) x.ib,bA b5 #[.slice vY n.ks.length vR,.slice xB n.ps.length xu,.slice Ae n.ss.length zq,.slice Ac n.ib.length AN,.int .i64 n.sd] 27,bA b6 #[.int .i64 s0,.int .i64 s1,.string s2] 53,bA b7 #[.slice xz x.ks.length xp,.slice Ab x.ps.length zn,.slice AT x.ss.length AL,.slice AR x.ib.length DD,.int .i64 x.sd] 27])
     case first=>
       have qz:=YS.out;clear YS HU HN
       by_cases hz:s0=2
       ·have zb:=lO hz
        have hba:decide (a<b)=false:=decide_eq_false (by have:=qz hz;omega)
        clear hz qz
        have fj:=an (HS.aI 0)
        have jZ:=ck (HS.aI 5)
        have jz:=an (HS.aI 6)
        go_wp2_with (first|(go_at_call 35;have cE:=ax.KZ (n:=x) (jW HS 1) T8.out;refine cE.mono ?_;clear cE;rintro e W_ ⟨rfl,aW⟩;replace HS:=HS.below aW;clear aW;clear fj jZ jz;have fj:=an (HS.aI 0);have jZ:=ck (HS.aI 5);have jz:=an (HS.aI 6)))
        go_meet
        case rel=>exact ⟨er,HS.jR.jw.jw.jw.jw.jw.vO.vO.vO.vO⟩
       ·have zb:=lq hz
        clear hz qz
        have fj:=an (HS.aI 0)
        have jZ:=ck (HS.aI 5)
        have jz:=an (HS.aI 6)
        go_wp2_with (first|(go_at_call 35;have cE:=ax.KZ (n:=x) (jW HS 1) T8.out;refine cE.mono ?_;clear cE;rintro e W_ ⟨rfl,aW⟩;replace HS:=HS.below aW;clear aW;clear fj jZ jz;have fj:=an (HS.aI 0);have jZ:=ck (HS.aI 5);have jz:=an (HS.aI 6)))
        go_meet
        case rel=>exact ⟨er,HS.jR.jw.jw.jw.jw.jw.vO.vO.vO.vO⟩
     case rest=>
       clear HS YS
       obtain ⟨rfl,HS⟩:=hcut
       have jz:=an (HS.aI 8)
       go_upto_region 14 with fail
       clear jz
       go_loopg [117] n.ib.length (fun kq v117 w'=>∃j:Nat,v117= .int .i64 (j:Int)∧j≤n.ib.length∧n.ib.length-j≤kq∧Sep w w' [rA KI 3 (.slice vY n.ks.length vR) n.ks,sA KT 62 (.slice xB n.ps.length xu) n.ps,sA KT 62 (.slice Ae n.ss.length zq) n.ss,sA KT 62 (.slice Ac n.ib.length AN) n.ib,rA KI 3 (.slice xz x.ks.length xp) x.ks,sA KT 62 (.slice Ab x.ps.length zn) x.ps,sA KT 62 (.slice AT x.ss.length AL) x.ss,sA KT 62 (.slice AR x.ib.length DD) x.ib,bA b5 #[.slice vY n.ks.length vR,.slice xB n.ps.length xu,.slice Ae n.ss.length zq,.slice Ac n.ib.length AN,.int .i64 n.sd] 27,bA b6 #[.int .i64 s0,.int .i64 s1,.string s2] 53,bA b7 #[.slice xz x.ks.length xp,.slice Ab x.ps.length zn,.slice AT x.ss.length AL,.slice AR x.ib.length DD,.int .i64 x.sd] 27])
       case atStart=>exact ⟨0,rfl,Nat.zero_le _,Nat.le_refl _,HS⟩
       case round=>
        clear HS
        obtain ⟨j,rfl,j1,j2,HS⟩:=hrel
        by_cases hj:j<n.ib.length
        ·have Li:decide ((j:Int)<(n.ib.length:Int))=true:=decide_eq_true (by omega)
         have pj0:(0≤(j:Int))=True:=eq_true (by omega)
         have pj1:((j:Int)<(n.ib.length:Int))=True:=eq_true (by omega)
         have h:=HU.out j hj
         unfold cl.u at h
         replace h:=dy h;obtain ⟨⟨x1,x2⟩,h⟩:=h
         have T9:=ak h;clear h
         have pj2:((j:Int)<(x.ib.length:Int))=True:=eq_true (by omega)
         have hlb:decide (((aN x.ib (j:Int)).length:Int)<((aN n.ib (j:Int)).length:Int))=false:=decide_eq_false (by omega)
         obtain ⟨gn,dn,Mc⟩:=HS.addr 3 (hx:=by omega)
         obtain rfl:Ac=some ⟨gn,0,none⟩:=by injection Mc
         clear Mc
         obtain ⟨gx,dx,ex_⟩:=HS.addr 7 (hx:=by omega)
         obtain rfl:AR=some ⟨gx,0,none⟩:=by injection ex_
         clear ex_
         obtain ⟨ad_,An,cn,e_,hn_,ln_,rn_⟩:=ke (HS.rdS 3).2.2 (j:Int) (by omega) (by omega)
         obtain rfl:=Option.some.inj e_
         rw [add_plain] at hn_
         clear e_
         obtain ⟨ad_,Ax,cx,e_,hx_,lx_,rx_⟩:=ke (HS.rdS 7).2.2 (j:Int) (by omega) (by omega)
         obtain rfl:=Option.some.inj e_
         rw [add_plain] at hx_
         clear e_
         simp only [Int.toNat_natCast,Nat.zero_add] at hn_ hx_
         obtain ⟨it_,tu,aa0⟩:=Nq
         obtain ⟨hS_,hA_,hC_⟩:=oE (P:=Tryz.prog) Value.string (⟨#[]⟩:ByteArray) 62 9 .i64 Tryz.underlying62 tu aa0 Ax cx (aN x.ib (j:Int)) ((aN n.ib (j:Int)).length:Int) (by omega) (by omega) lx_
         simp only [Int.toNat_natCast] at hS_ hA_ hC_
         have RX:=ak (Kd.lE (h1:=fun _=>rfl) (hA_ _ (Kd.lC rx_)));have RN:=ak rn_;have LC:=ak hC_;have LN:=ak ln_;have TL:=ak (List.length_take_of_le x2);have px2:=eq_true x2;have px3:=eq_false (Nat.not_lt.2 x2)
         clear hA_ hC_ tu aa0 rn_ rx_ ln_ lx_ x1 x2
         have fj:=an (HS.aI 10)
         have jz:=an (HS.aI 8)
         go_wp2_with (first|(go_at_call 38;have cE:=cI.calls k _ _ _ _ _ _ true _ RX.out LC.out RN.out LN.out T9.out;rw [TL.out] at cE;refine cE.mono ?_;clear cE;rintro e W_ ⟨rfl,aW⟩;replace HS:=HS.below aW.below;clear aW;clear fj jz;have fj:=an (HS.aI 10)))
         go_roundg (n.ib.length-(j+1))
         case measure=>omega
         case rel=>exact ⟨j+1,(by first|rfl|exact gZ hj HN.out),hj,Nat.le_refl _,HS⟩
        ·have Li:decide ((j:Int)<(n.ib.length:Int))=false:=decide_eq_false (by omega)
         go_wp2
         go_meet
         case rel=>exact HS.none
  case rest=>
    clear HS HM
    have HS:=hcut;clear hcut
    have h:=HH.out;clear HH
    unfold cl.r at h
    replace h:=bS h;obtain ⟨y,T0,h⟩:=h
    replace h:=bS h;obtain ⟨⟨z,one⟩,T1,h⟩:=h
    dsimp only at h
    replace h:=bS h;obtain ⟨⟨z2,two⟩,T2,h⟩:=h
    dsimp only at h
    replace h:=bS h;obtain ⟨⟨c,three⟩,T3,h⟩:=h
    dsimp only at h
    replace h:=bS h;obtain ⟨⟨c2,four⟩,T4,h⟩:=h
    dsimp only at h
    replace h:=bS h;obtain ⟨⟨v,u⟩,T5,h⟩:=h
    dsimp only at h
    replace h:=bS h;obtain ⟨⟨a,Ov⟩,T6,h⟩:=h
    dsimp only at h
    replace h:=bS h;obtain ⟨⟨b,six⟩,T7,h⟩:=h
    dsimp only at h
    replace h:=bS h;obtain ⟨K,T8,h⟩:=h
    replace h:=bS h;obtain ⟨⟨p1,p2,p3,p4,p5,seven⟩,T9,h⟩:=h
    dsimp only at h
    replace h:=bS h;obtain ⟨⟨q1,q2,q3,q4,q5,eight⟩,T10,h⟩:=h
    dsimp only at h
    replace h:=bS h;obtain ⟨e2,Up,h⟩:=h
    replace h:=bS h;obtain ⟨e3,T12,h⟩:=h
    replace h:=bS h;obtain ⟨e4,T13,h⟩:=h
    replace h:=dy h;obtain ⟨⟨⟨rfl,rfl⟩,⟨rfl,rfl⟩,⟨rfl,rfl⟩,rfl,rfl⟩,-⟩:=h
    have k1:(one==one)=true:=beq_self_eq_true one
    have k2:(three==three)=true:=beq_self_eq_true three
    have k3:(c==c)=true:=beq_self_eq_true c
    have k4:(Ov==Ov)=true:=beq_self_eq_true Ov
    have k5:(seven==seven)=true:=beq_self_eq_true seven
    go_upto_region 20 with (first|(go_at_call 43;have cE:=gM.calls (Kd.aD yc.out HS.base) LS.out T0.out;refine cE.mono ?_;clear cE;rintro e W_ ⟨yv0,yv1,yv2,yv3,rfl,ie,aW⟩;replace HS:=HS.news aW ie;clear ie aW;dsimp only [eO,List.cons_append,List.nil_append] at HS;obtain ⟨LW,Lr,rfl⟩:=HS.lz 0;obtain ⟨Qg,OD,rfl⟩:=HS.gY 1;obtain ⟨S7,St,rfl⟩:=HS.gY 2;obtain ⟨YW,XZ,rfl⟩:=HS.gY 3)|((with_reducible refine av (N:=17) rfl ?_);refine bN 17 #[.slice none 0 0,.slice none 0 0,.slice none 0 0,.slice none 0 0,.int .i64 0] 27 ?_;intro b17 bK W_ bD aW;replace HS:=HS.box bK bD aW;clear bK bD aW;have nX:=an (HS.aI 0);clear nX;have nX:=an (HS.aI 0)))
    clear nX
    obtain ⟨rC,gU,gX⟩:=(((((HS.cq 0 0 (.slice LW y.ks.length Lr) #[.slice LW y.ks.length Lr,.slice none 0 0,.slice none 0 0,.slice none 0 0,.int .i64 0]).cq 0 1 (.slice Qg y.ps.length OD) #[.slice LW y.ks.length Lr,.slice Qg y.ps.length OD,.slice none 0 0,.slice none 0 0,.int .i64 0]).cq 0 2 (.slice S7 y.ss.length St) #[.slice LW y.ks.length Lr,.slice Qg y.ps.length OD,.slice S7 y.ss.length St,.slice none 0 0,.int .i64 0]).cq 0 3 (.slice YW y.ib.length XZ) #[.slice LW y.ks.length Lr,.slice Qg y.ps.length OD,.slice S7 y.ss.length St,.slice YW y.ib.length XZ,.int .i64 0]).cq 0 4 (.int .i64 y.sd) #[.slice LW y.ks.length Lr,.slice Qg y.ps.length OD,.slice S7 y.ss.length St,.slice YW y.ib.length XZ,.int .i64 y.sd]).gen
    rw [gU]
    clear HS gU
    have HS:=gX
    clear gX
    have nX:=an (HS.aI 0)
    go_upto_region 21 with (first|(go_at_call 11;have cE:=iD.calls (n:=y) (jW HS 1) T1.out;refine cE.mono ?_;clear cE;rintro e W_ ⟨zv0,zv1,zv2,zv3,rfl,ie,aW⟩;replace HS:=HS.news aW ie;clear ie aW;dsimp only [eO,List.cons_append,List.nil_append] at HS;obtain ⟨LV,Lq,rfl⟩:=HS.lz 0;obtain ⟨Qf,OC,rfl⟩:=HS.gY 1;obtain ⟨S6,Ss,rfl⟩:=HS.gY 2;obtain ⟨YV,XY,rfl⟩:=HS.gY 3;clear nX;have nX:=an (HS.aI 4))|((with_reducible refine av (N:=18) rfl ?_);refine bN 18 #[.slice none 0 0,.slice none 0 0,.slice none 0 0,.slice none 0 0,.int .i64 0] 27 ?_;intro b18 bK W_ bD aW;replace HS:=HS.box bK bD aW;clear bK bD aW;clear nX;have nu:=an (HS.aI 0);clear nu;have nu:=an (HS.aI 0);have nX:=an (HS.aI 5)))
    clear nu nX
    obtain ⟨rC,gU,gX⟩:=(((((HS.cq 0 0 (.slice LV z.ks.length Lq) #[.slice LV z.ks.length Lq,.slice none 0 0,.slice none 0 0,.slice none 0 0,.int .i64 0]).cq 0 1 (.slice Qf z.ps.length OC) #[.slice LV z.ks.length Lq,.slice Qf z.ps.length OC,.slice none 0 0,.slice none 0 0,.int .i64 0]).cq 0 2 (.slice S6 z.ss.length Ss) #[.slice LV z.ks.length Lq,.slice Qf z.ps.length OC,.slice S6 z.ss.length Ss,.slice none 0 0,.int .i64 0]).cq 0 3 (.slice YV z.ib.length XY) #[.slice LV z.ks.length Lq,.slice Qf z.ps.length OC,.slice S6 z.ss.length Ss,.slice YV z.ib.length XY,.int .i64 0]).cq 0 4 (.int .i64 z.sd) #[.slice LV z.ks.length Lq,.slice Qf z.ps.length OC,.slice S6 z.ss.length Ss,.slice YV z.ib.length XY,.int .i64 z.sd]).gen
    rw [gU]
    clear HS gU
    have HS:=gX
    clear gX
    have nu:=an (HS.aI 0)
    have nX:=an (HS.aI 5)
    go_upto_region 22 with (first|(go_at_call 9;have cE:=dW.calls (n:=y) (jW HS 6) T2.out;refine cE.mono ?_;clear cE;rintro e W_ ⟨ov0,ov1,ov2,ov3,rfl,ie,aW⟩;replace HS:=HS.news aW ie;clear ie aW;dsimp only [eO,List.cons_append,List.nil_append] at HS;obtain ⟨L2,Lw,rfl⟩:=HS.lz 0;obtain ⟨Ql,OJ,rfl⟩:=HS.gY 1;obtain ⟨Tb,Sx,rfl⟩:=HS.gY 2;obtain ⟨Y4,X8,rfl⟩:=HS.gY 3;clear nu nX;have nu:=an (HS.aI 4);have nX:=an (HS.aI 9))|((with_reducible refine av (N:=20) rfl ?_);refine bN 20 #[.slice none 0 0,.slice none 0 0,.slice none 0 0,.slice none 0 0,.int .i64 0] 27 ?_;intro b20 bK W_ bD aW;replace HS:=HS.box bK bD aW;clear bK bD aW;clear nu nX;have pz:=an (HS.aI 0);clear pz;have pz:=an (HS.aI 0);have nu:=an (HS.aI 5);have nX:=an (HS.aI 10)))
    clear pz nu nX
    obtain ⟨rC,gU,gX⟩:=(((((HS.cq 0 0 (.slice L2 z2.ks.length Lw) #[.slice L2 z2.ks.length Lw,.slice none 0 0,.slice none 0 0,.slice none 0 0,.int .i64 0]).cq 0 1 (.slice Ql z2.ps.length OJ) #[.slice L2 z2.ks.length Lw,.slice Ql z2.ps.length OJ,.slice none 0 0,.slice none 0 0,.int .i64 0]).cq 0 2 (.slice Tb z2.ss.length Sx) #[.slice L2 z2.ks.length Lw,.slice Ql z2.ps.length OJ,.slice Tb z2.ss.length Sx,.slice none 0 0,.int .i64 0]).cq 0 3 (.slice Y4 z2.ib.length X8) #[.slice L2 z2.ks.length Lw,.slice Ql z2.ps.length OJ,.slice Tb z2.ss.length Sx,.slice Y4 z2.ib.length X8,.int .i64 0]).cq 0 4 (.int .i64 z2.sd) #[.slice L2 z2.ks.length Lw,.slice Ql z2.ps.length OJ,.slice Tb z2.ss.length Sx,.slice Y4 z2.ib.length X8,.int .i64 z2.sd]).gen
    rw [gU]
    clear HS gU
    have HS:=gX
    clear gX
    have pz:=an (HS.aI 0)
    have nu:=an (HS.aI 5)
    have nX:=an (HS.aI 10)
    go_upto_region 23 with (first|(go_at_call 34;have cE:=GL (n:=y) (jW HS 11) T3.out;refine cE.mono ?_;clear cE;rintro e W_ ⟨rfl,aW⟩;replace HS:=HS.below aW;clear aW;clear pz nu nX;have pz:=an (HS.aI 0);have nu:=an (HS.aI 5);have nX:=an (HS.aI 10)))
    go_upto_region 24 with (first|(go_at_call 44;have cE:=V8 (n:=y) (jW HS 11) T4.out;refine cE.mono ?_;clear cE;rintro e W_ ⟨rfl,aW⟩;replace HS:=HS.below aW;clear aW;clear pz nu nX;have pz:=an (HS.aI 0);have nu:=an (HS.aI 5)))
    clear pz nu
    replace HS:=HS.vO.tail
    replace HS:=HS.vO.tail
    replace HS:=HS.vO.tail
    replace HS:=HS.vO.tail
    replace HS:=HS.vO.tail
    go_upto_region 25 with (first|(go_at_call 45;have cE:=gN.calls (Kd.aD yc.out HS.base) LS.out T5.out;refine cE.mono ?_;clear cE;rintro e W_ ⟨vv0,vv1,vv2,vv3,rfl,ie,aW⟩;replace HS:=HS.news aW ie;clear ie aW;dsimp only [eO,List.cons_append,List.nil_append] at HS;obtain ⟨LY,Lt,rfl⟩:=HS.lz 0;obtain ⟨Qi,OF,rfl⟩:=HS.gY 1;obtain ⟨S8,Su,rfl⟩:=HS.gY 2;obtain ⟨YX,X4,rfl⟩:=HS.gY 3)|((with_reducible refine av (N:=26) rfl ?_);refine bN 26 #[.slice none 0 0,.slice none 0 0,.slice none 0 0,.slice none 0 0,.int .i64 0] 27 ?_;intro b26 bK W_ bD aW;replace HS:=HS.box bK bD aW;clear bK bD aW;have FU:=an (HS.aI 0);clear FU;have FU:=an (HS.aI 0)))
    clear FU
    obtain ⟨rC,gU,gX⟩:=(((((HS.cq 0 0 (.slice LY v.ks.length Lt) #[.slice LY v.ks.length Lt,.slice none 0 0,.slice none 0 0,.slice none 0 0,.int .i64 0]).cq 0 1 (.slice Qi v.ps.length OF) #[.slice LY v.ks.length Lt,.slice Qi v.ps.length OF,.slice none 0 0,.slice none 0 0,.int .i64 0]).cq 0 2 (.slice S8 v.ss.length Su) #[.slice LY v.ks.length Lt,.slice Qi v.ps.length OF,.slice S8 v.ss.length Su,.slice none 0 0,.int .i64 0]).cq 0 3 (.slice YX v.ib.length X4) #[.slice LY v.ks.length Lt,.slice Qi v.ps.length OF,.slice S8 v.ss.length Su,.slice YX v.ib.length X4,.int .i64 0]).cq 0 4 (.int .i64 v.sd) #[.slice LY v.ks.length Lt,.slice Qi v.ps.length OF,.slice S8 v.ss.length Su,.slice YX v.ib.length X4,.int .i64 v.sd]).gen
    rw [gU]
    clear HS gU
    have HS:=gX
    clear gX
    have FU:=an (HS.aI 0)
    go_upto_region 26 with (first|(go_at_call 36;have cE:=V9 (n:=v) (jW HS 1) T6.out;refine cE.mono ?_;clear cE;rintro e W_ ⟨ra,rfl,bD,aW⟩;replace HS:=HS.new (A:=rA Kd.string 9 ra a) aW bD;obtain ⟨Ara,cra,rfl⟩:=HS.lz 0;clear bD aW;clear FU;have FU:=an (HS.aI 1)))
    go_upto_region 27 with (first|(go_at_call 46;have cE:=V7 (n:=v) (jW HS 2) T7.out;refine cE.mono ?_;clear cE;rintro e W_ ⟨rb,rfl,bD,aW⟩;replace HS:=HS.new (A:=rA Kd.string 9 rb b) aW bD;obtain ⟨Arb,crb,rfl⟩:=HS.lz 0;clear bD aW;clear FU))
    replace HS:=HS.me.tail
    replace HS:=HS.me.tail
    replace HS:=HS.me.tail
    replace HS:=HS.me.tail
    replace HS:=HS.me.tail
    go_upto_region 28 with (first|(go_at_call 47;have cE:=iS.calls k _ _ l1 K _ (Kd.aD yc.out HS.base) LS.out T8.out;refine cE.mono ?_;clear cE;rintro e W_ ⟨rk,rfl,bD,aW⟩;replace HS:=HS.new (A:=rA KI 3 rk K) aW bD;obtain ⟨Ark,crk,rfl⟩:=HS.lz 0;clear bD aW))
    go_upto_region 29 with (first|(go_at_call 48;have cE:=Rn (HS.mA 0).2.2 (HS.mA 0).2.1 T9.out;refine cE.mono ?_;clear cE;rintro e W_ ⟨pv0,pv1,pv2,pv3,rfl,ie,aW⟩;replace HS:=HS.news aW ie;clear ie aW;dsimp only [eO,List.cons_append,List.nil_append] at HS;obtain ⟨L1,Lv,rfl⟩:=HS.lz 0;obtain ⟨Qk,OI,rfl⟩:=HS.gY 1;obtain ⟨Ta,Sw,rfl⟩:=HS.gY 2;obtain ⟨YZ,X7,rfl⟩:=HS.gY 3)|((with_reducible refine av (N:=33) rfl ?_);refine bN 33 #[.slice none 0 0,.slice none 0 0,.slice none 0 0,.slice none 0 0,.int .i64 0] 27 ?_;intro b33 bK W_ bD aW;replace HS:=HS.box bK bD aW;clear bK bD aW;have wV:=an (HS.aI 0);clear wV;have wV:=an (HS.aI 0)))
    clear wV
    obtain ⟨rC,gU,gX⟩:=(((((HS.cq 0 0 (.slice L1 p1.length Lv) #[.slice L1 p1.length Lv,.slice none 0 0,.slice none 0 0,.slice none 0 0,.int .i64 0]).cq 0 1 (.slice Qk p2.length OI) #[.slice L1 p1.length Lv,.slice Qk p2.length OI,.slice none 0 0,.slice none 0 0,.int .i64 0]).cq 0 2 (.slice Ta p3.length Sw) #[.slice L1 p1.length Lv,.slice Qk p2.length OI,.slice Ta p3.length Sw,.slice none 0 0,.int .i64 0]).cq 0 3 (.slice YZ p4.length X7) #[.slice L1 p1.length Lv,.slice Qk p2.length OI,.slice Ta p3.length Sw,.slice YZ p4.length X7,.int .i64 0]).cq 0 4 (.int .i64 p5) #[.slice L1 p1.length Lv,.slice Qk p2.length OI,.slice Ta p3.length Sw,.slice YZ p4.length X7,.int .i64 p5]).gen
    rw [gU]
    clear HS gU
    have HS:=gX
    clear gX
    go_upto_region 30 with (first|(go_at_call 49;have cE:=tU (HS.mA 5).2.2 (HS.mA 5).2.1 T10.out;refine cE.mono ?_;clear cE;rintro e W_ ⟨qv0,qv1,qv2,qv3,rfl,ie,aW⟩;replace HS:=HS.news aW ie;clear ie aW;dsimp only [eO,List.cons_append,List.nil_append] at HS;obtain ⟨LZ,Lu,rfl⟩:=HS.lz 0;obtain ⟨Qj,OH,rfl⟩:=HS.gY 1;obtain ⟨S9,Sv,rfl⟩:=HS.gY 2;obtain ⟨YY,X6,rfl⟩:=HS.gY 3)|((with_reducible refine av (N:=35) rfl ?_);refine bN 35 #[.slice none 0 0,.slice none 0 0,.slice none 0 0,.slice none 0 0,.int .i64 0] 27 ?_;intro b35 bK W_ bD aW;replace HS:=HS.box bK bD aW;clear bK bD aW;have yt:=an (HS.aI 0);clear yt;have yt:=an (HS.aI 0);have wV:=an (HS.aI 5);have pz:=an (HS.aI 13);have nu:=an (HS.aI 18)))
    clear yt wV pz nu
    obtain ⟨rC,gU,gX⟩:=(((((HS.cq 0 0 (.slice LZ q1.length Lu) #[.slice LZ q1.length Lu,.slice none 0 0,.slice none 0 0,.slice none 0 0,.int .i64 0]).cq 0 1 (.slice Qj q2.length OH) #[.slice LZ q1.length Lu,.slice Qj q2.length OH,.slice none 0 0,.slice none 0 0,.int .i64 0]).cq 0 2 (.slice S9 q3.length Sv) #[.slice LZ q1.length Lu,.slice Qj q2.length OH,.slice S9 q3.length Sv,.slice none 0 0,.int .i64 0]).cq 0 3 (.slice YY q4.length X6) #[.slice LZ q1.length Lu,.slice Qj q2.length OH,.slice S9 q3.length Sv,.slice YY q4.length X6,.int .i64 0]).cq 0 4 (.int .i64 q5) #[.slice LZ q1.length Lu,.slice Qj q2.length OH,.slice S9 q3.length Sv,.slice YY q4.length X6,.int .i64 q5]).gen
    rw [gU]
    clear HS gU
    have HS:=gX
    clear gX
    have yt:=an (HS.aI 0)
    have wV:=an (HS.aI 5)
    have pz:=an (HS.aI 13)
    have nu:=an (HS.aI 18)
    go_wp2_with (first|(go_at_call 33;have cE:=Cz (n:=z) (m:=z2) (jW HS 19) (jW HS 14) Up.out;refine cE.mono ?_;clear cE;rintro e W_ ⟨rfl,aW⟩;replace HS:=HS.below aW;clear aW Up;clear yt wV pz nu;have yt:=an (HS.aI 0);have wV:=an (HS.aI 5);have pz:=an (HS.aI 13);have nu:=an (HS.aI 18))|(go_at_call 38;have cE:=cI.calls k _ _ a _ _ b true _ (HS.mA 12).2.2 (HS.mA 12).2.1 (HS.mA 11).2.2 (HS.mA 11).2.1 T12.out;refine cE.mono ?_;clear cE;rintro e W_ ⟨rfl,hd_⟩;replace HS:=HS.below hd_.below;clear hd_;clear yt wV pz nu;have yt:=an (HS.aI 0);have wV:=an (HS.aI 5);have pz:=an (HS.aI 13);have nu:=an (HS.aI 18))|(go_at_call 33;have cE:=Cz (n:=⟨p1,p2,p3,p4,p5⟩) (m:=⟨q1,q2,q3,q4,q5⟩) (jW HS 6) (jW HS 1) T13.out;refine cE.mono ?_;clear cE;rintro e W_ ⟨rfl,aW⟩;replace HS:=HS.below aW;clear aW;clear yt wV pz nu;have yt:=an (HS.aI 0);have wV:=an (HS.aI 5);have pz:=an (HS.aI 13);have nu:=an (HS.aI 18)))
    go_ret
    exact ⟨er,HS.base⟩
def cl.Pure:Prop:=∀(l0:List Int) (l1:List Int),l0.length≤maxLen→l0.length*1≤140737488351232→(∀x∈l0,(Lit.int .u8 x).wf=true)→l1.length≤maxLen→l1.length*1≤140737488351232→(∀x∈l1,(Lit.int .u8 x).wf=true)→∃k,cl.f k l0 l1=some true
theorem cl.walk (P:cl.Pure) (a0:Option Addr) (EI Fc:Nat) (z0:List Int) (a1:Option Addr) (EH Fb:Nat) (z1:List Int) (w:World) (w0:(a0=none∧EI=0∧Fc=0∧z0=[])∨∃x,a0=some x∧EI≤Fc∧Fc≤maxLen∧z0.length=Fc∧(∀i,i<z0.length→w.cell? (x.add i)=some (.int .u8 (z0.getD i 0)))∧∀n∈z0,(Lit.int .u8 n).wf=true) (y0:EI*1≤140737488351232) (w1:(a1=none∧EH=0∧Fb=0∧z1=[])∨∃x,a1=some x∧EH≤Fb∧Fb≤maxLen∧z1.length=Fb∧(∀i,i<z1.length→w.cell? (x.add i)=some (.int .u8 (z1.getD i 0)))∧∀n∈z1,(Lit.int .u8 n).wf=true) (y1:EH*1≤140737488351232):
  Calls Tryz.prog 7 #[.slice a0 EI Fc,.slice a1 EH Fb] w fun e w'=>e= .returned (.bool true)∧Below w.heap.size w w':=by
 obtain ⟨l0,rfl,ff,hm0,hw0,fL⟩:=eJ.Np w0
 obtain ⟨l1,rfl,sH,hm1,hw1,qA⟩:=eJ.Np w1
 obtain ⟨k,h⟩:=P l0 l1 hm0 y0 hw0 hm1 y1 hw1
 refine (cl.calls k _ _ l0 _ _ l1 true w (Kd.lE (d:=(0:Int)) (h1:=fun _=>rfl) ff) fL (Kd.lE (d:=(0:Int)) (h1:=fun _=>rfl) sH) qA h rfl).mono ?_
 rintro e w' ⟨rfl,hd⟩
 exact ⟨rfl,hd⟩
end Go.Proofs.YtihekdlcfohkkaaGreatDoor.QFnNets
