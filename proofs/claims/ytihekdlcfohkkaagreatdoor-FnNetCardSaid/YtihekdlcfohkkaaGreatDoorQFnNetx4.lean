-- printed by this session's own program (wip/tools/pp.py: the kit's print.py with changes); Lean checks it
import Derived.Test.YtihekdlcfohkkaaGreatDoorQFnNetx0
import Derived.Test.YtihekdlcfohkkaaGreatDoorQFnNetx2
import Derived.Test.YtihekdlcfohkkaaGreatDoorQFnNetx3
namespace Go.Proofs.YtihekdlcfohkkaaGreatDoor.QFnNet
open Go.RowKit Go.Proofs.YtihekdlcfohkkaaGreatDoorW.PrintWords Go.Proofs.YtihekdlcfohkkaaGreatDoorW.PrintLast Go.Proofs.YtihekdlcfohkkaaGreatDoorW.PrintMore
attribute [local go_sem] max2_int min2_int max_two min_two max_three min_three max_four min_four strLss strGtr strLeq strGeq
set_option linter.unusedVariables false
set_option linter.unusedSimpArgs false
set_option maxHeartbeats 16000000
set_option maxRecDepth 100000
def ep.l0:Nat→ByteArray→List ByteArray→Int→Int→Option (Bool)
  |0,_,_,_,_=>none
  |k+1,x1,x7,x8,x9=>if x9<x8 then (if 0≤x9 then (if x9<(x7.length:Int) then (if (aV ByteArray.empty x7 x9).toList=x1.toList then (some true) else (ep.l0 k x1 x7 x8 (wrap64 (x9+1)))) else (none)) else (none)) else (some false)
def ep.f (k:Nat) (l0:List ByteArray) (a1:ByteArray):Option (Bool):=ep.l0 k a1 l0 (l0.length:Int) 0
theorem ep.calls (k:Nat) (A0:Option Addr) (c0:Nat) (l0:List ByteArray) (a1:ByteArray) (r:Bool) (w:World) (eT:Kd.C Kd.string w A0 l0.length l0) (fE:l0.length≤c0) (h:ep.f k l0 a1=some r):
  Calls Tryz.prog 83 #[.slice A0 l0.length c0,.string a1] w fun e w'=>e= .returned (.bool r)∧cH w w':=by
 have fB:=ak eT;have jD:=ak fE;clear eT fE
 have H:(ep.l0 k a1 l0 (l0.length:Int) 0)=some r:=h
 clear h
 have H':=ak H
 clear H
 go_enter Tryz.func83,Tryz.ntmps83
 go_wp2
 go_loopg [9] k (fun kq v9 w'=>∃(gB:Int),v9= .int .i64 gB∧Aside0 (ep.l0 kq a1 l0 (l0.length:Int) gB=some r)∧Aside0 (kq≤k)∧cH w w')
 case atStart=>exact ⟨(0),er,H',⟨Nat.le_refl _⟩,gh⟩
 case round=>
  clear H'
  obtain ⟨gB,rfl,HA,fP,⟨m1,rfl⟩⟩:=hrel
  cases gk with
  |zero=>exact absurd HA.out (by simp [ep.l0])
  |succ k1=>
   have H:=HA.out;clear HA
   simp only [ep.l0] at H
   by_cases c3:gB<(l0.length:Int)
   ·rw [if_pos c3] at H
    have jh:=decide_eq_true c3
    clear c3;replace H:=cZ H;obtain ⟨c4,H⟩:=H;have iI:=decide_eq_true c4;clear c4;replace H:=cZ H;obtain ⟨c5,H⟩:=H;have jg:=decide_eq_true c5;clear c5
    by_cases c6:(aV ByteArray.empty l0 gB).toList=a1.toList
    ·rw [if_pos c6] at H
     have jz:=kI c6
     have qz:=kH c6
     clear c6
     obtain rfl:=Option.some.inj H
     have E5:0≤(gB:Int):=da
     have EJ:gB<(l0.length:Int):=da
     obtain ⟨aab,UT,Pp⟩:=Kd.bh fB.out gB E5 EJ
     cases UT
     replace E5:=eq_true E5;replace EJ:=eq_true EJ;go_wp2
     go_ret
     exact ⟨er,gh⟩
    ·rw [if_neg c6] at H
     have jz:=jV c6
     have qz:=jU c6
     have H':=ak H
     clear H
     have E5:0≤(gB:Int):=da
     have EJ:gB<(l0.length:Int):=da
     obtain ⟨aab,UT,Pp⟩:=Kd.bh fB.out gB E5 EJ
     cases UT
     replace E5:=eq_true E5;replace EJ:=eq_true EJ;go_wp2
     go_roundg k1
     case measure=>have:=fP.out;omega
     case rel=>exact ⟨(wrap64 (gB+1)),er,H',⟨by have:=fP.out;omega⟩,gh⟩
   ·rw [if_neg c3] at H
    have jh:=decide_eq_false c3
    clear c3
    obtain rfl:=Option.some.inj H
    go_wp2
    go_ret
    exact ⟨er,gh⟩
mutual
def av.j0:Nat→Bool→List Int→List (List ByteArray)→List (List ByteArray)→List (List ByteArray)→Int→Option (Bool)
  |0,_,_,_,_,_,_=>none
  |k+1,IM,mR,lF,j3,lE,mQ=>if IM=true then (some false) else (av.l0 k lF (lF.length:Int) 0 mR lF j3 lE mQ)
def av.l0:Nat→List (List ByteArray)→Int→Int→List Int→List (List ByteArray)→List (List ByteArray)→List (List ByteArray)→Int→Option (Bool)
  |0,_,_,_,_,_,_,_,_=>none
  |k+1,sW,QB,CE,mR,lF,j3,lE,mQ=>if CE<QB then (if 0≤CE then (if CE<(sW.length:Int) then ((cM.f k (bK sW CE)).bind fun t193=>(if t193=true then (if CE<(j3.length:Int) then ((cM.f k (bK j3 CE)).bind fun t195=>(av.j2 k CE (bK sW CE) sW QB CE (!t195) mR lF j3 lE mQ)) else (none)) else (av.j2 k CE (bK sW CE) sW QB CE true mR lF j3 lE mQ))) else (none)) else (none)) else (av.l2 k lE (lE.length:Int) 0)
def av.j2:Nat→Int→List ByteArray→List (List ByteArray)→Int→Int→Bool→List Int→List (List ByteArray)→List (List ByteArray)→List (List ByteArray)→Int→Option (Bool)
  |0,_,_,_,_,_,_,_,_,_,_,_=>none
  |k+1,x4,x5,sW,QB,CE,x69,mR,lF,j3,lE,mQ=>if x69=true then (some false) else (av.l1 k x4 sW QB CE x5 (x5.length:Int) 0 mR lF j3 lE mQ)
def av.l1:Nat→Int→List (List ByteArray)→Int→Int→List ByteArray→Int→Int→List Int→List (List ByteArray)→List (List ByteArray)→List (List ByteArray)→Int→Option (Bool)
  |0,_,_,_,_,_,_,_,_,_,_,_,_=>none
  |k+1,x4,sW,QB,CE,N4,x71,WT,mR,lF,j3,lE,mQ=>if WT<x71 then (if 0≤WT then (if WT<(N4.length:Int) then (if 0≤x4 then (if x4<(j3.length:Int) then ((ep.f k (bK j3 x4) (aV ByteArray.empty N4 WT)).bind fun t198=>(if t198=true then (av.l1 k x4 sW QB CE N4 x71 (wrap64 (WT+1)) mR lF j3 lE mQ) else (some false))) else (none)) else (none)) else (none)) else (none)) else (av.l0 k sW QB (wrap64 (CE+1)) mR lF j3 lE mQ)
def av.l2:Nat→List (List ByteArray)→Int→Int→Option (Bool)
  |0,_,_,_=>none
  |k+1,Ei,WS,NY=>if NY<WS then (if 0≤NY then (if NY<(Ei.length:Int) then (av.l3 k (bK Ei NY) Ei WS NY (bK Ei NY) ((bK Ei NY).length:Int) 0) else (none)) else (none)) else (some true)
def av.l3:Nat→List ByteArray→List (List ByteArray)→Int→Int→List ByteArray→Int→Int→Option (Bool)
  |0,_,_,_,_,_,_,_=>none
  |k+1,x9,Ei,WS,NY,x93,x94,WR=>if WR<x94 then (if 0≤WR then (if WR<(x93.length:Int) then ((bD.f ((aV ByteArray.empty x93 WR).size:Int) 1 15).bind fun t201=>(if t201=true then (av.l3 k x9 Ei WS NY x93 x94 (wrap64 (WR+1))) else (some false))) else (none)) else (none)) else (if (x9.length:Int)>60 then (some false) else (av.l2 k Ei WS (wrap64 (NY+1))))
end
def av.f (k:Nat) (bk:List Int) (aZ:List (List ByteArray)) (bH:List (List ByteArray)) (bu:List (List ByteArray)) (cn:Int):Option (Bool):=(bD.f (bk.length:Int) 1 4).bind fun t189=>(if t189=true then ((bR.f k bk 0 65535).bind fun t190=>(if t190=true then (if (aZ.length:Int)=(bk.length:Int) then (if (bH.length:Int)=(bk.length:Int) then (if (bu.length:Int)=4 then ((bD.f cn 0 60).bind fun t191=>(av.j0 k (!t191) bk aZ bH bu cn)) else (av.j0 k true bk aZ bH bu cn)) else (av.j0 k true bk aZ bH bu cn)) else (av.j0 k true bk aZ bH bu cn)) else (av.j0 k true bk aZ bH bu cn))) else (av.j0 k true bk aZ bH bu cn))
theorem av.calls (k:Nat) (ir:Option Addr) (ie:Nat) (bk:List Int) (iT:Option Addr) (ic:Nat) (aZ:List (List ByteArray)) (iq:Option Addr) (ia:Nat) (bH:List (List ByteArray)) (iC:Option Addr) (hU:Nat) (bu:List (List ByteArray)) (cn:Int) (r:Bool) (w:World) (k8:Kd.C (Kd.int .i64) w ir bk.length bk) (lg:bk.length≤ie) (k7:Kd.C (Kd.slice 9 Kd.string) w iT aZ.length aZ) (lf:aZ.length≤ic) (k6:Kd.C (Kd.slice 9 Kd.string) w iq bH.length bH) (ld:bH.length≤ia) (k5:Kd.C (Kd.slice 9 Kd.string) w iC bu.length bu) (k9:bu.length≤hU) (h:av.f k bk aZ bH bu cn=some r):
  Calls Tryz.prog 42 #[.agg #[.slice ir bk.length ie,.slice iT aZ.length ic,.slice iq bH.length ia,.slice iC bu.length hU,.int .i64 cn]] w fun e w'=>e= .returned (.bool r)∧Below w.heap.size w w':=by
 have mX:=Tryz.underlying27
 have iX:=ak k8;have iY:=ak lg;clear k8 lg;have lC:=ak k7;have mz:=ak lf;clear k7 lf;have kE:=ak k6;have mP:=ak ld;clear k6 ld;have lz:=ak k5;have nG:=ak k9;clear k5 k9
 have HB:=ak (Below.refl w.heap.size w)
 have H:((bD.f (bk.length:Int) 1 4).bind fun t189=>(if t189=true then ((bR.f k bk 0 65535).bind fun t190=>(if t190=true then (if (aZ.length:Int)=(bk.length:Int) then (if (bH.length:Int)=(bk.length:Int) then (if (bu.length:Int)=4 then ((bD.f cn 0 60).bind fun t191=>(av.j0 k (!t191) bk aZ bH bu cn)) else (av.j0 k true bk aZ bH bu cn)) else (av.j0 k true bk aZ bH bu cn)) else (av.j0 k true bk aZ bH bu cn)) else (av.j0 k true bk aZ bH bu cn))) else (av.j0 k true bk aZ bH bu cn)))=some r:=h
 clear h;have VQ:=ak H;clear H
 go_enter Tryz.func42,Tryz.ntmps42
 go_upto_region 2 with (first|((with_reducible refine ax (N:=1) rfl ?_);(try (refine gj (by rfl) ?_;dsimp only));refine cm 1 #[.slice ir bk.length ie,.slice iT aZ.length ic,.slice iq bH.length ia,.slice iC bu.length hU,.int .i64 cn] 27 ?_;intro zS hg w3 dO hb;have gI:=ak (dO);have agh:=ak (lT hg (ai HB));have ja:=ak (lT hg (ai HB));replace HB:=ak (aE (ai HB) hb);clear hb dO hg;obtain ⟨FG,FF,FE,FD,FC,Fy,Fx,Fw,Fv,Fu⟩:=aD gI))
 (try simp only [Act.put,List.setIfInBounds_toArray,List.set_cons_zero,List.set_cons_succ])
 go_cut [49] (fun v49 wc=>∃(kq:Nat) (Gp:Bool),v49= .bool Gp∧Aside0 (av.j0 kq Gp bk aZ bH bu cn=some r)∧Aside0 (kq≤k)∧Aside0 (wc.heap[zS]? =some (.cells #[(.slice ir bk.length ie),(.slice iT aZ.length ic),(.slice iq bH.length ia),(.slice iC bu.length hU),.int .i64 cn] 27 (0,0)))∧Aside0 (Below w.heap.size w wc))
 case first=>
  have H:=VQ.out;clear VQ;replace H:=bS H;obtain ⟨t189,A5,H⟩:=H
  by_cases c6:t189=true
  ·subst c6
   have H1:((bR.f k bk 0 65535).bind fun t190=>(if t190=true then (if (aZ.length:Int)=(bk.length:Int) then (if (bH.length:Int)=(bk.length:Int) then (if (bu.length:Int)=4 then ((bD.f cn 0 60).bind fun t191=>(av.j0 k (!t191) bk aZ bH bu cn)) else (av.j0 k true bk aZ bH bu cn)) else (av.j0 k true bk aZ bH bu cn)) else (av.j0 k true bk aZ bH bu cn)) else (av.j0 k true bk aZ bH bu cn)))=some r:=by rw [if_pos rfl] at H;exact H
   clear H
   have H:=H1
   clear H1;replace H:=bS H;obtain ⟨t190,A7,H⟩:=H
   by_cases c8:t190=true
   ·subst c8
    have H1:(if (aZ.length:Int)=(bk.length:Int) then (if (bH.length:Int)=(bk.length:Int) then (if (bu.length:Int)=4 then ((bD.f cn 0 60).bind fun t191=>(av.j0 k (!t191) bk aZ bH bu cn)) else (av.j0 k true bk aZ bH bu cn)) else (av.j0 k true bk aZ bH bu cn)) else (av.j0 k true bk aZ bH bu cn))=some r:=by rw [if_pos rfl] at H;exact H
    clear H
    have H:=H1
    clear H1
    by_cases c9:(aZ.length:Int)=(bk.length:Int)
    ·rw [if_pos c9] at H
     have lQ:=kI c9
     have FY:=kH c9
     have MR:(aZ.length==bk.length)=true:=by first|simpa using c9|(simp at c9⊢;omega)
     clear c9
     (first|rw [lQ]|(simp only [bX,cL];rw [lQ])|skip)
     by_cases gu:(bH.length:Int)=(bk.length:Int)
     ·rw [if_pos gu] at H
      have kC:=kI gu
      have Il:=kH gu
      have MY:(bH.length==bk.length)=true:=by first|simpa using gu|(simp at gu⊢;omega)
      clear gu
      by_cases lp:(bu.length:Int)=4
      ·rw [if_pos lp] at H
       have lW:=kI lp
       have Ik:=kH lp
       clear lp;replace H:=bS H;obtain ⟨t191,Kl,H⟩:=H
       have H':=ak H
       clear H
       go_wp2_with (first|((with_reducible refine eG (f:=79) rfl ?_);refine kS (some 16) rfl Tryz.func79 #[.int .i64 (bk.length:Int),.int .i64 1,.int .i64 4] rfl ?_;(with_reducible refine (bD.calls (bk.length:Int) 1 4 true _ A5.out).mono ?_);rintro e w' ⟨rfl,⟨nd,rfl⟩⟩;refine ⟨_,rfl,?_⟩;have oD:=aD gI)|(go_at_call 81;(with_reducible refine (bR.calls k _ _ bk 0 65535 true _ ?side1 ?side2 A7.out).mono ?_);(case side1=>exact cd (Kd.aH iX.out (aT HB ja)));(case side2=>exact iY.out);rintro e w' ⟨rfl,⟨nd,rfl⟩⟩)|(go_at_call 79;(with_reducible refine (bD.calls cn 0 60 t191 _ Kl.out).mono ?_);rintro e w' ⟨rfl,⟨nd,rfl⟩⟩))
       go_meet
       case rel=>exact ⟨_,(!t191),er,H',⟨by first|omega|exact Nat.le_refl _⟩,⟨fk gI⟩,⟨aT HB ja⟩⟩
      ·rw [if_neg lp] at H
       have lW:=jV lp
       have Ik:=jU lp
       have H':=ak H
       clear H
       go_wp2_with (first|(go_at_call 79;(with_reducible refine (bD.calls (bk.length:Int) 1 4 true _ A5.out).mono ?_);rintro e w' ⟨rfl,⟨nd,rfl⟩⟩;have Sq:=aD gI)|(go_at_call 81;(with_reducible refine (bR.calls k _ _ bk 0 65535 true _ ?side1 ?side2 A7.out).mono ?_);(case side1=>exact cd (Kd.aH iX.out (aT HB ja)));(case side2=>exact iY.out);rintro e w' ⟨rfl,⟨nd,rfl⟩⟩))
       go_meet
       case rel=>exact ⟨_,(true),er,H',⟨by first|omega|exact Nat.le_refl _⟩,⟨fk gI⟩,⟨aT HB ja⟩⟩
     ·rw [if_neg gu] at H
      have kC:=jV gu
      have Il:=jU gu
      have MY:(bH.length==bk.length)=false:=by first|simpa using gu|(simp at gu⊢;omega)
      have H':=ak H
      clear H
      go_wp2_with (first|(go_at_call 79;(with_reducible refine (bD.calls (bk.length:Int) 1 4 true _ A5.out).mono ?_);rintro e w' ⟨rfl,⟨nd,rfl⟩⟩;have W0:=aD gI)|(go_at_call 81;(with_reducible refine (bR.calls k _ _ bk 0 65535 true _ ?side1 ?side2 A7.out).mono ?_);(case side1=>exact cd (Kd.aH iX.out (aT HB ja)));(case side2=>exact iY.out);rintro e w' ⟨rfl,⟨nd,rfl⟩⟩))
      go_meet
      case rel=>exact ⟨_,(true),er,H',⟨by first|omega|exact Nat.le_refl _⟩,⟨fk gI⟩,⟨aT HB ja⟩⟩
    ·rw [if_neg c9] at H
     have lQ:=jV c9
     have FY:=jU c9
     have MR:(aZ.length==bk.length)=false:=by first|simpa using c9|(simp at c9⊢;omega)
     (first|rw [lQ]|(simp only [bX,cL];rw [lQ])|skip)
     have H':=ak H
     clear H
     go_wp2_with (first|(go_at_call 79;(with_reducible refine (bD.calls (bk.length:Int) 1 4 true _ A5.out).mono ?_);rintro e w' ⟨rfl,⟨nd,rfl⟩⟩;have abW:=aD gI)|(go_at_call 81;(with_reducible refine (bR.calls k _ _ bk 0 65535 true _ ?side1 ?side2 A7.out).mono ?_);(case side1=>exact cd (Kd.aH iX.out (aT HB ja)));(case side2=>exact iY.out);rintro e w' ⟨rfl,⟨nd,rfl⟩⟩))
     go_meet
     case rel=>exact ⟨_,(true),er,H',⟨by first|omega|exact Nat.le_refl _⟩,⟨fk gI⟩,⟨aT HB ja⟩⟩
   ·replace c8:=Bool.eq_false_iff.mpr c8
    subst c8
    have H1:(av.j0 k true bk aZ bH bu cn)=some r:=by rw [if_neg (show¬(false=true) by decide)] at H;exact H
    clear H
    have H:=H1
    clear H1
    have H':=ak H
    clear H
    go_wp2_with (first|(go_at_call 79;(with_reducible refine (bD.calls (bk.length:Int) 1 4 true _ A5.out).mono ?_);rintro e w' ⟨rfl,⟨nd,rfl⟩⟩;have WZ:=aD gI)|(go_at_call 81;(with_reducible refine (bR.calls k _ _ bk 0 65535 false _ ?side1 ?side2 A7.out).mono ?_);(case side1=>exact cd (Kd.aH iX.out (aT HB ja)));(case side2=>exact iY.out);rintro e w' ⟨rfl,⟨nd,rfl⟩⟩))
    go_meet
    case rel=>exact ⟨_,(true),er,H',⟨by first|omega|exact Nat.le_refl _⟩,⟨fk gI⟩,⟨aT HB ja⟩⟩
  ·replace c6:=Bool.eq_false_iff.mpr c6
   subst c6
   have H1:(av.j0 k true bk aZ bH bu cn)=some r:=by rw [if_neg (show¬(false=true) by decide)] at H;exact H
   clear H
   have H:=H1
   clear H1
   have H':=ak H
   clear H
   go_wp2_with (first|(go_at_call 79;(with_reducible refine (bD.calls (bk.length:Int) 1 4 false _ A5.out).mono ?_);rintro e w' ⟨rfl,⟨nd,rfl⟩⟩))
   go_meet
   case rel=>exact ⟨_,(true),er,H',⟨by first|omega|exact Nat.le_refl _⟩,⟨fk gI⟩,⟨aT HB ja⟩⟩
 case rest=>
  clear VQ;(try clear FG);(try clear FF);(try clear FE);(try clear FD);(try clear FC);(try clear Fy);(try clear Fx);(try clear Fw);(try clear Fv);(try clear Fu)
  obtain ⟨kq,Gp,rfl,HA,Cp,gI,HB⟩:=hcut
  cases kq with
  |zero=>exact absurd HA.out (by simp [av.j0])
  |succ Tr=>
   have H:=HA.out;clear HA
   simp only [av.j0] at H
   by_cases yP:Gp=true
   ·subst yP
    have H1:(some false)=some r:=by rw [if_pos rfl] at H;exact H
    clear H
    have H:=H1
    clear H1
    obtain rfl:=Option.some.inj H
    go_wp2
    go_ret
    exact ⟨jT,aT HB ja⟩
   ·replace yP:=Bool.eq_false_iff.mpr yP
    subst yP
    have H1:(av.l0 Tr aZ (aZ.length:Int) 0 bk aZ bH bu cn)=some r:=by rw [if_neg (show¬(false=true) by decide)] at H;exact H
    clear H
    have H:=H1
    clear H1
    have H':=ak H
    clear H;obtain ⟨BQ,BP,BO,BN,BM,BB,BA,Bz,By,Bx⟩:=aD gI;go_wp2
    go_loopg [53] Tr (fun kq v53 w'=>∃(eW:Int),v53= .int .i64 eW∧Aside0 (av.l0 kq aZ (aZ.length:Int) eW bk aZ bH bu cn=some r)∧Aside0 (kq≤Tr)∧Aside0 (w'.heap[zS]? =some (.cells #[(.slice ir bk.length ie),(.slice iT aZ.length ic),(.slice iq bH.length ia),(.slice iC bu.length hU),.int .i64 cn] 27 (0,0)))∧Aside0 (Below w.heap.size w w'))
    case atStart=>exact ⟨(0),er,H',⟨Nat.le_refl _⟩,⟨fk gI⟩,⟨aT HB ja⟩⟩
    case round=>
     clear H'
     (try clear yP);(try clear BQ);(try clear BP);(try clear BO);(try clear BN);(try clear BM);(try clear BB);(try clear BA);(try clear Bz);(try clear By);(try clear Bx)
     obtain ⟨eW,rfl,HA,jj,gI,HB⟩:=hrel
     cases gk with
     |zero=>exact absurd HA.out (by simp [av.l0])
     |succ k2=>
      have H:=HA.out;clear HA
      simp only [av.l0] at H
      by_cases DK:eW<(aZ.length:Int)
      ·rw [if_pos DK] at H
       have vL:=decide_eq_true DK
       clear DK;replace H:=cZ H;obtain ⟨Ky,H⟩:=H;have DJ:=decide_eq_true Ky;clear Ky;replace H:=cZ H;obtain ⟨Ca,H⟩:=H;have rV:=decide_eq_true Ca;clear Ca;have Gg:=ak H;clear H
       have OT:0≤(eW:Int):=da
       have OL:eW<(aZ.length:Int):=da
       obtain ⟨RC,VY,Ve,aeF,wH,Hr,HT⟩:=lu lC.out eW OT OL
       cases aeF
       replace wH:=(HB.out.cell (World.block_lt_of_cell? w _ wH)).trans wH
       have wX:=ak HT;have IE:=ak Hr;clear HT Hr;replace OT:=eq_true OT;replace OL:=eq_true OL
       go_upto_region 7 with (fail)
       go_cut [69] (fun v69 wc=>∃(kq:Nat) (Ai:Bool),v69= .bool Ai∧Aside0 (av.j2 kq eW (bK aZ eW) aZ (aZ.length:Int) eW Ai bk aZ bH bu cn=some r)∧Aside0 (kq≤k2)∧Aside0 (wc.heap[zS]? =some (.cells #[(.slice ir bk.length ie),(.slice (some RC) aZ.length ic),(.slice iq bH.length ia),(.slice iC bu.length hU),.int .i64 cn] 27 (0,0)))∧Aside0 (Below w.heap.size w wc))
       case first=>
        have H:=Gg.out;clear Gg;replace H:=bS H;obtain ⟨t193,A24,H⟩:=H
        by_cases J5:t193=true
        ·subst J5
         have H1:(if eW<(bH.length:Int) then ((cM.f k2 (bK bH eW)).bind fun t195=>(av.j2 k2 eW (bK aZ eW) aZ (aZ.length:Int) eW (!t195) bk aZ bH bu cn)) else (none))=some r:=by rw [if_pos rfl] at H;exact H
         clear H
         have H:=H1
         clear H1;replace H:=cZ H;obtain ⟨MU,H⟩:=H;have zY:=decide_eq_true MU;clear MU
         (first|rw [zY]|(simp only [bX,cL];rw [zY])|skip)
         replace H:=bS H;obtain ⟨t195,A27,H⟩:=H
         have H':=ak H
         clear H
         go_wp2_with (first|((with_reducible refine eG (f:=82) rfl ?_);refine kS (some 59) rfl Tryz.func82 #[.slice VY (bK aZ eW).length Ve] rfl ?_;(with_reducible refine (cM.calls k2 _ _ (bK aZ eW) true _ ?side1 ?side2 A24.out).mono ?_);(case side1=>exact cd (Kd.aH wX.out HB.out));(case side2=>exact IE.out);rintro e w' ⟨rfl,⟨nd,rfl⟩⟩;refine ⟨_,rfl,?_⟩;have WX:=aD gI;have Tg:0≤(eW:Int):=da;have S4:eW<(bH.length:Int):=da;obtain ⟨af6,afk,aeZ,aeE,Bj,Hq,HP⟩:=lu kE.out eW Tg S4;cases aeE;replace Bj:=(HB.out.cell (World.block_lt_of_cell? w _ Bj)).trans Bj;have Qj:=ak HP;have Qo:=ak Hq;clear HP Hq;replace Tg:=eq_true Tg;replace S4:=eq_true S4)|(go_at_call 82;(with_reducible refine (cM.calls k2 _ _ (bK bH eW) t195 _ ?side1 ?side2 A27.out).mono ?_);(case side1=>exact cd (Kd.aH Qj.out (aT HB ja)));(case side2=>exact Qo.out);rintro e w' ⟨rfl,⟨nd,rfl⟩⟩))
         go_meet
         case rel=>exact ⟨_,(!t195),er,H',⟨by have:=Cp.out;have:=jj.out;first|omega|exact Nat.le_refl _⟩,⟨fk gI⟩,⟨aT HB ja⟩⟩
        ·replace J5:=Bool.eq_false_iff.mpr J5
         subst J5
         have H1:(av.j2 k2 eW (bK aZ eW) aZ (aZ.length:Int) eW true bk aZ bH bu cn)=some r:=by rw [if_neg (show¬(false=true) by decide)] at H;exact H
         clear H
         have H:=H1
         clear H1
         have H':=ak H
         clear H
         go_wp2_with (first|(go_at_call 82;(with_reducible refine (cM.calls k2 _ _ (bK aZ eW) false _ ?side1 ?side2 A24.out).mono ?_);(case side1=>exact cd (Kd.aH wX.out HB.out));(case side2=>exact IE.out);rintro e w' ⟨rfl,⟨nd,rfl⟩⟩))
         go_meet
         case rel=>exact ⟨_,(true),er,H',⟨by have:=Cp.out;have:=jj.out;first|omega|exact Nat.le_refl _⟩,⟨fk gI⟩,⟨aT HB ja⟩⟩
       case rest=>
        clear Gg;(try clear vL);(try clear DJ);(try clear rV);(try clear wH);(try clear OT);(try clear OL)
        obtain ⟨kq,Ai,rfl,HA,Co,gI,HB⟩:=hcut
        cases kq with
        |zero=>exact absurd HA.out (by simp [av.j2])
        |succ Ff=>
         have H:=HA.out;clear HA
         simp only [av.j2] at H
         by_cases F0:Ai=true
         ·subst F0
          have H1:(some false)=some r:=by rw [if_pos rfl] at H;exact H
          clear H
          have H:=H1
          clear H1
          obtain rfl:=Option.some.inj H
          go_wp2
          go_ret
          exact ⟨jT,aT HB ja⟩
         ·replace F0:=Bool.eq_false_iff.mpr F0
          subst F0
          have H1:(av.l1 Ff eW aZ (aZ.length:Int) eW (bK aZ eW) ((bK aZ eW).length:Int) 0 bk aZ bH bu cn)=some r:=by rw [if_neg (show¬(false=true) by decide)] at H;exact H
          clear H
          have H:=H1
          clear H1
          have H':=ak H
          clear H;go_wp2
          go_loopg [72] Ff (fun kq v72 w'=>∃(nN:Int),v72= .int .i64 nN∧Aside0 (av.l1 kq eW aZ (aZ.length:Int) eW (bK aZ eW) ((bK aZ eW).length:Int) nN bk aZ bH bu cn=some r)∧Aside0 (kq≤Ff)∧Aside0 (w'.heap[zS]? =some (.cells #[(.slice ir bk.length ie),(.slice (some RC) aZ.length ic),(.slice iq bH.length ia),(.slice iC bu.length hU),.int .i64 cn] 27 (0,0)))∧Aside0 (Below w.heap.size w w'))
          case atStart=>exact ⟨(0),er,H',⟨Nat.le_refl _⟩,⟨fk gI⟩,⟨aT HB ja⟩⟩
          case round=>
           clear H'
           (try clear F0)
           obtain ⟨nN,rfl,HA,IB,gI,HB⟩:=hrel
           cases gk with
           |zero=>exact absurd HA.out (by simp [av.l1])
           |succ k4=>
            have H:=HA.out;clear HA
            simp only [av.l1] at H
            by_cases J3:nN<((bK aZ eW).length:Int)
            ·rw [if_pos J3] at H
             have MT:=decide_eq_true J3
             clear J3;replace H:=cZ H;obtain ⟨yh,H⟩:=H;have yg:=decide_eq_true yh;clear yh;replace H:=cZ H;obtain ⟨FZ,H⟩:=H;have DH:=decide_eq_true FZ;clear FZ;replace H:=cZ H;obtain ⟨Rx,H⟩:=H;have Rw:=decide_eq_true Rx;clear Rx;replace H:=cZ H;obtain ⟨Rv,H⟩:=H;have Ru:=decide_eq_true Rv;clear Rv;replace H:=bS H;obtain ⟨t198,A35,H⟩:=H
             by_cases Kw:t198=true
             ·subst Kw
              have H1:(av.l1 k4 eW aZ (aZ.length:Int) eW (bK aZ eW) ((bK aZ eW).length:Int) (wrap64 (nN+1)) bk aZ bH bu cn)=some r:=by rw [if_pos rfl] at H;exact H
              clear H
              have H:=H1
              clear H1
              have H':=ak H
              clear H
              have E4:0≤(nN:Int):=da
              have EI:nN<((bK aZ eW).length:Int):=da
              obtain ⟨aaa,US,pI⟩:=Kd.bh wX.out nN E4 EI
              cases US
              replace pI:=(HB.out.cell (World.block_lt_of_cell? w _ pI)).trans pI
              replace E4:=eq_true E4;replace EI:=eq_true EI;have abS:=aD gI
              have EZ:0≤(eW:Int):=da
              have EH:eW<(bH.length:Int):=da
              obtain ⟨Z9,VX,Vd,UR,pH,tN,tW⟩:=lu kE.out eW EZ EH
              cases UR
              replace pH:=(HB.out.cell (World.block_lt_of_cell? w _ pH)).trans pH
              have Ck:=ak tW;have Cq:=ak tN;clear tW tN;replace EZ:=eq_true EZ;replace EH:=eq_true EH
              go_wp2_with (first|(go_at_call 83;(with_reducible refine (ep.calls k4 _ _ (bK bH eW) (aV ByteArray.empty (bK aZ eW) nN) true _ ?side1 ?side2 A35.out).mono ?_);(case side1=>exact cd (Kd.aH Ck.out HB.out));(case side2=>exact Cq.out);rintro e w' ⟨rfl,⟨nd,rfl⟩⟩))
              go_roundg k4
              case measure=>have:=Cp.out;have:=jj.out;have:=Co.out;have:=IB.out;omega
              case rel=>exact ⟨(wrap64 (nN+1)),er,H',⟨by have:=Cp.out;have:=jj.out;have:=Co.out;have:=IB.out;omega⟩,⟨fk gI⟩,⟨aT HB ja⟩⟩
             ·replace Kw:=Bool.eq_false_iff.mpr Kw
              subst Kw
              have H1:(some false)=some r:=by rw [if_neg (show¬(false=true) by decide)] at H;exact H
              clear H
              have H:=H1
              clear H1
              obtain rfl:=Option.some.inj H
              have E4:0≤(nN:Int):=da
              have EI:nN<((bK aZ eW).length:Int):=da
              obtain ⟨aaa,US,pI⟩:=Kd.bh wX.out nN E4 EI
              cases US
              replace pI:=(HB.out.cell (World.block_lt_of_cell? w _ pI)).trans pI
              replace E4:=eq_true E4;replace EI:=eq_true EI;have abR:=aD gI
              have EZ:0≤(eW:Int):=da
              have EH:eW<(bH.length:Int):=da
              obtain ⟨Z9,VX,Vd,UR,pH,tN,tW⟩:=lu kE.out eW EZ EH
              cases UR
              replace pH:=(HB.out.cell (World.block_lt_of_cell? w _ pH)).trans pH
              have Ck:=ak tW;have Cq:=ak tN;clear tW tN;replace EZ:=eq_true EZ;replace EH:=eq_true EH
              go_wp2_with (first|(go_at_call 83;(with_reducible refine (ep.calls k4 _ _ (bK bH eW) (aV ByteArray.empty (bK aZ eW) nN) false _ ?side1 ?side2 A35.out).mono ?_);(case side1=>exact cd (Kd.aH Ck.out HB.out));(case side2=>exact Cq.out);rintro e w' ⟨rfl,⟨nd,rfl⟩⟩))
              go_ret
              exact ⟨jT,aT HB ja⟩
            ·rw [if_neg J3] at H
             have MT:=decide_eq_false J3
             clear J3
             have H':=ak H
             clear H;go_wp2
             go_roundg k4
             case measure=>have:=Cp.out;have:=jj.out;have:=Co.out;have:=IB.out;omega
             case rel=>exact ⟨(wrap64 (eW+1)),er,H',⟨by have:=Cp.out;have:=jj.out;have:=Co.out;have:=IB.out;omega⟩,⟨fk gI⟩,⟨aT HB ja⟩⟩
      ·rw [if_neg DK] at H
       have vL:=decide_eq_false DK
       clear DK
       have H':=ak H
       clear H;obtain ⟨BJ,BI,BH,BG,BF,Bu,Bt,Bs,Br,Bq⟩:=aD gI;go_wp2
       go_loopg [89] k2 (fun kq v89 w'=>∃(jJ:Int),v89= .int .i64 jJ∧Aside0 (av.l2 kq bu (bu.length:Int) jJ=some r)∧Aside0 (kq≤k2)∧Aside0 (w'.heap[zS]? =some (.cells #[(.slice ir bk.length ie),(.slice iT aZ.length ic),(.slice iq bH.length ia),(.slice iC bu.length hU),.int .i64 cn] 27 (0,0)))∧Aside0 (Below w.heap.size w w'))
       case atStart=>exact ⟨(0),er,H',⟨Nat.le_refl _⟩,⟨fk gI⟩,⟨aT HB ja⟩⟩
       case round=>
        clear H'
        (try clear vL);(try clear BJ);(try clear BI);(try clear BH);(try clear BG);(try clear BF);(try clear Bu);(try clear Bt);(try clear Bs);(try clear Br);(try clear Bq)
        obtain ⟨jJ,rfl,HA,IC,gI,HB⟩:=hrel
        cases gk with
        |zero=>exact absurd HA.out (by simp [av.l2])
        |succ k3=>
         have H:=HA.out;clear HA
         simp only [av.l2] at H
         by_cases J2:jJ<(bu.length:Int)
         ·rw [if_pos J2] at H
          have Ig:=decide_eq_true J2
          clear J2;replace H:=cZ H;obtain ⟨Zn,H⟩:=H;have Rt:=decide_eq_true Zn;clear Zn;replace H:=cZ H;obtain ⟨Zm,H⟩:=H;have Rs:=decide_eq_true Zm;clear Zm
          have H':=ak H
          clear H
          have OS:0≤(jJ:Int):=da
          have OK:jJ<(bu.length:Int):=da
          obtain ⟨Z8,afj,aeY,aeD,wG,Ho,HJ⟩:=lu lz.out jJ OS OK
          cases aeD
          replace wG:=(HB.out.cell (World.block_lt_of_cell? w _ wG)).trans wG
          have Iy:=ak HJ;have abI:=ak Ho;clear HJ Ho;replace OS:=eq_true OS;replace OK:=eq_true OK;go_wp2
          go_loopg [95] k3 (fun kq v95 w'=>∃(nM:Int),v95= .int .i64 nM∧Aside0 (av.l3 kq (bK bu jJ) bu (bu.length:Int) jJ (bK bu jJ) ((bK bu jJ).length:Int) nM=some r)∧Aside0 (kq≤k3)∧Aside0 (w'.heap[zS]? =some (.cells #[(.slice ir bk.length ie),(.slice iT aZ.length ic),(.slice iq bH.length ia),(.slice (some Z8) bu.length hU),.int .i64 cn] 27 (0,0)))∧Aside0 (Below w.heap.size w w'))
          case atStart=>exact ⟨(0),er,H',⟨Nat.le_refl _⟩,⟨fk gI⟩,⟨aT HB ja⟩⟩
          case round=>
           clear H'
           (try clear Ig);(try clear Rt);(try clear Rs);(try clear wG);(try clear OS);(try clear OK)
           obtain ⟨nM,rfl,HA,IB,gI,HB⟩:=hrel
           cases gk with
           |zero=>exact absurd HA.out (by simp [av.l3])
           |succ k4=>
            have H:=HA.out;clear HA
            simp only [av.l3] at H
            by_cases J1:nM<((bK bu jJ).length:Int)
            ·rw [if_pos J1] at H
             have MS:=decide_eq_true J1
             clear J1;replace H:=cZ H;obtain ⟨P4,H⟩:=H;have Rq:=decide_eq_true P4;clear P4;replace H:=cZ H;obtain ⟨Va,H⟩:=H;have afO:=decide_eq_true Va;clear Va;replace H:=bS H;obtain ⟨t201,A46,H⟩:=H
             by_cases U9:t201=true
             ·subst U9
              have H1:(av.l3 k4 (bK bu jJ) bu (bu.length:Int) jJ (bK bu jJ) ((bK bu jJ).length:Int) (wrap64 (nM+1)))=some r:=by rw [if_pos rfl] at H;exact H
              clear H
              have H:=H1
              clear H1
              have H':=ak H
              clear H
              have EY:0≤(nM:Int):=da
              have EG:nM<((bK bu jJ).length:Int):=da
              obtain ⟨Z7,UQ,pG⟩:=Kd.bh Iy.out nM EY EG
              cases UQ
              replace pG:=(HB.out.cell (World.block_lt_of_cell? w _ pG)).trans pG
              replace EY:=eq_true EY;replace EG:=eq_true EG
              go_wp2_with (first|(go_at_call 79;(with_reducible refine (bD.calls ((aV ByteArray.empty (bK bu jJ) nM).size:Int) 1 15 true _ A46.out).mono ?_);rintro e w' ⟨rfl,⟨nd,rfl⟩⟩))
              go_roundg k4
              case measure=>have:=Cp.out;have:=jj.out;have:=IC.out;have:=IB.out;omega
              case rel=>exact ⟨(wrap64 (nM+1)),er,H',⟨by have:=Cp.out;have:=jj.out;have:=IC.out;have:=IB.out;omega⟩,⟨fk gI⟩,⟨aT HB ja⟩⟩
             ·replace U9:=Bool.eq_false_iff.mpr U9
              subst U9
              have H1:(some false)=some r:=by rw [if_neg (show¬(false=true) by decide)] at H;exact H
              clear H
              have H:=H1
              clear H1
              obtain rfl:=Option.some.inj H
              have EY:0≤(nM:Int):=da
              have EG:nM<((bK bu jJ).length:Int):=da
              obtain ⟨Z7,UQ,pG⟩:=Kd.bh Iy.out nM EY EG
              cases UQ
              replace pG:=(HB.out.cell (World.block_lt_of_cell? w _ pG)).trans pG
              replace EY:=eq_true EY;replace EG:=eq_true EG
              go_wp2_with (first|(go_at_call 79;(with_reducible refine (bD.calls ((aV ByteArray.empty (bK bu jJ) nM).size:Int) 1 15 false _ A46.out).mono ?_);rintro e w' ⟨rfl,⟨nd,rfl⟩⟩))
              go_ret
              exact ⟨jT,aT HB ja⟩
            ·rw [if_neg J1] at H
             have MS:=decide_eq_false J1
             clear J1
             by_cases P3:((bK bu jJ).length:Int)>60
             ·rw [if_pos P3] at H
              have Rp:=H6 P3
              have Zk:decide (60<(bK bu jJ).length)=true:=decide_eq_true (by omega)
              clear P3
              obtain rfl:=Option.some.inj H
              go_wp2
              go_ret
              exact ⟨jT,aT HB ja⟩
             ·rw [if_neg P3] at H
              have Rp:=H7 P3
              have Zk:decide (60<(bK bu jJ).length)=false:=decide_eq_false (by omega)
              clear P3
              have H':=ak H
              clear H;go_wp2
              go_roundg k4
              case measure=>have:=Cp.out;have:=jj.out;have:=IC.out;have:=IB.out;omega
              case rel=>exact ⟨(wrap64 (jJ+1)),er,H',⟨by have:=Cp.out;have:=jj.out;have:=IC.out;have:=IB.out;omega⟩,⟨fk gI⟩,⟨aT HB ja⟩⟩
         ·rw [if_neg J2] at H
          have Ig:=decide_eq_false J2
          clear J2
          obtain rfl:=Option.some.inj H
          go_wp2
          go_ret
          exact ⟨jT,aT HB ja⟩
def wo (W:World) (B g:Nat) (x:Value) (n:Nat):Prop:=Kd.S (Kd.slice 9 Kd.string) 62 W B (fun k_=>k_=g) x (List.replicate n [])∧g<W.heap.size
theorem wo.step {W W1:World} {B g:Nat} {x:Value} {n:Nat} (h:wo W B g x n) (hb:Below W.heap.size W W1):wo W1 B g x n:=⟨Kd.wS h.1 hb,Nat.lt_of_lt_of_le h.2 hb.size⟩
structure uv (w0 W:World) (gr:Nat) (l0:List Int) (b0 b2 b5 b8 b9 Cd wP:Bool) (x4 x5 x7 iz gJ jL kg:Value) (g5 g8 g9 gx:Nat):Prop where
  below:Below w0.heap.size w0 W
  JK:W.heap[gr]? =some (.cells #[.slice none 0 0,.slice none 0 0,.slice none 0 0,.slice none 0 0,.int .i64 0] 27 (0,0))
  h0:b0=true→b2=false→Kd.R (Kd.int .i64) 3 W w0.heap.size (fun _=>True) x5 []
  h2:b2=true→Kd.R (Kd.int .i64) 3 W w0.heap.size (fun _=>True) x7 l0
  h5:b5=true→wo W w0.heap.size g5 iz l0.length
  h8:b8=true→wo W w0.heap.size g8 gJ l0.length
  h9:b9=true→wo W w0.heap.size g9 jL 4
  PU:Cd=true→(b2=true∧b5=true∧b8=true∧b9=true)∧kg= .agg #[x7,iz,gJ,jL,.int .i64 0]
  HZ:wP=true→x4= .pointer (some ⟨gx,0,none⟩)∧W.heap[gx]? =some (.cells #[.slice none 0 0,.slice none 0 0,.slice none 0 0,.slice none 0 0,.int .i64 0] 27 (0,0))∧w0.heap.size≤gx∧gx≠gr
  O4:b5=true→b8=true→g5≠g8
  O3:b5=true→b9=true→g5≠g9
  O2:b8=true→b9=true→g8≠g9
section
variable {w0 W W1:World} {gr:Nat} {l0:List Int} {b0 b2 b5 b8 b9 Cd wP:Bool} {x4 x5 x7 iz gJ jL kg v:Value} {g5 g8 g9 gx:Nat}
theorem uv.step (h:uv w0 W gr l0 b0 b2 b5 b8 b9 Cd wP x4 x5 x7 iz gJ jL kg g5 g8 g9 gx) (hb:Below W.heap.size W W1):uv w0 W1 gr l0 b0 b2 b5 b8 b9 Cd wP x4 x5 x7 iz gJ jL kg g5 g8 g9 gx:=
  ⟨aE h.below hb,eP h.JK hb,fun a b=>Kd.ey (h.h0 a b) hb,fun a=>Kd.ey (h.h2 a) hb,fun a=>(h.h5 a).step hb,fun a=>(h.h8 a).step hb,fun a=>(h.h9 a).step hb,h.PU,fun a=>⟨(h.HZ a).1,eP (h.HZ a).2.1 hb,(h.HZ a).2.2⟩,h.O4,h.O3,h.O2⟩
theorem uv.acH (h:uv w0 W gr l0 false b2 b5 b8 b9 Cd wP x4 x5 x7 iz gJ jL kg g5 g8 g9 gx) (hu:Kd.R (Kd.int .i64) 3 W1 W.heap.size (fun _=>True) v []) (hb:Below W.heap.size W W1):uv w0 W1 gr l0 true b2 b5 b8 b9 Cd wP x4 v x7 iz gJ jL kg g5 g8 g9 gx:=
  have h':=h.step hb
  ⟨h'.below,h'.JK,fun _ _=>Kd.dB hu h.below.size,h'.h2,h'.h5,h'.h8,h'.h9,h'.PU,h'.HZ,h'.O4,h'.O3,h'.O2⟩
theorem uv.acG (h:uv w0 W gr l0 true false b5 b8 b9 Cd wP x4 x5 x7 iz gJ jL kg g5 g8 g9 gx) (hu:Kd.R (Kd.int .i64) 3 W1 w0.heap.size (fun _=>True) v l0) (hb:Below w0.heap.size w0 W1) (hg:W.grownBy W1 x5.ownBlock):uv w0 W1 gr l0 true true b5 b8 b9 Cd wP x4 x5 v iz gJ jL kg g5 g8 g9 gx:=
  have hx:=h.h0 rfl rfl
  have hS:∀ {g:Nat} {x:Value} {n:Nat},wo W w0.heap.size g x n→wo W1 w0.heap.size g x n:=fun q=>⟨Kd.lR (Kd.Qe q.1 (Kd.wT hx) (by decide) hg) (fun _ a=>a),Nat.lt_of_lt_of_le q.2 hg.size⟩
  ⟨hb,lq h.JK hg (Kd.F9 hx h.JK (by decide)),fun _ a=>(by cases a),fun _=>hu,fun a=>hS (h.h5 a),fun a=>hS (h.h8 a),fun a=>hS (h.h9 a),fun a=>absurd (h.PU a).1.1 (by decide),fun a=>⟨(h.HZ a).1,lq (h.HZ a).2.1 hg (Kd.F9 hx (h.HZ a).2.1 (by decide)),(h.HZ a).2.2⟩,h.O4,h.O3,h.O2⟩
theorem uv.acF (h:uv w0 W gr l0 b0 false b5 b8 b9 Cd wP x4 x5 x7 iz gJ jL kg g5 g8 g9 gx) (hu:Kd.R (Kd.int .i64) 3 W1 W.heap.size (fun _=>True) v l0) (hb:Below W.heap.size W W1):uv w0 W1 gr l0 b0 true b5 b8 b9 Cd wP x4 x5 v iz gJ jL kg g5 g8 g9 gx:=
  have h':=h.step hb
  ⟨h'.below,h'.JK,fun _ a=>(by cases a),fun _=>Kd.dB hu h.below.size,h'.h5,h'.h8,h'.h9,fun a=>absurd (h.PU a).1.1 (by decide),h'.HZ,h'.O4,h'.O3,h'.O2⟩
theorem wo.fresh {n:Nat} (hu:Kd.S (Kd.slice 9 Kd.string) 62 W1 W.heap.size (fun k_=>k_=W.heap.size) v (List.replicate n [])) (h:Below w0.heap.size w0 W) (hb:Below W.heap.size W W1) (ho:∃b,v.ownBlock=some b∧W.heap.size≤b):wo W1 w0.heap.size W.heap.size v n:=by
  refine ⟨Kd.Cg hu h.size,?_⟩
  obtain ⟨b,h1,h2⟩:=ho
  have:=Kd.ae2 hu b h1
  omega
theorem uv.XD (h:uv w0 W gr l0 b0 b2 false b8 b9 Cd wP x4 x5 x7 iz gJ jL kg g5 g8 g9 gx) (hu:Kd.S (Kd.slice 9 Kd.string) 62 W1 W.heap.size (fun k_=>k_=W.heap.size) v (List.replicate l0.length [])) (hb:Below W.heap.size W W1) (ho:∃b,v.ownBlock=some b∧W.heap.size≤b):uv w0 W1 gr l0 b0 b2 true b8 b9 Cd wP x4 x5 x7 v gJ jL kg W.heap.size g8 g9 gx:=
  have h':=h.step hb
  ⟨h'.below,h'.JK,h'.h0,h'.h2,fun _=>wo.fresh hu h.below hb ho,h'.h8,h'.h9,fun a=>absurd (h.PU a).1.2.1 (by decide),h'.HZ,fun _ a=>Nat.ne_of_gt (h.h8 a).2,fun _ a=>Nat.ne_of_gt (h.h9 a).2,h'.O2⟩
theorem uv.XC (h:uv w0 W gr l0 b0 b2 b5 false b9 Cd wP x4 x5 x7 iz gJ jL kg g5 g8 g9 gx) (hu:Kd.S (Kd.slice 9 Kd.string) 62 W1 W.heap.size (fun k_=>k_=W.heap.size) v (List.replicate l0.length [])) (hb:Below W.heap.size W W1) (ho:∃b,v.ownBlock=some b∧W.heap.size≤b):uv w0 W1 gr l0 b0 b2 b5 true b9 Cd wP x4 x5 x7 iz v jL kg g5 W.heap.size g9 gx:=
  have h':=h.step hb
  ⟨h'.below,h'.JK,h'.h0,h'.h2,h'.h5,fun _=>wo.fresh hu h.below hb ho,h'.h9,fun a=>absurd (h.PU a).1.2.2.1 (by decide),h'.HZ,fun a _=>Nat.ne_of_lt (h.h5 a).2,h'.O3,fun _ a=>Nat.ne_of_gt (h.h9 a).2⟩
theorem uv.XB (h:uv w0 W gr l0 b0 b2 b5 b8 false Cd wP x4 x5 x7 iz gJ jL kg g5 g8 g9 gx) (hu:Kd.S (Kd.slice 9 Kd.string) 62 W1 W.heap.size (fun k_=>k_=W.heap.size) v (List.replicate 4 [])) (hb:Below W.heap.size W W1) (ho:∃b,v.ownBlock=some b∧W.heap.size≤b):uv w0 W1 gr l0 b0 b2 b5 b8 true Cd wP x4 x5 x7 iz gJ v kg g5 g8 W.heap.size gx:=
  have h':=h.step hb
  ⟨h'.below,h'.JK,h'.h0,h'.h2,h'.h5,h'.h8,fun _=>wo.fresh hu h.below hb ho,fun a=>absurd (h.PU a).1.2.2.2 (by decide),h'.HZ,h'.O4,fun a _=>Nat.ne_of_lt (h.h5 a).2,fun a _=>Nat.ne_of_lt (h.h8 a).2⟩
theorem uv.XF (h:uv w0 W gr l0 b0 true true true true false wP x4 x5 x7 iz gJ jL kg g5 g8 g9 gx):uv w0 W gr l0 b0 true true true true true wP x4 x5 x7 iz gJ jL (.agg #[x7,iz,gJ,jL,.int .i64 0]) g5 g8 g9 gx:=
  ⟨h.below,h.JK,h.h0,h.h2,h.h5,h.h8,h.h9,fun _=>⟨⟨rfl,rfl,rfl,rfl⟩,rfl⟩,h.HZ,h.O4,h.O3,h.O2⟩
theorem uv.XE (h:uv w0 W gr l0 b0 b2 b5 b8 b9 Cd false x4 x5 x7 iz gJ jL kg g5 g8 g9 gx) {g:Nat} (hg:g=W.heap.size) (hu:W1.heap[g]? =some (.cells #[.slice none 0 0,.slice none 0 0,.slice none 0 0,.slice none 0 0,.int .i64 0] 27 (0,0))) (hb:Below W.heap.size W W1):uv w0 W1 gr l0 b0 b2 b5 b8 b9 Cd true (.pointer (some ⟨g,0,none⟩)) x5 x7 iz gJ jL kg g5 g8 g9 g:=
  have h':=h.step hb
  ⟨h'.below,h'.JK,h'.h0,h'.h2,h'.h5,h'.h8,h'.h9,h'.PU,fun _=>⟨rfl,hu,hg▸h.below.size,by rw [hg];exact Nat.ne_of_gt (ji h.JK)⟩,h'.O4,h'.O3,h'.O2⟩
end
section
variable {ops:Array Oper} {Q:Exit→Act→World→Prop} {oi:Oper} {a:Act} {W:World} {K:Act→World→Prop}
theorem qX {N:Tmp} (hw:Region.wanted oi (yielded ops a.tmps)=true) (hd:oi.dst=some N) (x:Operand) (ho:oi.op= .makeSlice 23 x x) (n:Nat) (hn:n≤1048576) (hx:a.eval x= .int .i64 (n:Int))
    (h:∀v W1,Kd.S (Kd.slice 9 Kd.string) 62 W1 W.heap.size (fun k_=>k_=W.heap.size) v (List.replicate n [])→Below W.heap.size W W1→(∃b,v.ownBlock=some b∧W.heap.size≤b)→K (a.put (some N) v) W1):
    if Region.wanted oi (yielded ops a.tmps)=true then Oper.wp Tryz.prog oi a W K Q else K (a.put (some N) undef) W:=by
  rw [←hd] at h⊢
  exact Kd.D0 (Kd.slice 9 Kd.string) _ 62 hw hd 23 x x ho (n:Int) hx hx Tryz.underlying23 (.slice none 0 0) 24 Fi rfl (by decide) (by omega) [] (ok:=fun k_=>k_=W.heap.size) (okp:=fun k_=>k_=W.heap.size) ⟨_,rfl,Kd.pW _ _ _ _ _⟩ (fun _ hk=>hk) rfl (Int.natCast_nonneg n) (by rw [Int.toNat_natCast];omega) (Below.refl _ _) (Nat.le_refl _) (fun v W1 h1 h2 _ h4=>h v W1 (by rw [Int.toNat_natCast] at h1;exact h1) h2 h4)
end
abbrev C7 (W:World) (g:Nat) (a0 a1 a2 a3 a4:Value):World:=((((W.setCell ⟨g,0,none⟩ a0).setCell ⟨g,1,none⟩ a1).setCell ⟨g,2,none⟩ a2).setCell ⟨g,3,none⟩ a3).setCell ⟨g,4,none⟩ a4
theorem oI {W:World} {g:Nat} {t:TypeId} {z0 z1 z2 z3 z4:Value} (h:W.heap[g]? =some (.cells #[z0,z1,z2,z3,z4] t (0,0))) (a0 a1 a2 a3 a4:Value):(C7 W g a0 a1 a2 a3 a4).heap[g]? =some (.cells #[a0,a1,a2,a3,a4] t (0,0)):=
  fF (fF (fF (fF (fF h 0 a0 rfl) 1 a1 rfl) 2 a2 rfl) 3 a3 rfl) 4 a4 rfl
theorem xH (W:World) (g:Nat) (a0 a1 a2 a3 a4:Value) (k:Nat) (hk:k≠g):(C7 W g a0 a1 a2 a3 a4).heap[k]? =W.heap[k]? :=
  (Below.heap_setCell _ ⟨g,4,none⟩ _ k hk).trans ((Below.heap_setCell _ ⟨g,3,none⟩ _ k hk).trans ((Below.heap_setCell _ ⟨g,2,none⟩ _ k hk).trans ((Below.heap_setCell _ ⟨g,1,none⟩ _ k hk).trans (Below.heap_setCell _ ⟨g,0,none⟩ _ k hk))))
theorem l5 {w W:World} {g:Nat} (h:Below w.heap.size w W) (hg:w.heap.size≤g) (a0 a1 a2 a3 a4:Value):Below w.heap.size w (C7 W g a0 a1 a2 a3 a4):=dX (dX (dX (dX (dX h hg) hg) hg) hg) hg
theorem Jq (W:World) (g:Nat) (a0 a1 a2 a3 a4:Value):(C7 W g a0 a1 a2 a3 a4).heap.size=W.heap.size:=by simp only [C7,World.size_setCell]
theorem wo.MB {W:World} {B g gx:Nat} {x:Value} {n:Nat} {cs:Array Value} (h:wo W B g x n) (hb:W.heap[gx]? =some (.cells cs 27 (0,0))) (a0 a1 a2 a3 a4:Value):wo (C7 W gx a0 a1 a2 a3 a4) B g x n:=
  ⟨Kd.lR (Kd.F8 (Kd.Qd h.1 hb (by decide)) (fun k hk _=>xH W gx _ _ _ _ _ k hk.2)) (fun _ hk=>hk.1),by rw [Jq];exact h.2⟩
theorem AN {W:World} {B gx:Nat} {x:Value} {l:List Int} {cs:Array Value} (h:Kd.R (Kd.int .i64) 3 W B (fun _=>True) x l) (hb:W.heap[gx]? =some (.cells cs 27 (0,0))) (a0 a1 a2 a3 a4:Value):Kd.R (Kd.int .i64) 3 (C7 W gx a0 a1 a2 a3 a4) B (fun _=>True) x l:=
  Kd.bF (Kd.qM (Kd.jB h hb (by decide)) (fun k hk _=>xH W gx _ _ _ _ _ k hk.2)) (fun _ _=>trivial)
theorem O1 {P:Program} {ops:Array Oper} {Q:Exit→Act→World→Prop} {oi:Oper} {a:Act} {W:World} {K:Act→World→Prop} {N:Option Tmp} {v:Value} (hw:Region.wanted oi (yielded ops a.tmps)=true) (hy:∀w,(execOp a.eval oi).run P w= .ok (.value v) w) (h:K (a.put oi.dst v) W):if Region.wanted oi (yielded ops a.tmps)=true then Oper.wp P oi a W K Q else K (a.put N undef) W:=by
  rw [if_pos hw]
  unfold Oper.wp
  rw [hy]
  exact h
def Cj (w:World) (r1:List Int) (r2 r3 r4:List (List ByteArray)) (b:Bool) (e:Ending) (w':World):Prop:=∃(kV zq CG CF:Value) (g1 g2 g3:Nat),e= .returned (.tuple #[.agg #[kV,zq,CG,CF,.int .i64 0],.bool b])∧Kd.R (Kd.int .i64) 3 w' w.heap.size (fun _=>True) kV r1∧Kd.S (Kd.slice 9 Kd.string) 62 w' w.heap.size (fun k_=>k_=g1) zq r2∧Kd.S (Kd.slice 9 Kd.string) 62 w' w.heap.size (fun k_=>k_=g2) CG r3∧Kd.S (Kd.slice 9 Kd.string) 62 w' w.heap.size (fun k_=>k_=g3) CF r4∧(g1≠g2∧g1≠g3∧g2≠g3)∧Below w.heap.size w w'
theorem zD {d:Kd (List ByteArray)} {e:Nat} {w:World} {base g1 g2:Nat} {v:Value} {xs:List (List ByteArray)} (h:Kd.S d e w base (fun k_=>k_=g2) v xs) (hn:g1≠g2):some g1≠v.ownBlock:=fun e=>hn (by obtain ⟨f,h0,_⟩:=h;exact (h0 _ e.symm))
theorem AO {w:World} {r1:List Int} {r2 r3 r4:List (List ByteArray)} {b:Bool} {e:Ending} {w':World} (h:Cj w r1 r2 r3 r4 b e w'):∃kV zq CG CF:Value,e= .returned (.tuple #[.agg #[kV,zq,CG,CF,.int .i64 0],.bool b])∧Kd.R (Kd.int .i64) 3 w' w.heap.size (fun _=>True) kV r1∧Kd.S (Kd.slice 9 Kd.string) 62 w' w.heap.size (fun k_=>some k_≠(CG:Value).ownBlock∧some k_≠(CF:Value).ownBlock) zq r2∧Kd.S (Kd.slice 9 Kd.string) 62 w' w.heap.size (fun k_=>some k_≠(zq:Value).ownBlock∧some k_≠(CF:Value).ownBlock) CG r3∧Kd.S (Kd.slice 9 Kd.string) 62 w' w.heap.size (fun k_=>some k_≠(zq:Value).ownBlock∧some k_≠(CG:Value).ownBlock) CF r4∧Below w.heap.size w w':=by
 obtain ⟨v0,v1,v2,v3,g1,g2,g3,he,h0,h1,h2,h3,⟨n1,n2,n3⟩,hb⟩:=h
 exact ⟨v0,v1,v2,v3,he,h0,Kd.lR h1 (fun k hk=>by subst hk;exact ⟨zD h2 n1,zD h3 n2⟩),Kd.lR h2 (fun k hk=>by subst hk;exact ⟨zD h1 (Ne.symm n1),zD h3 n3⟩),Kd.lR h3 (fun k hk=>by subst hk;exact ⟨zD h1 (Ne.symm n2),zD h2 (Ne.symm n3)⟩),hb⟩
def qp (A0:Option Addr) (c0:Nat) (l0:List Int) (gr:Nat) (x4 x5 x7 iz gJ jL kg:Value):Act:= { tmps:= #[.slice A0 l0.length c0,undef,.pointer (some ⟨gr,0,none⟩),.bool false,x4,x5,.slice A0 l0.length c0,x7,.slice A0 l0.length c0,.int .i64 (l0.length:Int),iz,.slice A0 l0.length c0,.int .i64 (l0.length:Int),gJ,jL,kg,undef,undef,undef,undef,undef],defers:=[]}
def dV.T1:Bool×List (List Nat×List Nat):=(true,[([],[]),([],[]),([0,1],[0,1]),([],[]),([3],[3]),([4,4],[4]),([],[]),([6],[6]),([7,7],[7]),([],[]),([2,5,8,9],[2,5,8,9]),([],[]),([11,10,2,0,1,2,3,4,5,6,7,8,9,10,11],[10,11])])
def dV.B1:List Nat:=[0,0,3,0,8,24,0,64,192,0,1023,0,4095]
theorem dV.Ej:gq .any (opsOf Tryz.f49 1)=dV.T1:=by kernel_rfl
theorem dV.yA:eF dV.T1.2 dV.B1=true:=by kernel_rfl
def dV.f (k:Nat) (l0:List Int):Option (List Int×List (List ByteArray)×List (List ByteArray)×List (List ByteArray)×Int×Bool):=if l0.length≤1048576 then (av.f k l0 (List.replicate l0.length []) (List.replicate l0.length []) (List.replicate 4 []) 0).bind fun r=>some (if r=true then (l0,List.replicate l0.length [],List.replicate l0.length [],List.replicate 4 [],0,true) else ([],[],[],[],0,false)) else none
theorem GU (k:Nat) (A7:Option Addr) (c7:Nat) (l0:List Int) (vo:Option Addr) (gu:Nat) (rC:Option Addr) (oa:Nat) (vQ:Option Addr) (nv:Nat) (r:Bool) (W:World) (h0:Kd.C (Kd.int .i64) W A7 l0.length l0) (k0:l0.length≤c7) (h1:Kd.C (Kd.slice 9 Kd.string) W vo l0.length (List.replicate l0.length [])) (k1:l0.length≤gu) (h2:Kd.C (Kd.slice 9 Kd.string) W rC l0.length (List.replicate l0.length [])) (k2:l0.length≤oa) (h3:Kd.C (Kd.slice 9 Kd.string) W vQ 4 (List.replicate 4 [])) (k3:4≤nv) (h:av.f k l0 (List.replicate l0.length []) (List.replicate l0.length []) (List.replicate 4 []) 0=some r):
  Calls Tryz.prog 42 #[.agg #[.slice A7 l0.length c7,.slice vo l0.length gu,.slice rC l0.length oa,.slice vQ 4 nv,.int .i64 0]] W fun e w'=>e= .returned (.bool r)∧Below W.heap.size W w':=by
 have h':=av.calls k A7 c7 l0 vo gu (List.replicate l0.length []) rC oa (List.replicate l0.length []) vQ nv (List.replicate 4 []) 0 r W h0 k0 (by rw [List.length_replicate];exact h1) (by rw [List.length_replicate];exact k1) (by rw [List.length_replicate];exact h2) (by rw [List.length_replicate];exact k2) (by rw [List.length_replicate];exact h3) (by rw [List.length_replicate];exact k3) h
 rw [List.length_replicate,List.length_replicate] at h'
 exact h'
theorem dV.ye (k:Nat) (A0:Option Addr) (c0:Nat) (l0:List Int) (r:Bool) (w:World) (eT:Kd.C (Kd.int .i64) w A0 l0.length l0) (fE:l0.length≤c0) (hn:l0.length≤1048576) (h:av.f k l0 (List.replicate l0.length []) (List.replicate l0.length []) (List.replicate 4 []) 0=some r):
  Calls Tryz.prog 49 #[.slice A0 l0.length c0] w (Cj w (if r=true then l0 else []) (if r=true then List.replicate l0.length [] else []) (if r=true then List.replicate l0.length [] else []) (if r=true then List.replicate 4 [] else []) r):=by
 have mX:=Tryz.underlying27
 have fB:=ak eT;have jD:=ak fE;have HN:=ak hn;have HG:=ak h;clear eT fE hn h
 obtain ⟨q1,JG⟩:∃q,q=(if r=true then l0 else []):=⟨_,rfl⟩
 obtain ⟨q2,JF⟩:∃q,q=(if r=true then List.replicate l0.length ([]:List ByteArray) else []):=⟨_,rfl⟩
 obtain ⟨q3,N3⟩:∃q,q=(if r=true then List.replicate 4 ([]:List ByteArray) else []):=⟨_,rfl⟩
 rw [←JG,←JF,←N3];have Q1:=ak JG;have Q2:=ak JF;have Q3:=ak N3;clear JG JF N3
 have HB:=ak (Below.refl w.heap.size w)
 go_enter Tryz.func49,Tryz.ntmps49
 try go_wp2_with (first|((with_reducible refine ax (N:=2) rfl ?_);refine cm 2 #[.slice none 0 0,.slice none 0 0,.slice none 0 0,.slice none 0 0,.int .i64 0] 27 ?_;intro gr hg w8 dO hb;have BR:=ak dO;have GR:=ak (lT hg (ai HB));replace HB:=ak (aE (ai HB) hb);clear hb dO hg))
 replace BR:=ak (ee BR.out)
 replace HB:=ak (cJ HB.out)
 refine ef (n:=13) (S:=fun w'=>True) (ds:=[]) (bl 13 0) (by kernel_rfl) rfl rfl trivial (fun an=> ?_);refine bW dV.Ej dV.yA (fun aC eE=> ?_)
 generalize w8.drew=w9 at BR HB an⊢
 refine ag 1 (some 6) 13 2 aC ?_
 refine ag 3 (some 8) 13 10 aC ?_
 refine ag 4 (some 9) 13 26 aC ?_
 refine ag 6 (some 11) 13 90 aC ?_
 refine ag 7 (some 12) 13 218 aC ?_
 clear an eE
 refine GY [0,2,5,8,9,10,11] (bl 13 4095) (fuel:=1) (fun s a W=>∃x4 x5 x7 iz gJ jL kg:Value,∃g5 g8 g9 gx:Nat,a=qp A0 c0 l0 gr x4 x5 x7 iz gJ jL kg∧uv w W gr l0 (s 0) (s 2) (s 5) (s 8) (s 9) (s 10) (s 11) x4 x5 x7 iz gJ jL kg g5 g8 g9 gx) ⟨undef,undef,undef,undef,undef,undef,undef,0,0,0,0,by simp only [qp],HB.out,BR.out,fun a=>(by cases a),fun a=>(by cases a),fun a=>(by cases a),fun a=>(by cases a),fun a=>(by cases a),fun a=>(by cases a),fun a=>(by cases a),fun a=>(by cases a),fun a=>(by cases a),fun a=>(by cases a)⟩ trivial ⟨?_,?_,?_,?_,?_,?_,?_,trivial⟩ ?_
 ·refine LF (some 5) (fun s a W hI hs hd K hK=> ?_)
  obtain ⟨x4,x5,x7,iz,gJ,jL,kg,g5,g8,g9,gx,rfl,F⟩:=hI
  rw [hs] at F
  unfold qp
  refine Kd.jW (Kd.int .i64) _ 3 ?hg (N:=5) ?hd (xs:=([]:List Int)) (inner:=[]) (ok:=fun _=>True) (okp:=fun _=>True) ?hr ?hp (fun _ hk=>hk) trivial (Below.refl _ _) (Nat.le_refl _) (by simp) ?_;(case hd=>rfl);(case hg=>rfl);(case hr=>first|(go_simp;done)|(go_simp;rfl));(case hp=>exact (bN.none _ _))
  intro v W1 ho hb _ _
  exact hK.out _ _ trivial ⟨x4,v,x7,iz,gJ,jL,kg,g5,g8,g9,gx,by show Act.put _ (some 5) _=_;simp only [qp,Act.put,List.setIfInBounds_toArray,List.set_cons_zero,List.set_cons_succ],by simpa only [hs,hs,beq_self_eq_true,Bool.true_or,Bool.false_or,Nat.reduceBEq] using F.acH ho hb⟩
 ·refine LF (some 7) (fun s a W hI hs hd K hK=> ?_)
  obtain ⟨x4,x5,x7,iz,gJ,jL,kg,g5,g8,g9,gx,rfl,F⟩:=hI
  rw [hs] at F
  have q0:s 0=true:=hd ⟨0,.data⟩ (by simp) rfl
  rw [q0] at F
  unfold qp
  refine Kd.nF (Kd.int .i64) (w0:=w) w.heap.size (by rfl) (.tmp 5) (.tmp 6) 22 3 (.int .i64 0) 8 rfl Tryz.underlying22 xR rfl (by decide) (by omega) x5 [] l0 _ _ _ (fun _=>True) (fun _=>False) rfl rfl (F.h0 rfl rfl) ?aR (fun _ _ h=>h) (fun _ h=>h.elim) (fun _ _=>trivial) F.below F.below.size ?aL ?_
  (case aR=>exact cd (Kd.aH fB.out F.below))
  (case aL=>have:=HN.out;simp only [List.length_nil];omega)
  intro v W1 ho hb hg _
  rw [List.nil_append] at ho
  exact hK.out _ _ trivial ⟨x4,x5,v,iz,gJ,jL,kg,g5,g8,g9,gx,by show Act.put _ (some 7) _=_;simp only [qp,Act.put,List.setIfInBounds_toArray,List.set_cons_zero,List.set_cons_succ],by simpa only [q0,hs,beq_self_eq_true,Bool.true_or,Bool.false_or,Nat.reduceBEq] using F.acG ho hb hg⟩
 ·refine LF (some 10) (fun s a W hI hs hd K hK=> ?_)
  obtain ⟨x4,x5,x7,iz,gJ,jL,kg,g5,g8,g9,gx,rfl,F⟩:=hI
  rw [hs] at F
  unfold qp
  refine qX (by rfl) rfl _ rfl l0.length HN.out rfl (fun v W1 ho hb hn=> ?_)
  exact hK.out _ _ trivial ⟨x4,x5,x7,v,gJ,jL,kg,W.heap.size,g8,g9,gx,by show Act.put _ (some 10) _=_;simp only [qp,Act.put,List.setIfInBounds_toArray,List.set_cons_zero,List.set_cons_succ],by simpa only [hs,hs,beq_self_eq_true,Bool.true_or,Bool.false_or,Nat.reduceBEq] using F.XD ho hb hn⟩
 ·refine LF (some 13) (fun s a W hI hs hd K hK=> ?_)
  obtain ⟨x4,x5,x7,iz,gJ,jL,kg,g5,g8,g9,gx,rfl,F⟩:=hI
  rw [hs] at F
  unfold qp
  refine qX (by rfl) rfl _ rfl l0.length HN.out rfl (fun v W1 ho hb hn=> ?_)
  exact hK.out _ _ trivial ⟨x4,x5,x7,iz,v,jL,kg,g5,W.heap.size,g9,gx,by show Act.put _ (some 13) _=_;simp only [qp,Act.put,List.setIfInBounds_toArray,List.set_cons_zero,List.set_cons_succ],by simpa only [hs,hs,beq_self_eq_true,Bool.true_or,Bool.false_or,Nat.reduceBEq] using F.XC ho hb hn⟩
 ·refine LF (some 14) (fun s a W hI hs hd K hK=> ?_)
  obtain ⟨x4,x5,x7,iz,gJ,jL,kg,g5,g8,g9,gx,rfl,F⟩:=hI
  rw [hs] at F
  unfold qp
  refine qX (by rfl) rfl _ rfl 4 (by omega) rfl (fun v W1 ho hb hn=> ?_)
  exact hK.out _ _ trivial ⟨x4,x5,x7,iz,gJ,v,kg,g5,g8,W.heap.size,gx,by show Act.put _ (some 14) _=_;simp only [qp,Act.put,List.setIfInBounds_toArray,List.set_cons_zero,List.set_cons_succ],by simpa only [hs,hs,beq_self_eq_true,Bool.true_or,Bool.false_or,Nat.reduceBEq] using F.XB ho hb hn⟩
 ·refine LF (some 15) (fun s a W hI hs hd K hK=> ?_)
  obtain ⟨x4,x5,x7,iz,gJ,jL,kg,g5,g8,g9,gx,rfl,F⟩:=hI
  rw [hs] at F
  have q2:s 2=true:=hd ⟨2,.data⟩ (by simp) rfl
  have q5:s 5=true:=hd ⟨5,.data⟩ (by simp) rfl
  have q8:s 8=true:=hd ⟨8,.data⟩ (by simp) rfl
  have q9:s 9=true:=hd ⟨9,.data⟩ (by simp) rfl
  rw [q2,q5,q8,q9] at F
  unfold qp
  obtain ⟨A7,c7,e7⟩:=Kd.dc (F.h2 rfl);subst e7;obtain ⟨vo,gu,YW⟩:=Kd.me (F.h5 rfl).1;subst YW;obtain ⟨rC,oa,YV⟩:=Kd.me (F.h8 rfl).1;subst YV;obtain ⟨vQ,nv,YU⟩:=Kd.me (F.h9 rfl).1;subst YU
  refine O1 (by rfl) (by intro w';go_simp;with_reducible rfl) ?_
  exact hK.out _ _ trivial ⟨x4,x5,_,_,_,_,_,g5,g8,g9,gx,by show Act.put _ (some 15) _=_;simp only [qp,Act.put,List.setIfInBounds_toArray,List.set_cons_zero,List.set_cons_succ];rfl,by simpa only [List.length_replicate,q2,q5,q8,q9,hs,beq_self_eq_true,Bool.true_or,Bool.false_or,Nat.reduceBEq] using F.XF⟩
 ·refine LF (some 4) (fun s a W hI hs hd K hK=> ?_)
  obtain ⟨x4,x5,x7,iz,gJ,jL,kg,g5,g8,g9,gx,rfl,F⟩:=hI
  rw [hs] at F
  unfold qp
  refine ug ?hg (N:=4) ?hd (cs:= #[.slice none 0 0,.slice none 0 0,.slice none 0 0,.slice none 0 0,.int .i64 0]) (t:=27) ?hr ?_;(case hd=>rfl);(case hg=>rfl);(case hr=>first|(go_simp;done)|(go_simp;rfl))
  intro g hg W1 ho hb
  exact hK.out _ _ trivial ⟨.pointer (some ⟨g,0,none⟩),x5,x7,iz,gJ,jL,kg,g5,g8,g9,g,by show Act.put _ (some 4) _=_;simp only [qp,Act.put,List.setIfInBounds_toArray,List.set_cons_zero,List.set_cons_succ],by simpa only [hs,hs,beq_self_eq_true,Bool.true_or,Bool.false_or,Nat.reduceBEq] using F.XE hg ho hb⟩
 clear BR HB
 rintro a W-⟨x4,x5,x7,iz,gJ,jL,kg,g5,g8,g9,gx,rfl,F⟩
 obtain ⟨-,e15⟩:=F.PU rfl
 obtain ⟨e4,hx,hgx,hxr⟩:=F.HZ rfl
 subst e15;subst e4
 have HX:=ak hx;have HE:=ak hgx;have HF:=ak F
 have K0:=ak (F.h2 rfl);have K1:=ak (F.h5 rfl);have K2:=ak (F.h8 rfl);have K3:=ak (F.h9 rfl)
 have HNE:=ak (⟨F.O4 rfl rfl,F.O3 rfl rfl,F.O2 rfl rfl⟩:g5≠g8∧g5≠g9∧g8≠g9)
 clear F hx hgx
 unfold qp
 obtain ⟨A7,c7,e7⟩:=Kd.dc K0.out;subst e7;obtain ⟨vo,gu,YW⟩:=Kd.me K1.out.1;subst YW;obtain ⟨rC,oa,YV⟩:=Kd.me K2.out.1;subst YV;obtain ⟨vQ,nv,YU⟩:=Kd.me K3.out.1;subst YU
 refine gv 12 none 13 8191 aC (fun K hK=> ?_)
 obtain ⟨Cx,zP,Cw,V5,V4,V7,JG,JF,N3,V6⟩:=aD HX
 refine kW (w1:= ?_) (by rfl) rfl ?_ ?_
 rotate_left
 ·go_simp
  rfl
 refine hK.out _ _ trivial (fun _=> ?_)
 clear hK K Cx zP Cw V5 V4 V7 JG JF N3 V6
 refine fm (cW aC.out (by kernel_rfl)) ?_
 clear aC
 rw [List.length_replicate] at K1 K2;rw [show (List.replicate 4 ([]:List ByteArray)).length=4 from rfl] at K3
 try simp only [List.length_replicate]
 have IG:=ak ((xH W gx (.slice A7 l0.length c7) (.slice vo l0.length gu) (.slice rC l0.length oa) (.slice vQ 4 nv) (.int .i64 0) gr (Ne.symm hxr)).trans HF.out.JK)
 replace HB:=ak (l5 HF.out.below HE.out (.slice A7 l0.length c7) (.slice vo l0.length gu) (.slice rC l0.length oa) (.slice vQ 4 nv) (.int .i64 0))
 replace K0:=ak (AN K0.out HX.out (.slice A7 l0.length c7) (.slice vo l0.length gu) (.slice rC l0.length oa) (.slice vQ 4 nv) (.int .i64 0))
 replace K1:=ak (wo.MB K1.out HX.out (.slice A7 l0.length c7) (.slice vo l0.length gu) (.slice rC l0.length oa) (.slice vQ 4 nv) (.int .i64 0))
 replace K2:=ak (wo.MB K2.out HX.out (.slice A7 l0.length c7) (.slice vo l0.length gu) (.slice rC l0.length oa) (.slice vQ 4 nv) (.int .i64 0))
 replace K3:=ak (wo.MB K3.out HX.out (.slice A7 l0.length c7) (.slice vo l0.length gu) (.slice rC l0.length oa) (.slice vQ 4 nv) (.int .i64 0))
 replace HX:=ak (oI HX.out (.slice A7 l0.length c7) (.slice vo l0.length gu) (.slice rC l0.length oa) (.slice vQ 4 nv) (.int .i64 0))
 clear HF
 unfold C7 at IG HB K0 K1 K2 K3 HX
 generalize (((((W.setCell ⟨gx,0,none⟩ (.slice A7 l0.length c7)).setCell ⟨gx,1,none⟩ (.slice vo l0.length gu)).setCell ⟨gx,2,none⟩ (.slice rC l0.length oa)).setCell ⟨gx,3,none⟩ (.slice vQ 4 nv)).setCell ⟨gx,4,none⟩ (.int .i64 0))=W2 at IG HB K0 K1 K2 K3 HX⊢
 obtain ⟨Cx,zP,Cw,V5,V4,V7,JG,JF,N3,V6⟩:=aD HX
 have S1:=ak (Kd.yG K1.out.1);have S2:=ak (Kd.yG K2.out.1);have S3:=ak (Kd.yG K3.out.1);have S0:=ak (Kd.bL K0.out)
 rw [List.length_replicate] at S1 S2;rw [show (List.replicate 4 ([]:List ByteArray)).length=4 from rfl] at S3
 cases r with
 |false=>
  obtain rfl:=Q1.out;obtain rfl:=Q2.out;obtain rfl:=Q3.out;clear Q1 Q2 Q3;rw [if_neg (by decide),if_neg (by decide),if_neg (by decide)]
  go_wp2_with (first|(go_at_call 42;have dj:=GU k A7 c7 l0 vo gu rC oa vQ nv _ W2 S0.out.2.2 S0.out.2.1 S1.out.2.2 S1.out.2.1 S2.out.2.2 S2.out.2.1 S3.out.2.2 S3.out.2.1 HG.out;(with_reducible refine (dj).mono ?_);clear dj;rintro e W3 ⟨rfl,hb⟩;replace IG:=ak (eP IG.out hb);replace HX:=ak (eP HX.out hb);replace K0:=ak (Kd.ey K0.out hb);replace K1:=ak (K1.out.step hb);replace K2:=ak (K2.out.step hb);replace K3:=ak (K3.out.step hb);replace HB:=ak (aE HB.out hb);clear hb Cx zP Cw V5 V4 V7 JG JF N3 V6;obtain ⟨BT,BS,BL,BK,BE,BD,BC,Bw,Bv,Bp⟩:=aD IG;have WW:=aD HX))
  refine bodyPost_ret (dI rfl _ _ gr 27 #[.slice none 0 0,.slice none 0 0,.slice none 0 0,.slice none 0 0,.int .i64 0] (0,0) _ rfl (by exact oI IG.out _ _ _ _ _) Tryz.underlying27 rfl (by kernel_rfl)) rfl ?_
  exact ⟨_,_,_,_,0,1,2,rfl,Kd.pW _ _ _ _ _,Kd.pV _ _ _ _ _,Kd.pV _ _ _ _ _,Kd.pV _ _ _ _ _,⟨by decide,by decide,by decide⟩,l5 HB.out GR.out _ _ _ _ _⟩
 |true=>
  have e1:l0=q1:=Q1.out.symm;subst e1;have e2:List.replicate l0.length []=q2:=Q2.out.symm;subst e2;have e3:List.replicate 4 []=q3:=Q3.out.symm;subst e3;clear Q1 Q2 Q3
  go_wp2_with (first|(go_at_call 42;have dj:=GU k A7 c7 l0 vo gu rC oa vQ nv _ W2 S0.out.2.2 S0.out.2.1 S1.out.2.2 S1.out.2.1 S2.out.2.2 S2.out.2.1 S3.out.2.2 S3.out.2.1 HG.out;(with_reducible refine (dj).mono ?_);clear dj;rintro e W3 ⟨rfl,hb⟩;replace IG:=ak (eP IG.out hb);replace HX:=ak (eP HX.out hb);replace K0:=ak (Kd.ey K0.out hb);replace K1:=ak (K1.out.step hb);replace K2:=ak (K2.out.step hb);replace K3:=ak (K3.out.step hb);replace HB:=ak (aE HB.out hb);clear hb Cx zP Cw V5 V4 V7 JG JF N3 V6;obtain ⟨BT,BS,BL,BK,BE,BD,BC,Bw,Bv,Bp⟩:=aD IG;have WW:=aD HX))
  refine bodyPost_ret (dI rfl _ _ gr 27 #[.slice A7 l0.length c7,.slice vo l0.length gu,.slice rC l0.length oa,.slice vQ 4 nv,.int .i64 0] (0,0) _ rfl (by exact oI IG.out _ _ _ _ _) Tryz.underlying27 rfl (by kernel_rfl)) rfl ?_
  exact ⟨_,_,_,_,g5,g8,g9,rfl,AN K0.out IG.out _ _ _ _ _,(wo.MB K1.out IG.out _ _ _ _ _).1,(wo.MB K2.out IG.out _ _ _ _ _).1,(wo.MB K3.out IG.out _ _ _ _ _).1,HNE.out,l5 HB.out GR.out _ _ _ _ _⟩
theorem dV.calls (k:Nat) (A0:Option Addr) (c0:Nat) (l0:List Int) (r1:List Int) (r2:List (List ByteArray)) (r3:List (List ByteArray)) (r4:List (List ByteArray)) (r5:Int) (r6:Bool) (w:World) (eT:Kd.C (Kd.int .i64) w A0 l0.length l0) (fE:l0.length≤c0) (h:dV.f k l0=some (r1,r2,r3,r4,r5,r6)):
  Calls Tryz.prog 49 #[.slice A0 l0.length c0] w fun e w'=>∃kV zq CG CF:Value,e= .returned (.tuple #[.agg #[kV,zq,CG,CF,.int .i64 r5],.bool r6])∧Kd.R (Kd.int .i64) 3 w' w.heap.size (fun _=>True) kV r1∧Kd.S (Kd.slice 9 Kd.string) 62 w' w.heap.size (fun k_=>some k_≠(CG:Value).ownBlock∧some k_≠(CF:Value).ownBlock) zq r2∧Kd.S (Kd.slice 9 Kd.string) 62 w' w.heap.size (fun k_=>some k_≠(zq:Value).ownBlock∧some k_≠(CF:Value).ownBlock) CG r3∧Kd.S (Kd.slice 9 Kd.string) 62 w' w.heap.size (fun k_=>some k_≠(zq:Value).ownBlock∧some k_≠(CG:Value).ownBlock) CF r4∧Below w.heap.size w w':=by
 unfold dV.f at h
 obtain ⟨hn,h⟩:=cZ h
 obtain ⟨r,A1,h⟩:=bS h
 have hc:=dV.ye k A0 c0 l0 r w eT fE hn A1.out
 have h:=Option.some.inj h
 cases r with
 |false=>
  obtain ⟨rfl,rfl,rfl,rfl,rfl,rfl⟩:[]=r1∧[]=r2∧[]=r3∧[]=r4∧0=r5∧false=r6:=by simpa using h
  exact hc.mono fun e w' he=>AO he
 |true=>
  obtain ⟨rfl,rfl,rfl,rfl,rfl,rfl⟩:l0=r1∧List.replicate l0.length []=r2∧List.replicate l0.length []=r3∧List.replicate 4 []=r4∧0=r5∧true=r6:=by simpa using h
  exact hc.mono fun e w' he=>AO he
def cX.l0:Nat→List (List ByteArray)→List (List ByteArray)→Int→Int→Option ((List (List ByteArray)))
  |0,_,_,_,_=>none
  |k+1,x3,x6,x7,x8=>if x8<x7 then (if 0≤x8 then (if x8<(x6.length:Int) then ((some (([]:List ByteArray):List ByteArray)).bind fun Eg=>(if Eg.length+(bK x6 x8).length<8796093022208 then (if x3.length<5864062014805 then (cX.l0 k (x3++[(Eg++(bK x6 x8))]) x6 x7 (wrap64 (x8+1))) else (none)) else (none))) else (none)) else (none)) else (some x3)
def cX.f (k:Nat) (l0:List (List ByteArray)):Option ((List (List ByteArray))):=cX.l0 k ([]:List (List ByteArray)) l0 (l0.length:Int) 0
theorem cX.calls (k:Nat) (A0:Option Addr) (c0:Nat) (l0:List (List ByteArray)) (r:List (List ByteArray)) (w:World) (eT:Kd.C (Kd.slice 9 Kd.string) w A0 l0.length l0) (fE:l0.length≤c0) (h:cX.f k l0=some r):
  Calls Tryz.prog 87 #[.slice A0 l0.length c0] w fun e w'=>∃kV:Value,e= .returned (kV)∧Kd.S (Kd.slice 9 Kd.string) 62 w' w.heap.size (fun _=>True) kV r∧Below w.heap.size w w':=by
 have fB:=ak eT;have jD:=ak fE;clear eT fE
 have HB:=ak (Below.refl w.heap.size w)
 have H:(cX.l0 k ([]:List (List ByteArray)) l0 (l0.length:Int) 0)=some r:=h
 clear h
 have H':=ak H
 clear H
 go_enter Tryz.func87,Tryz.ntmps87
 go_wp2
 go_loopg [3,8] k (fun kq v3 v8 w'=>∃(iN:List (List ByteArray)) (cO:Int),v8= .int .i64 cO∧Aside0 (cX.l0 kq iN l0 (l0.length:Int) cO=some r)∧Aside0 (kq≤k)∧Aside0 (Kd.S (Kd.slice 9 Kd.string) 62 w' w.heap.size (fun _=>True) v3 iN)∧Aside0 (Below w.heap.size w w'))
 case atStart=>exact ⟨(([]:List (List ByteArray))),(0),er,H',⟨Nat.le_refl _⟩,⟨by first|exact Kd.pV _ _ _ _ _|exact Kd.R3 _ _ _ _ _|exact Kd.RF _ _ _ _ _|exact Kd.RI _ _ _ _ _|exact Kd.pW _ _ _ _ _⟩,⟨ai HB⟩⟩
 case round=>
  clear H'
  obtain ⟨iN,cO,rfl,HA,fP,eJ,HB⟩:=hrel
  cases gk with
  |zero=>exact absurd HA.out (by simp [cX.l0])
  |succ k1=>
   have H:=HA.out;clear HA
   simp only [cX.l0] at H
   by_cases c2:cO<(l0.length:Int)
   ·rw [if_pos c2] at H
    have oQ:=decide_eq_true c2
    clear c2;replace H:=cZ H;obtain ⟨c3,H⟩:=H;have jh:=decide_eq_true c3;clear c3;replace H:=cZ H;obtain ⟨c4,H⟩:=H;have iI:=decide_eq_true c4;clear c4
    obtain ⟨Eg,eZ⟩:∃y_:List ByteArray,y_=(([]:List ByteArray)):=⟨_,rfl⟩
    replace H:(if Eg.length+(bK l0 cO).length<8796093022208 then (if iN.length<5864062014805 then (cX.l0 k1 (iN++[(Eg++(bK l0 cO))]) l0 (l0.length:Int) (wrap64 (cO+1))) else (none)) else (none))=some r:=yH
    have RX:=ak eZ;clear eZ;replace H:=cZ H;obtain ⟨c5,H⟩:=H;have ae4:=ak c5;clear c5
    obtain ⟨KB,eZ⟩:∃y_:List ByteArray,y_=(Eg++(bK l0 cO)):=⟨_,rfl⟩
    replace H:(if iN.length<5864062014805 then (cX.l0 k1 (iN++[KB]) l0 (l0.length:Int) (wrap64 (cO+1))) else (none))=some r:=yH
    have aaM:=ak eZ;clear eZ;replace H:=cZ H;obtain ⟨c6,H⟩:=H;have Vv:=ak c6;clear c6
    obtain ⟨WJ,eZ⟩:∃y_:List (List ByteArray),y_=(iN++[KB]):=⟨_,rfl⟩
    replace H:(cX.l0 k1 WJ l0 (l0.length:Int) (wrap64 (cO+1)))=some r:=yH
    have aaL:=ak eZ;clear eZ
    have H':=ak H
    clear H
    have Tf:0≤(cO:Int):=da
    have SZ:cO<(l0.length:Int):=da
    obtain ⟨af5,afi,aeW,aeC,Bi,Hl,HH⟩:=lu fB.out cO Tf SZ
    cases aeC
    replace Bi:=(HB.out.cell (World.block_lt_of_cell? w _ Bi)).trans Bi
    have Qi:=ak HH;have abH:=ak Hl;clear HH Hl;replace Tf:=eq_true Tf;replace SZ:=eq_true SZ
    go_wp2_with (first|((with_reducible refine ax (N:=13) rfl ?_);refine Kd.gy Kd.string _ 9 ?hg (N:=13) ?hd (xs:=([]:List ByteArray)) (inner:=[]) (ok:=fun _=>True) (okp:=fun _=>True) ?hr ?hp (fun _ hk=>hk) trivial (Below.refl _ _) (Nat.le_refl _) (by simp) ?_;(case hd=>rfl);(case hg=>rfl);(case hr=>exact qg);(case hp=>exact (bN.none _ _));intro ab3 w7 Ks hb cg dZ;clear cg dZ;(first|rw [←RX.out] at Ks|(simp only [Int.reduceToNat] at Ks;rw [←RX.out] at Ks));replace eJ:=ak (Kd.D1 (sd eJ) (Kd.nE Ks) hb);have Sf:=ak (Kd.dB Ks (bC (ai HB)));replace HB:=ak (aE (ai HB) hb);clear hb Ks)|((with_reducible refine cr (b:= .append) (xs:= #[.tmp 13,.tmp 14]) rfl ?_);at_builtin;refine Kd.eK Kd.string (w0:=w) w.heap.size rfl (.tmp 13) (.tmp 14) 62 9 (.string ⟨#[]⟩) 16 rfl Tryz.underlying62 mK rfl (by decide) (by omega) ab3 Eg (bK l0 cO) _ _ _ (fun _=>True) (fun _=>False) rfl rfl ?aO ?aR (fun _ _ h=>h) (fun _ h=>h.elim) ?aF ?aB ?aS ?aL ?_;(case aR=>exact cd (Kd.aH Qi.out HB.out));(case aB=>exact (ai HB));(case aF=>exact (fun _ _=>trivial));(case aO=>exact (fy Sf));(case aS=>exact (bC (ai HB)));(case aL=>have:=ae4.out;omega);intro agP w9 ho hb hg gV;rw [←aaM.out] at ho;replace eJ:=ak (Kd.Qf (ok:=(fun _=>True)) (sd eJ) hg gV);replace HB:=ak (hb);have Iz:=ak (ho);clear Sf;clear ho hb hg gV;obtain ⟨Kj,JW,MC⟩:=Kd.dc Iz.out;subst MC)|((with_reducible refine cr (b:= .append) (xs:= #[.tmp 12,.tmp 16]) rfl ?_);at_builtin;refine Kd.D2 (Kd.slice 9 Kd.string) (w0:=w) w.heap.size rfl (.tmp 12) (.tmp 16) 23 62 (.slice none 0 0) 24 rfl Tryz.underlying23 Fi rfl (by decide) (by omega) u3 iN KB [.slice Kj KB.length JW] (fun _=>True) (fun k_=>some k_=(.slice Kj KB.length JW:Value).ownBlock) rfl rfl ?aP (fun k_ Kt=>((Kd.bF (ok':=fun k_=>((fun _=>True)) k_∧some k_≠(u3:Value).ownBlock) (Kd.uu (Iz.out) (Kd.wR eJ.out) (by decide)) (fun k_ hk=>⟨trivial,hk.2⟩))).1 k_ Kt.symm) ?aF ?aO ?aB ?aS ?aL ?_;(case aP=>exact Kd.R4 (Kd.bF (Kd.iu rfl (Kd.bF (ok':=fun k_=>((fun _=>True)) k_∧some k_≠(u3:Value).ownBlock) (Kd.uu (Iz.out) (Kd.wR eJ.out) (by decide)) (fun k_ hk=>⟨trivial,hk.2⟩))) (fun _ h_=>h_)));(case aB=>exact (ai HB));(case aF=>exact (fun _ _=>trivial));(case aO=>exact (by (with_reducible repeat (first|apply Kd.uq|apply Kd.um|apply Kd.yI));exact Kd.lR eJ.out (fun k_ hk=>⟨trivial,fun e_=>hk.2 e_⟩)));(case aS=>exact (bC (ai HB)));(case aL=>have:=Vv.out;omega);intro v210 W5 ho hb hg gV;rw [←aaL.out] at ho;replace HB:=ak (hb);have abe:=ak (ho);clear eJ Iz;clear ho hb hg gV))
    go_roundg k1
    case measure=>have:=fP.out;omega
    case rel=>exact ⟨(WJ),(wrap64 (cO+1)),er,H',⟨by have:=fP.out;omega⟩,⟨sd abe⟩,⟨ai HB⟩⟩
   ·rw [if_neg c2] at H
    have oQ:=decide_eq_false c2
    clear c2
    obtain rfl:=Option.some.inj H
    go_wp2
    go_ret
    exact ⟨_,jT,by (with_reducible repeat (first|apply Kd.uq|apply Kd.um|apply Kd.yI));exact eJ.out,ai HB⟩
def en.T1:Bool×List (List Nat×List Nat):=(true,[([],[]),([],[]),([1],[1]),([0,2],[0,2]),([],[]),([4],[4]),([5,3],[5]),([],[]),([7],[7]),([8,6],[8]),([],[]),([10],[10]),([11,9],[11]),([],[]),([13],[13]),([3,6,9,12,14],[3,6,9,12,14]),([15,12,0,1,2,3,4,5,6,7,8,9,10,11,12,13,14,15],[15])])
def en.B1:List Nat:=[0,0,2,7,0,16,63,0,128,511,0,1024,4095,0,8192,32767,65535]
theorem en.Ej:gq .any (opsOf Tryz.f52 1)=en.T1:=by kernel_rfl
theorem en.yA:eF en.T1.2 en.B1=true:=by kernel_rfl
def en.f (k:Nat) (n:Nt):Option Nt:=if n.ks.length≤1048576 then (cX.f k n.ps).bind fun t1=>(cX.f k n.ss).bind fun t2=>(cX.f k n.ib).bind fun t3=>some ⟨n.ks,t1,t2,t3,n.sd⟩ else none
theorem en.calls {k:Nat} {v0 v1 v2 v3:Value} {n r:Nt} {w:World} (hn:NC w v0 v1 v2 v3 n) (h:en.f k n=some r):
    Calls Tryz.prog 52 #[.agg #[v0,v1,v2,v3,.int .i64 n.sd]] w (D4 w r):=by
 obtain ⟨A0,c0,A1,c1,A2,c2,A3,c3,⟨rfl,rfl,rfl,rfl⟩,⟨x0,y0⟩,⟨x1,y1⟩,⟨x2,y2⟩,⟨x3,y3⟩⟩:=hn
 have X0:=ak x0;have X1:=ak x1;have X2:=ak x2;have X3:=ak x3;have Y0:=ak y0;have Y1:=ak y1;have Y2:=ak y2;have Y3:=ak y3
 clear x0 x1 x2 x3 y0 y1 y2 y3
 obtain ⟨ks,ps,ss,ib,sd⟩:=n
 dsimp only at X0 X1 X2 X3 Y0 Y1 Y2 Y3⊢
 have mX:=Tryz.underlying27
 have HS:=Sep.nil w
 unfold en.f at h
 dsimp only at h
 replace h:=cZ h;obtain ⟨hn,h⟩:=h
 have HN:=ak hn;clear hn
 replace h:=bS h;obtain ⟨t1,T1,h⟩:=h
 replace h:=bS h;obtain ⟨t2,T2,h⟩:=h
 replace h:=bS h;obtain ⟨t3,T3,h⟩:=h
 obtain rfl:=Option.some.inj h
 clear h
 go_enter Tryz.func52,Tryz.ntmps52
 go_upto_region 1 with (first|((with_reducible refine ax (N:=1) rfl ?_);refine cm 1 #[.slice A0 ks.length c0,.slice A1 ps.length c1,.slice A2 ss.length c2,.slice A3 ib.length c3,.int .i64 sd] 27 ?_;intro b1 cg W_ bQ bn;replace HS:=HS.box cg bQ bn;clear cg bQ bn;have gi:=aD (HS.bf 0))|((with_reducible refine ax (N:=2) rfl ?_);refine cm 2 #[.slice none 0 0,.slice none 0 0,.slice none 0 0,.slice none 0 0,.int .i64 0] 27 ?_;intro b2 cg W_ bQ bn;replace HS:=HS.box cg bQ bn;clear cg bQ bn;clear gi;have fl:=aD (HS.bf 0);clear fl;have fl:=aD (HS.bf 0);have gi:=aD (HS.bf 1)))
 clear fl gi
 have gi:=aD (HS.bf 1)
 refine ef (n:=17) (S:=fun w'=>w'.cell? ⟨b1,0,none⟩=some (.slice A0 ks.length c0)∧w'.cell? ⟨b1,1,none⟩=some (.slice A1 ps.length c1)∧w'.cell? ⟨b1,2,none⟩=some (.slice A2 ss.length c2)∧w'.cell? ⟨b1,3,none⟩=some (.slice A3 ib.length c3)∧w'.cell? ⟨b1,4,none⟩=some (.int .i64 sd)) (ds:=[]) (bl 17 0) (by kernel_rfl) rfl rfl ⟨gi.1,gi.2.1,gi.2.2.1,gi.2.2.2.1,gi.2.2.2.2.1⟩ (fun an=> ?_);refine bW en.Ej en.yA (fun aC eE=> ?_)
 clear gi
 replace HS:=HS.drew
 generalize World.drew _=vO at HS an⊢
 refine ag 1 (some 4) 17 2 aC ?_
 refine cl 2 (some 5) 17 6 aC eE an ?_ (hy:=by rintro w' ⟨s0,s1,s2,s3,s4⟩;go_simp;with_reducible rfl)
 refine ag 4 (some 7) 17 22 aC ?_
 refine cl 5 (some 8) 17 54 aC eE an ?_ (hy:=by rintro w' ⟨s0,s1,s2,s3,s4⟩;go_simp;with_reducible rfl)
 refine ag 7 (some 10) 17 182 aC ?_
 refine cl 8 (some 11) 17 438 aC eE an ?_ (hy:=by rintro w' ⟨s0,s1,s2,s3,s4⟩;go_simp;with_reducible rfl)
 refine ag 10 (some 13) 17 1462 aC ?_
 refine cl 11 (some 14) 17 3510 aC eE an ?_ (hy:=by rintro w' ⟨s0,s1,s2,s3,s4⟩;go_simp;with_reducible rfl)
 refine ag 13 (some 16) 17 11702 aC ?_
 refine cl 14 (some 17) 17 28086 aC eE an ?_ (hy:=by rintro w' ⟨s0,s1,s2,s3,s4⟩;go_simp;with_reducible rfl)
 refine gv 0 (some 3) 17 28087 aC (fun K hK=> ?_)
 clear an
 refine Kd.jW (Kd.int .i64) _ 3 ?hg (N:=3) ?hd (xs:=([]:List Int)) (inner:=[]) (ok:=fun _=>True) (okp:=fun _=>True) ?hr ?hp (fun _ hk=>hk) trivial (Below.refl _ _) (Nat.le_refl _) (by simp) ?_
 (case hd=>rfl)
 (case hg=>rfl)
 (case hr=>first|(go_simp;done)|(go_simp;rfl))
 (case hp=>exact (bN.none _ _))
 intro u0 W_ bQ bn _ _
 replace HS:=HS.new (A:=rA KI 3 u0 []) bn bQ
 clear bQ bn
 have gi:=aD (HS.bf 2)
 refine hK.out _ _ ⟨gi.1,gi.2.1,gi.2.2.1,gi.2.2.2.1,gi.2.2.2.2.1⟩ (fun an=> ?_)
 clear hK K gi
 refine dF (a':= ?_) ?_ ?_
 rotate_left
 ·show Act.put _ (some 3) _=_
  simp only [Act.put,List.setIfInBounds_toArray,List.set_cons_zero,List.set_cons_succ,bX,cL]
  rfl
 refine gv 3 (some 6) 17 28095 aC (fun K hK=> ?_)
 clear an
 refine Sep.append KI (by rfl) (.tmp 3) (.tmp 5) 22 3 (.int .i64 0) 8 rfl Tryz.underlying22 xR rfl (by decide) (by omega) u0 [] ks A0 ks.length c0 rfl rfl HS (Kd.aH X0.out HS.base) (fun _ _ _ _ h=>h) ?aL ?_
 (case aL=>have:=HN.out;simp only [List.length_nil];omega)
 clear HS
 intro u4 W_ HS
 rw [List.nil_append] at HS
 obtain ⟨B0,d0,rfl⟩:=HS.lJ 0
 have gi:=aD (HS.bf 2)
 refine hK.out _ _ ⟨gi.1,gi.2.1,gi.2.2.1,gi.2.2.2.1,gi.2.2.2.2.1⟩ (fun an=> ?_)
 clear hK K gi
 refine dF (a':= ?_) ?_ ?_
 rotate_left
 ·show Act.put _ (some 6) _=_
  simp only [Act.put,List.setIfInBounds_toArray,List.set_cons_zero,List.set_cons_succ,bX,cL]
  rfl
 refine gv 6 (some 9) 17 28159 aC (fun K hK=> ?_)
 refine gw Tryz.func87 (by kernel_rfl) rfl #[.slice A1 ps.length c1] (by rfl) rfl rfl (by (try simp only [List.map_toArray,List.map_cons,List.map_nil]);first|done|rfl) ?_
 have dj:=cX.calls k _ _ ps t1 _ (Kd.aH X1.out HS.base) Y1.out T1.out
 refine dj.mono ?_
 clear dj an
 rintro e W_ ⟨u1,rfl,bQ,bn⟩
 refine ⟨_,rfl,?_⟩
 replace HS:=HS.new (A:=sA KT 62 u1 t1) bn bQ
 obtain ⟨B1,d1,rfl⟩:=HS.jZ 0
 clear bQ bn
 have gi:=aD (HS.bf 3)
 refine hK.out _ _ ⟨gi.1,gi.2.1,gi.2.2.1,gi.2.2.2.1,gi.2.2.2.2.1⟩ (fun an=> ?_)
 clear hK K gi
 refine dF (a':= ?_) ?_ ?_
 rotate_left
 ·show Act.put _ (some 9) _=_
  simp only [Act.put,List.setIfInBounds_toArray,List.set_cons_zero,List.set_cons_succ,bX,cL]
  rfl
 refine gv 9 (some 12) 17 28671 aC (fun K hK=> ?_)
 refine gw Tryz.func87 (by kernel_rfl) rfl #[.slice A2 ss.length c2] (by rfl) rfl rfl (by (try simp only [List.map_toArray,List.map_cons,List.map_nil]);first|done|rfl) ?_
 have dj:=cX.calls k _ _ ss t2 _ (Kd.aH X2.out HS.base) Y2.out T2.out
 refine dj.mono ?_
 clear dj an
 rintro e W_ ⟨u2,rfl,bQ,bn⟩
 refine ⟨_,rfl,?_⟩
 replace HS:=HS.new (A:=sA KT 62 u2 t2) bn bQ
 obtain ⟨B2,d2,rfl⟩:=HS.jZ 0
 clear bQ bn
 have gi:=aD (HS.bf 4)
 refine hK.out _ _ ⟨gi.1,gi.2.1,gi.2.2.1,gi.2.2.2.1,gi.2.2.2.2.1⟩ (fun an=> ?_)
 clear hK K gi
 refine dF (a':= ?_) ?_ ?_
 rotate_left
 ·show Act.put _ (some 12) _=_
  simp only [Act.put,List.setIfInBounds_toArray,List.set_cons_zero,List.set_cons_succ,bX,cL]
  rfl
 refine gv 12 (some 15) 17 32767 aC (fun K hK=> ?_)
 refine gw Tryz.func87 (by kernel_rfl) rfl #[.slice A3 ib.length c3] (by rfl) rfl rfl (by (try simp only [List.map_toArray,List.map_cons,List.map_nil]);first|done|rfl) ?_
 have dj:=cX.calls k _ _ ib t3 _ (Kd.aH X3.out HS.base) Y3.out T3.out
 refine dj.mono ?_
 clear dj an
 rintro e W_ ⟨u3,rfl,bQ,bn⟩
 refine ⟨_,rfl,?_⟩
 replace HS:=HS.new (A:=sA KT 62 u3 t3) bn bQ
 obtain ⟨B3,d3,rfl⟩:=HS.jZ 0
 clear bQ bn
 have gi:=aD (HS.bf 5)
 refine hK.out _ _ ⟨gi.1,gi.2.1,gi.2.2.1,gi.2.2.2.1,gi.2.2.2.2.1⟩ (fun an=> ?_)
 clear hK K gi
 refine dF (a':= ?_) ?_ ?_
 rotate_left
 ·show Act.put _ (some 15) _=_
  simp only [Act.put,List.setIfInBounds_toArray,List.set_cons_zero,List.set_cons_succ,bX,cL]
  rfl
 refine ag 15 (some 18) 17 65535 aC ?_
 refine gv 16 none 17 131071 aC (fun K hK=> ?_)
 clear an
 have fl:=aD (HS.bf 4)
 refine kW (w1:= ?_) (by rfl) rfl ?_ ?_
 rotate_left
 ·go_simp
  rfl
 replace HS:=(((((HS.dg 4 0 (.slice B0 ks.length d0) #[.slice B0 ks.length d0,.slice none 0 0,.slice none 0 0,.slice none 0 0,.int .i64 0]).dg 4 1 (.slice B1 t1.length d1) #[.slice B0 ks.length d0,.slice B1 t1.length d1,.slice none 0 0,.slice none 0 0,.int .i64 0]).dg 4 2 (.slice B2 t2.length d2) #[.slice B0 ks.length d0,.slice B1 t1.length d1,.slice B2 t2.length d2,.slice none 0 0,.int .i64 0]).dg 4 3 (.slice B3 t3.length d3) #[.slice B0 ks.length d0,.slice B1 t1.length d1,.slice B2 t2.length d2,.slice B3 t3.length d3,.int .i64 0]).dg 4 4 (.int .i64 sd) #[.slice B0 ks.length d0,.slice B1 t1.length d1,.slice B2 t2.length d2,.slice B3 t3.length d3,.int .i64 sd])
 clear fl
 have gi:=aD (HS.bf 5)
 refine hK.out _ _ ⟨gi.1,gi.2.1,gi.2.2.1,gi.2.2.2.1,gi.2.2.2.2.1⟩ (fun an=> ?_)
 clear hK K gi
 refine fm (cW aC.out (by kernel_rfl)) ?_
 clear aC eE an
 go_wp2
 refine bodyPost_ret (results_cell_row rfl _ _ b2 27 #[.slice B0 ks.length d0,.slice B1 t1.length d1,.slice B2 t2.length d2,.slice B3 t3.length d3,.int .i64 sd] (0,0) _ rfl (by exact (HS.bf 4).out) Tryz.underlying27 rfl (by kernel_rfl)) rfl ?_
 exact ⟨_,_,_,_,rfl,(HS.sel [3,2,1,0]).YY,HS.base⟩
end Go.Proofs.YtihekdlcfohkkaaGreatDoor.QFnNet
