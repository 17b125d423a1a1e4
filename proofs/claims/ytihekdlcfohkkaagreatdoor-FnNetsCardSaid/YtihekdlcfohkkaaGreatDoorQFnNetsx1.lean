-- printed by this session's own program (wip/tools/pp.py: the kit's print.py with changes); Lean checks it
import Derived.Test.YtihekdlcfohkkaaGreatDoorQFnNetsx0
namespace Go.Proofs.YtihekdlcfohkkaaGreatDoor.QFnNets
open Go.RowKit Go.Proofs.YtihekdlcfohkkaaGreatDoorW.PrintWords Go.Proofs.YtihekdlcfohkkaaGreatDoorW.PrintLast Go.Proofs.YtihekdlcfohkkaaGreatDoorW.PrintMore
attribute [local go_sem] max2_int min2_int max_two min_two max_three min_three max_four min_four strLss strGtr strLeq strGeq
set_option linter.unusedVariables false
set_option linter.unusedSimpArgs false
set_option maxHeartbeats 16000000
set_option maxRecDepth 100000
def bE.f (a0:Int) (a1:Int) (a2:Int):Option (Bool):=if a0≥a1 then (some (decide (a0≤a2))) else (some false)
theorem bE.calls (a0:Int) (a1:Int) (a2:Int) (r:Bool) (w:World) (h:bE.f a0 a1 a2=some r):
  Calls Tryz.prog 79 #[.int .i64 a0,.int .i64 a1,.int .i64 a2] w fun e w'=>e= .returned (.bool r)∧cQ w w':=by
 have H:(if a0≥a1 then (some (decide (a0≤a2))) else (some false))=some r:=h
 clear h
 by_cases c4:a0≥a1
 ·rw [if_pos c4] at H
  have jn:=geT c4
  clear c4
  obtain rfl:=Option.some.inj H
  go_enter Tryz.func79,Tryz.ntmps79
  go_wp2
  go_ret
  exact ⟨er,gV⟩
 ·rw [if_neg c4] at H
  have jn:=geF c4
  clear c4
  obtain rfl:=Option.some.inj H
  go_enter Tryz.func79,Tryz.ntmps79
  go_wp2
  go_ret
  exact ⟨er,gV⟩
def cm.l0:Nat→Int→Int→List Int→Int→Int→Option (Bool)
  |0,_,_,_,_,_=>none
  |k+1,x1,x2,x9,iO,qE=>if qE<iO then (if 0≤qE then (if qE<(x9.length:Int) then ((bE.f (rd x9 qE) x1 x2).bind fun t102=>(if t102=true then (cm.l0 k x1 x2 x9 iO (wrap64 (qE+1))) else (some false))) else (none)) else (none)) else (some true)
def cm.f (k:Nat) (l0:List Int) (a1:Int) (a2:Int):Option (Bool):=cm.l0 k a1 a2 l0 (l0.length:Int) 0
theorem cm.calls (k:Nat) (A0:Option Addr) (c0:Nat) (l0:List Int) (a1:Int) (a2:Int) (r:Bool) (w:World) (ff:Kd.C (Kd.int .i64) w A0 l0.length l0) (fL:l0.length≤c0) (h:cm.f k l0 a1 a2=some r):
  Calls Tryz.prog 81 #[.slice A0 l0.length c0,.int .i64 a1,.int .i64 a2] w fun e w'=>e= .returned (.bool r)∧cQ w w':=by
 have fZ:=ak ff;have ki:=ak fL;clear ff fL
 have H:(cm.l0 k a1 a2 l0 (l0.length:Int) 0)=some r:=h
 clear h
 have H':=ak H
 clear H
 go_enter Tryz.func81,Tryz.ntmps81
 go_wp2
 go_loopg [11] k (fun kq v11 w'=>∃(fW:Int),v11= .int .i64 fW∧Aside0 (cm.l0 kq a1 a2 l0 (l0.length:Int) fW=some r)∧Aside0 (kq≤k)∧cQ w w')
 case atStart=>exact ⟨(0),er,H',⟨Nat.le_refl _⟩,gV⟩
 case round=>
  clear H'
  obtain ⟨fW,rfl,HA,gf,⟨m1,rfl⟩⟩:=hrel
  cases gk with
  |zero=>exact absurd HA.out (by simp [cm.l0])
  |succ k1=>
   have H:=HA.out;clear HA
   simp only [cm.l0] at H
   by_cases c4:fW<(l0.length:Int)
   ·rw [if_pos c4] at H
    have jn:=decide_eq_true c4
    clear c4;replace H:=dy H;obtain ⟨c5,H⟩:=H;have mh:=decide_eq_true c5;clear c5;replace H:=dy H;obtain ⟨c6,H⟩:=H;have kO:=decide_eq_true c6;clear c6;replace H:=bS H;obtain ⟨t102,A7,H⟩:=H
    by_cases c8:t102=true
    ·subst c8
     have H1:(cm.l0 k1 a1 a2 l0 (l0.length:Int) (wrap64 (fW+1)))=some r:=by rw [if_pos rfl] at H;exact H
     clear H
     have H:=H1
     clear H1
     have H':=ak H
     clear H
     obtain ⟨afV,afF,ac0,XX,RS⟩:=ng (Kd.jS fZ.out fW)
     cases XX
     go_wp2_with (first|(go_at_call 79;(with_reducible refine (bE.calls (rd l0 fW) a1 a2 true _ A7.out).mono ?_);rintro e w' ⟨rfl,⟨nd,rfl⟩⟩))
     go_roundg k1
     case measure=>have:=gf.out;omega
     case rel=>exact ⟨(wrap64 (fW+1)),er,H',⟨by have:=gf.out;omega⟩,gV⟩
    ·replace c8:=Bool.eq_false_iff.mpr c8
     subst c8
     have H1:(some false)=some r:=by rw [if_neg (show¬(false=true) by decide)] at H;exact H
     clear H
     have H:=H1
     clear H1
     obtain rfl:=Option.some.inj H
     obtain ⟨afV,afF,ac0,XX,RS⟩:=ng (Kd.jS fZ.out fW)
     cases XX
     go_wp2_with (first|(go_at_call 79;(with_reducible refine (bE.calls (rd l0 fW) a1 a2 false _ A7.out).mono ?_);rintro e w' ⟨rfl,⟨nd,rfl⟩⟩))
     go_ret
     exact ⟨er,gV⟩
   ·rw [if_neg c4] at H
    have jn:=decide_eq_false c4
    clear c4
    obtain rfl:=Option.some.inj H
    go_wp2
    go_ret
    exact ⟨er,gV⟩
def cR.l0:Nat→List ByteArray→List ByteArray→Int→Int→Option (Bool)
  |0,_,_,_,_=>none
  |k+1,x0,x5,x6,x7=>if x7<x6 then (if 0≤x7 then (if x7<(x5.length:Int) then (if ((aQ ByteArray.empty x5 x7).size:Int)=24 then (if x7>0 then (if 0≤(wrap64 (x7-1)) then (if (wrap64 (x7-1))<(x0.length:Int) then (if ((Op.bytesLess ((aQ ByteArray.empty x0 (wrap64 (x7-1))).toList) ((aQ ByteArray.empty x5 x7).toList))=true) then (cR.l0 k x0 x5 x6 (wrap64 (x7+1))) else (some false)) else (none)) else (none)) else (cR.l0 k x0 x5 x6 (wrap64 (x7+1)))) else (some false)) else (none)) else (none)) else (some (decide ((x0.length:Int)≤100)))
def cR.f (k:Nat) (l0:List ByteArray):Option (Bool):=cR.l0 k l0 l0 (l0.length:Int) 0
theorem cR.calls (k:Nat) (A0:Option Addr) (c0:Nat) (l0:List ByteArray) (r:Bool) (w:World) (ff:Kd.C Kd.string w A0 l0.length l0) (fL:l0.length≤c0) (h:cR.f k l0=some r):
  Calls Tryz.prog 82 #[.slice A0 l0.length c0] w fun e w'=>e= .returned (.bool r)∧cQ w w':=by
 have fZ:=ak ff;have ki:=ak fL;clear ff fL
 have H:(cR.l0 k l0 l0 (l0.length:Int) 0)=some r:=h
 clear h
 have H':=ak H
 clear H
 go_enter Tryz.func82,Tryz.ntmps82
 go_wp2
 go_loopg [7] k (fun kq v7 w'=>∃(dD:Int),v7= .int .i64 dD∧Aside0 (cR.l0 kq l0 l0 (l0.length:Int) dD=some r)∧Aside0 (kq≤k)∧cQ w w')
 case atStart=>exact ⟨(0),er,H',⟨Nat.le_refl _⟩,gV⟩
 case round=>
  clear H'
  obtain ⟨dD,rfl,HA,gf,⟨m1,rfl⟩⟩:=hrel
  cases gk with
  |zero=>exact absurd HA.out (by simp [cR.l0])
  |succ k1=>
   have H:=HA.out;clear HA
   simp only [cR.l0] at H
   by_cases c2:dD<(l0.length:Int)
   ·rw [if_pos c2] at H
    have o5:=decide_eq_true c2
    clear c2;replace H:=dy H;obtain ⟨c3,H⟩:=H;have jX:=decide_eq_true c3;clear c3;replace H:=dy H;obtain ⟨c4,H⟩:=H;have jn:=decide_eq_true c4;clear c4
    by_cases c5:((aQ ByteArray.empty l0 dD).size:Int)=24
    ·rw [if_pos c5] at H
     have mh:=lO c5
     have OS:=mR c5
     clear c5
     by_cases c6:dD>0
     ·rw [if_pos c6] at H
      have kO:=Ma c6
      clear c6
      obtain ⟨nJ,vM⟩:∃j_:Int,(wrap64 (dD-1))=j_:=⟨_,rfl⟩
      replace H:(if 0≤(nJ) then (if (nJ)<(l0.length:Int) then (if ((Op.bytesLess ((aQ ByteArray.empty l0 (nJ)).toList) ((aQ ByteArray.empty l0 dD).toList))=true) then (cR.l0 k1 l0 l0 (l0.length:Int) (wrap64 (dD+1))) else (some false)) else (none)) else (none))=some r:=by first|(rw [vM] at H;exact H)|(simp only [vM] at H⊢;exact H)
      have TI:(IntKind.i64.wrap (dD-1))=nJ:=(bW _).trans vM
      replace H:=dy H;obtain ⟨c8,H⟩:=H;have xw:=decide_eq_true c8;clear c8;replace H:=dy H;obtain ⟨c9,H⟩:=H;have mg:=decide_eq_true c9;clear c9
      by_cases gW:((Op.bytesLess ((aQ ByteArray.empty l0 (nJ)).toList) ((aQ ByteArray.empty l0 dD).toList))=true)
      ·rw [if_pos gW] at H
       have kY:(Op.bytesLess ((aQ ByteArray.empty l0 (nJ)).toList) ((aQ ByteArray.empty l0 dD).toList))=true:=gW
       clear gW
       have H':=ak H
       clear H
       obtain ⟨Cw,Cq,Fz,HJ,C1⟩:=ng (Kd.bq fZ.out dD)
       cases HJ
       have GK:0≤((nJ):Int):=da
       have Gs:(nJ)<(l0.length:Int):=da
       obtain ⟨Po,XW,RR⟩:=Kd.bq fZ.out (nJ) GK Gs
       obtain rfl:Fz=Po:=(by injection XW)
       replace GK:=eq_true GK;replace Gs:=eq_true Gs;go_wp2
       go_roundg k1
       case measure=>have:=gf.out;omega
       case rel=>exact ⟨(wrap64 (dD+1)),er,H',⟨by have:=gf.out;omega⟩,gV⟩
      ·rw [if_neg gW] at H
       have kY:(Op.bytesLess ((aQ ByteArray.empty l0 (nJ)).toList) ((aQ ByteArray.empty l0 dD).toList))=false:=by simpa using gW
       clear gW
       obtain rfl:=Option.some.inj H
       obtain ⟨Cw,Cq,Fz,HJ,C1⟩:=ng (Kd.bq fZ.out dD)
       cases HJ
       have GK:0≤((nJ):Int):=da
       have Gs:(nJ)<(l0.length:Int):=da
       obtain ⟨Po,XW,RR⟩:=Kd.bq fZ.out (nJ) GK Gs
       obtain rfl:Fz=Po:=(by injection XW)
       replace GK:=eq_true GK;replace Gs:=eq_true Gs;go_wp2
       go_ret
       exact ⟨by first|rfl|(simp;done)|(simp only [←vM]<;>(first|rfl|simp))|(simp [*];done),gV⟩
     ·rw [if_neg c6] at H
      have kO:=Mb c6
      clear c6
      have H':=ak H
      clear H
      have Cw:0≤(dD:Int):=da
      have Cq:dD<(l0.length:Int):=da
      obtain ⟨Fz,HJ,C1⟩:=Kd.bq fZ.out dD Cw Cq
      cases HJ
      replace Cw:=eq_true Cw;replace Cq:=eq_true Cq;go_wp2
      go_roundg k1
      case measure=>have:=gf.out;omega
      case rel=>exact ⟨(wrap64 (dD+1)),er,H',⟨by have:=gf.out;omega⟩,gV⟩
    ·rw [if_neg c5] at H
     have mh:=lq c5
     have OS:=mj c5
     obtain rfl:=Option.some.inj H
     have Cw:0≤(dD:Int):=da
     have Cq:dD<(l0.length:Int):=da
     obtain ⟨Fz,HJ,C1⟩:=Kd.bq fZ.out dD Cw Cq
     cases HJ
     replace Cw:=eq_true Cw;replace Cq:=eq_true Cq;go_wp2
     go_ret
     exact ⟨er,gV⟩
   ·rw [if_neg c2] at H
    have o5:=decide_eq_false c2
    clear c2
    obtain rfl:=Option.some.inj H
    go_wp2
    go_ret
    exact ⟨er,gV⟩
def eH.l0:Nat→ByteArray→List ByteArray→Int→Int→Option (Bool)
  |0,_,_,_,_=>none
  |k+1,x1,x7,x8,x9=>if x9<x8 then (if 0≤x9 then (if x9<(x7.length:Int) then (if (aQ ByteArray.empty x7 x9).toList=x1.toList then (some true) else (eH.l0 k x1 x7 x8 (wrap64 (x9+1)))) else (none)) else (none)) else (some false)
def eH.f (k:Nat) (l0:List ByteArray) (a1:ByteArray):Option (Bool):=eH.l0 k a1 l0 (l0.length:Int) 0
theorem eH.calls (k:Nat) (A0:Option Addr) (c0:Nat) (l0:List ByteArray) (a1:ByteArray) (r:Bool) (w:World) (ff:Kd.C Kd.string w A0 l0.length l0) (fL:l0.length≤c0) (h:eH.f k l0 a1=some r):
  Calls Tryz.prog 83 #[.slice A0 l0.length c0,.string a1] w fun e w'=>e= .returned (.bool r)∧cQ w w':=by
 have fZ:=ak ff;have ki:=ak fL;clear ff fL
 have H:(eH.l0 k a1 l0 (l0.length:Int) 0)=some r:=h
 clear h
 have H':=ak H
 clear H
 go_enter Tryz.func83,Tryz.ntmps83
 go_wp2
 go_loopg [9] k (fun kq v9 w'=>∃(hU:Int),v9= .int .i64 hU∧Aside0 (eH.l0 kq a1 l0 (l0.length:Int) hU=some r)∧Aside0 (kq≤k)∧cQ w w')
 case atStart=>exact ⟨(0),er,H',⟨Nat.le_refl _⟩,gV⟩
 case round=>
  clear H'
  obtain ⟨hU,rfl,HA,gf,⟨m1,rfl⟩⟩:=hrel
  cases gk with
  |zero=>exact absurd HA.out (by simp [eH.l0])
  |succ k1=>
   have H:=HA.out;clear HA
   simp only [eH.l0] at H
   by_cases c3:hU<(l0.length:Int)
   ·rw [if_pos c3] at H
    have jX:=decide_eq_true c3
    clear c3;replace H:=dy H;obtain ⟨c4,H⟩:=H;have jn:=decide_eq_true c4;clear c4;replace H:=dy H;obtain ⟨c5,H⟩:=H;have mh:=decide_eq_true c5;clear c5
    by_cases c6:(aQ ByteArray.empty l0 hU).toList=a1.toList
    ·rw [if_pos c6] at H
     have kO:=lO c6
     have vS:=mR c6
     clear c6
     obtain rfl:=Option.some.inj H
     have GH:0≤(hU:Int):=da
     have Gr:hU<(l0.length:Int):=da
     obtain ⟨acZ,XV,RQ⟩:=Kd.bq fZ.out hU GH Gr
     cases XV
     replace GH:=eq_true GH;replace Gr:=eq_true Gr;go_wp2
     go_ret
     exact ⟨er,gV⟩
    ·rw [if_neg c6] at H
     have kO:=lq c6
     have vS:=mj c6
     have H':=ak H
     clear H
     have GH:0≤(hU:Int):=da
     have Gr:hU<(l0.length:Int):=da
     obtain ⟨acZ,XV,RQ⟩:=Kd.bq fZ.out hU GH Gr
     cases XV
     replace GH:=eq_true GH;replace Gr:=eq_true Gr;go_wp2
     go_roundg k1
     case measure=>have:=gf.out;omega
     case rel=>exact ⟨(wrap64 (hU+1)),er,H',⟨by have:=gf.out;omega⟩,gV⟩
   ·rw [if_neg c3] at H
    have jX:=decide_eq_false c3
    clear c3
    obtain rfl:=Option.some.inj H
    go_wp2
    go_ret
    exact ⟨er,gV⟩
mutual
def aj.j0:Nat→Bool→List Int→List (List ByteArray)→List (List ByteArray)→List (List ByteArray)→Int→Option (Bool)
  |0,_,_,_,_,_,_=>none
  |k+1,Kb,nq,lS,kM,lR,nk=>if Kb=true then (some false) else (aj.l0 k lS (lS.length:Int) 0 nq lS kM lR nk)
def aj.l0:Nat→List (List ByteArray)→Int→Int→List Int→List (List ByteArray)→List (List ByteArray)→List (List ByteArray)→Int→Option (Bool)
  |0,_,_,_,_,_,_,_,_=>none
  |k+1,tJ,Te,Ea,nq,lS,kM,lR,nk=>if Ea<Te then (if 0≤Ea then (if Ea<(tJ.length:Int) then ((cR.f k (aN tJ Ea)).bind fun t111=>(if t111=true then (if Ea<(kM.length:Int) then ((cR.f k (aN kM Ea)).bind fun t113=>(aj.j2 k Ea (aN tJ Ea) tJ Te Ea (!t113) nq lS kM lR nk)) else (none)) else (aj.j2 k Ea (aN tJ Ea) tJ Te Ea true nq lS kM lR nk))) else (none)) else (none)) else (aj.l2 k lR (lR.length:Int) 0)
def aj.j2:Nat→Int→List ByteArray→List (List ByteArray)→Int→Int→Bool→List Int→List (List ByteArray)→List (List ByteArray)→List (List ByteArray)→Int→Option (Bool)
  |0,_,_,_,_,_,_,_,_,_,_,_=>none
  |k+1,x4,x5,tJ,Te,Ea,x69,nq,lS,kM,lR,nk=>if x69=true then (some false) else (aj.l1 k x4 tJ Te Ea x5 (x5.length:Int) 0 nq lS kM lR nk)
def aj.l1:Nat→Int→List (List ByteArray)→Int→Int→List ByteArray→Int→Int→List Int→List (List ByteArray)→List (List ByteArray)→List (List ByteArray)→Int→Option (Bool)
  |0,_,_,_,_,_,_,_,_,_,_,_,_=>none
  |k+1,x4,tJ,Te,Ea,Qt,x71,x72,nq,lS,kM,lR,nk=>if x72<x71 then (if 0≤x72 then (if x72<(Qt.length:Int) then (if 0≤x4 then (if x4<(kM.length:Int) then ((eH.f k (aN kM x4) (aQ ByteArray.empty Qt x72)).bind fun t116=>(if t116=true then (aj.l1 k x4 tJ Te Ea Qt x71 (wrap64 (x72+1)) nq lS kM lR nk) else (some false))) else (none)) else (none)) else (none)) else (none)) else (aj.l0 k tJ Te (wrap64 (Ea+1)) nq lS kM lR nk)
def aj.l2:Nat→List (List ByteArray)→Int→Int→Option (Bool)
  |0,_,_,_=>none
  |k+1,FT,Z9,Qo=>if Qo<Z9 then (if 0≤Qo then (if Qo<(FT.length:Int) then (aj.l3 k (aN FT Qo) FT Z9 Qo (aN FT Qo) ((aN FT Qo).length:Int) 0) else (none)) else (none)) else (some true)
def aj.l3:Nat→List ByteArray→List (List ByteArray)→Int→Int→List ByteArray→Int→Int→Option (Bool)
  |0,_,_,_,_,_,_,_=>none
  |k+1,x9,FT,Z9,Qo,x93,x94,Z8=>if Z8<x94 then (if 0≤Z8 then (if Z8<(x93.length:Int) then ((bE.f ((aQ ByteArray.empty x93 Z8).size:Int) 1 15).bind fun t119=>(if t119=true then (aj.l3 k x9 FT Z9 Qo x93 x94 (wrap64 (Z8+1))) else (some false))) else (none)) else (none)) else (if (x9.length:Int)>60 then (some false) else (aj.l2 k FT Z9 (wrap64 (Qo+1))))
end
def aj.f (k:Nat) (bn:List Int) (aU:List (List ByteArray)) (bu:List (List ByteArray)) (aM:List (List ByteArray)) (bR:Int):Option (Bool):=(bE.f (bn.length:Int) 1 4).bind fun t107=>(if t107=true then ((cm.f k bn 0 65535).bind fun t108=>(if t108=true then (if (aU.length:Int)=(bn.length:Int) then (if (bu.length:Int)=(bn.length:Int) then (if (aM.length:Int)=4 then ((bE.f bR 0 60).bind fun t109=>(aj.j0 k (!t109) bn aU bu aM bR)) else (aj.j0 k true bn aU bu aM bR)) else (aj.j0 k true bn aU bu aM bR)) else (aj.j0 k true bn aU bu aM bR)) else (aj.j0 k true bn aU bu aM bR))) else (aj.j0 k true bn aU bu aM bR))
theorem aj.calls (k:Nat) (fV:Option Addr) (fT:Nat) (bn:List Int) (gv:Option Addr) (fS:Nat) (aU:List (List ByteArray)) (fU:Option Addr) (fR:Nat) (bu:List (List ByteArray)) (gB:Option Addr) (fQ:Nat) (aM:List (List ByteArray)) (bR:Int) (r:Bool) (w:World) (jE:Kd.C (Kd.int .i64) w fV bn.length bn) (jI:bn.length≤fT) (jD:Kd.C (Kd.slice 9 Kd.string) w gv aU.length aU) (jH:aU.length≤fS) (jC:Kd.C (Kd.slice 9 Kd.string) w fU bu.length bu) (jG:bu.length≤fR) (jB:Kd.C (Kd.slice 9 Kd.string) w gB aM.length aM) (jF:aM.length≤fQ) (h:aj.f k bn aU bu aM bR=some r):
  Calls Tryz.prog 42 #[.agg #[.slice fV bn.length fT,.slice gv aU.length fS,.slice fU bu.length fR,.slice gB aM.length fQ,.int .i64 bR]] w fun e w'=>e= .returned (.bool r)∧Below w.heap.size w w':=by
 have lg:=Tryz.underlying27
 have gE:=ak jE;have gF:=ak jI;clear jE jI;have iM:=ak jD;have jx:=ak jH;clear jD jH;have iy:=ak jC;have jK:=ak jG;clear jC jG;have iL:=ak jB;have jY:=ak jF;clear jB jF
 have HB:=ak (Below.refl w.heap.size w)
 have H:((bE.f (bn.length:Int) 1 4).bind fun t107=>(if t107=true then ((cm.f k bn 0 65535).bind fun t108=>(if t108=true then (if (aU.length:Int)=(bn.length:Int) then (if (bu.length:Int)=(bn.length:Int) then (if (aM.length:Int)=4 then ((bE.f bR 0 60).bind fun t109=>(aj.j0 k (!t109) bn aU bu aM bR)) else (aj.j0 k true bn aU bu aM bR)) else (aj.j0 k true bn aU bu aM bR)) else (aj.j0 k true bn aU bu aM bR)) else (aj.j0 k true bn aU bu aM bR))) else (aj.j0 k true bn aU bu aM bR)))=some r:=h
 clear h;have YQ:=ak H;clear H
 go_enter Tryz.func42,Tryz.ntmps42
 go_upto_region 2 with (first|((with_reducible refine av (N:=1) rfl ?_);(try (refine zk (by rfl) ?_;dsimp only));refine bN 1 #[.slice fV bn.length fT,.slice gv aU.length fS,.slice fU bu.length fR,.slice gB aM.length fQ,.int .i64 bR] 27 ?_;intro BC hg w3 eI hb;have ij:=ak (eI);have aiZ:=ak (mX hg (aq HB));have jk:=ak (mX hg (aq HB));replace HB:=ak (aH (aq HB) hb);clear hb eI hg;obtain ⟨Hs,Hr,Hq,Ho,Hl,Hg,Hf,He,G9,G8⟩:=an ij))
 (try simp only [Act.put,List.setIfInBounds_toArray,List.set_cons_zero,List.set_cons_succ])
 go_cut [49] (fun v49 wc=>∃(kq:Nat) (Iv:Bool),v49= .bool Iv∧Aside0 (aj.j0 kq Iv bn aU bu aM bR=some r)∧Aside0 (kq≤k)∧Aside0 (wc.heap[BC]? =some (.cells #[(.slice fV bn.length fT),(.slice gv aU.length fS),(.slice fU bu.length fR),(.slice gB aM.length fQ),.int .i64 bR] 27 (0,0)))∧Aside0 (Below w.heap.size w wc))
 case first=>
  have H:=YQ.out;clear YQ;replace H:=bS H;obtain ⟨t107,A5,H⟩:=H
  by_cases c6:t107=true
  ·subst c6
   have H1:((cm.f k bn 0 65535).bind fun t108=>(if t108=true then (if (aU.length:Int)=(bn.length:Int) then (if (bu.length:Int)=(bn.length:Int) then (if (aM.length:Int)=4 then ((bE.f bR 0 60).bind fun t109=>(aj.j0 k (!t109) bn aU bu aM bR)) else (aj.j0 k true bn aU bu aM bR)) else (aj.j0 k true bn aU bu aM bR)) else (aj.j0 k true bn aU bu aM bR)) else (aj.j0 k true bn aU bu aM bR)))=some r:=by rw [if_pos rfl] at H;exact H
   clear H
   have H:=H1
   clear H1;replace H:=bS H;obtain ⟨t108,A7,H⟩:=H
   by_cases c8:t108=true
   ·subst c8
    have H1:(if (aU.length:Int)=(bn.length:Int) then (if (bu.length:Int)=(bn.length:Int) then (if (aM.length:Int)=4 then ((bE.f bR 0 60).bind fun t109=>(aj.j0 k (!t109) bn aU bu aM bR)) else (aj.j0 k true bn aU bu aM bR)) else (aj.j0 k true bn aU bu aM bR)) else (aj.j0 k true bn aU bu aM bR))=some r:=by rw [if_pos rfl] at H;exact H
    clear H
    have H:=H1
    clear H1
    by_cases c9:(aU.length:Int)=(bn.length:Int)
    ·rw [if_pos c9] at H
     have mg:=lO c9
     have HY:=mR c9
     have OR:(aU.length==bn.length)=true:=by first|simpa using c9|(simp at c9⊢;omega)
     clear c9
     (first|rw [mg]|(simp only [bW,cA];rw [mg])|skip)
     by_cases gW:(bu.length:Int)=(bn.length:Int)
     ·rw [if_pos gW] at H
      have kY:=lO gW
      have JN:=mR gW
      have O1:(bu.length==bn.length)=true:=by first|simpa using gW|(simp at gW⊢;omega)
      clear gW
      by_cases mY:(aM.length:Int)=4
      ·rw [if_pos mY] at H
       have nM:=lO mY
       have JM:=mR mY
       clear mY;replace H:=bS H;obtain ⟨t109,L5,H⟩:=H
       have H':=ak H
       clear H
       go_wp2_with (first|((with_reducible refine eW (f:=79) rfl ?_);refine l7 (some 16) rfl Tryz.func79 #[.int .i64 (bn.length:Int),.int .i64 1,.int .i64 4] rfl ?_;(with_reducible refine (bE.calls (bn.length:Int) 1 4 true _ A5.out).mono ?_);rintro e w' ⟨rfl,⟨nd,rfl⟩⟩;refine ⟨_,rfl,?_⟩;have aeM:=an ij)|(go_at_call 81;(with_reducible refine (cm.calls k _ _ bn 0 65535 true _ ?side1 ?side2 A7.out).mono ?_);(case side1=>exact cd (Kd.aD gE.out (az HB jk)));(case side2=>exact gF.out);rintro e w' ⟨rfl,⟨nd,rfl⟩⟩)|(go_at_call 79;(with_reducible refine (bE.calls bR 0 60 t109 _ L5.out).mono ?_);rintro e w' ⟨rfl,⟨nd,rfl⟩⟩))
       go_meet
       case rel=>exact ⟨_,(!t109),er,H',⟨by first|omega|exact Nat.le_refl _⟩,⟨dm ij⟩,⟨az HB jk⟩⟩
      ·rw [if_neg mY] at H
       have nM:=lq mY
       have JM:=mj mY
       have H':=ak H
       clear H
       go_wp2_with (first|(go_at_call 79;(with_reducible refine (bE.calls (bn.length:Int) 1 4 true _ A5.out).mono ?_);rintro e w' ⟨rfl,⟨nd,rfl⟩⟩;have Vg:=an ij)|(go_at_call 81;(with_reducible refine (cm.calls k _ _ bn 0 65535 true _ ?side1 ?side2 A7.out).mono ?_);(case side1=>exact cd (Kd.aD gE.out (az HB jk)));(case side2=>exact gF.out);rintro e w' ⟨rfl,⟨nd,rfl⟩⟩))
       go_meet
       case rel=>exact ⟨_,(true),er,H',⟨by first|omega|exact Nat.le_refl _⟩,⟨dm ij⟩,⟨az HB jk⟩⟩
     ·rw [if_neg gW] at H
      have kY:=lq gW
      have JN:=mj gW
      have O1:(bu.length==bn.length)=false:=by first|simpa using gW|(simp at gW⊢;omega)
      have H':=ak H
      clear H
      go_wp2_with (first|(go_at_call 79;(with_reducible refine (bE.calls (bn.length:Int) 1 4 true _ A5.out).mono ?_);rintro e w' ⟨rfl,⟨nd,rfl⟩⟩;have aab:=an ij)|(go_at_call 81;(with_reducible refine (cm.calls k _ _ bn 0 65535 true _ ?side1 ?side2 A7.out).mono ?_);(case side1=>exact cd (Kd.aD gE.out (az HB jk)));(case side2=>exact gF.out);rintro e w' ⟨rfl,⟨nd,rfl⟩⟩))
      go_meet
      case rel=>exact ⟨_,(true),er,H',⟨by first|omega|exact Nat.le_refl _⟩,⟨dm ij⟩,⟨az HB jk⟩⟩
    ·rw [if_neg c9] at H
     have mg:=lq c9
     have HY:=mj c9
     have OR:(aU.length==bn.length)=false:=by first|simpa using c9|(simp at c9⊢;omega)
     (first|rw [mg]|(simp only [bW,cA];rw [mg])|skip)
     have H':=ak H
     clear H
     go_wp2_with (first|(go_at_call 79;(with_reducible refine (bE.calls (bn.length:Int) 1 4 true _ A5.out).mono ?_);rintro e w' ⟨rfl,⟨nd,rfl⟩⟩;have aeL:=an ij)|(go_at_call 81;(with_reducible refine (cm.calls k _ _ bn 0 65535 true _ ?side1 ?side2 A7.out).mono ?_);(case side1=>exact cd (Kd.aD gE.out (az HB jk)));(case side2=>exact gF.out);rintro e w' ⟨rfl,⟨nd,rfl⟩⟩))
     go_meet
     case rel=>exact ⟨_,(true),er,H',⟨by first|omega|exact Nat.le_refl _⟩,⟨dm ij⟩,⟨az HB jk⟩⟩
   ·replace c8:=Bool.eq_false_iff.mpr c8
    subst c8
    have H1:(aj.j0 k true bn aU bu aM bR)=some r:=by rw [if_neg (show¬(false=true) by decide)] at H;exact H
    clear H
    have H:=H1
    clear H1
    have H':=ak H
    clear H
    go_wp2_with (first|(go_at_call 79;(with_reducible refine (bE.calls (bn.length:Int) 1 4 true _ A5.out).mono ?_);rintro e w' ⟨rfl,⟨nd,rfl⟩⟩;have nX:=an ij)|(go_at_call 81;(with_reducible refine (cm.calls k _ _ bn 0 65535 false _ ?side1 ?side2 A7.out).mono ?_);(case side1=>exact cd (Kd.aD gE.out (az HB jk)));(case side2=>exact gF.out);rintro e w' ⟨rfl,⟨nd,rfl⟩⟩))
    go_meet
    case rel=>exact ⟨_,(true),er,H',⟨by first|omega|exact Nat.le_refl _⟩,⟨dm ij⟩,⟨az HB jk⟩⟩
  ·replace c6:=Bool.eq_false_iff.mpr c6
   subst c6
   have H1:(aj.j0 k true bn aU bu aM bR)=some r:=by rw [if_neg (show¬(false=true) by decide)] at H;exact H
   clear H
   have H:=H1
   clear H1
   have H':=ak H
   clear H
   go_wp2_with (first|(go_at_call 79;(with_reducible refine (bE.calls (bn.length:Int) 1 4 false _ A5.out).mono ?_);rintro e w' ⟨rfl,⟨nd,rfl⟩⟩))
   go_meet
   case rel=>exact ⟨_,(true),er,H',⟨by first|omega|exact Nat.le_refl _⟩,⟨dm ij⟩,⟨az HB jk⟩⟩
 case rest=>
  clear YQ;(try clear Hs);(try clear Hr);(try clear Hq);(try clear Ho);(try clear Hl);(try clear Hg);(try clear Hf);(try clear He);(try clear G9);(try clear G8)
  obtain ⟨kq,Iv,rfl,HA,DV,ij,HB⟩:=hcut
  cases kq with
  |zero=>exact absurd HA.out (by simp [aj.j0])
  |succ Wf=>
   have H:=HA.out;clear HA
   simp only [aj.j0] at H
   by_cases Fk:Iv=true
   ·subst Fk
    have H1:(some false)=some r:=by rw [if_pos rfl] at H;exact H
    clear H
    have H:=H1
    clear H1
    obtain rfl:=Option.some.inj H
    go_wp2
    go_ret
    exact ⟨kK,az HB jk⟩
   ·replace Fk:=Bool.eq_false_iff.mpr Fk
    subst Fk
    have H1:(aj.l0 Wf aU (aU.length:Int) 0 bn aU bu aM bR)=some r:=by rw [if_neg (show¬(false=true) by decide)] at H;exact H
    clear H
    have H:=H1
    clear H1
    have H':=ak H
    clear H;obtain ⟨Dw,Dv,Du,Dt,Ds,Dg,Df,De,Dd,Dc⟩:=an ij;go_wp2
    go_loopg [53] Wf (fun kq v53 w'=>∃(e9:Int),v53= .int .i64 e9∧Aside0 (aj.l0 kq aU (aU.length:Int) e9 bn aU bu aM bR=some r)∧Aside0 (kq≤Wf)∧Aside0 (w'.heap[BC]? =some (.cells #[(.slice fV bn.length fT),(.slice gv aU.length fS),(.slice fU bu.length fR),(.slice gB aM.length fQ),.int .i64 bR] 27 (0,0)))∧Aside0 (Below w.heap.size w w'))
    case atStart=>exact ⟨(0),er,H',⟨Nat.le_refl _⟩,⟨dm ij⟩,⟨az HB jk⟩⟩
    case round=>
     clear H'
     (try clear Fk);(try clear Dw);(try clear Dv);(try clear Du);(try clear Dt);(try clear Ds);(try clear Dg);(try clear Df);(try clear De);(try clear Dd);(try clear Dc)
     obtain ⟨e9,rfl,HA,kg,ij,HB⟩:=hrel
     cases gk with
     |zero=>exact absurd HA.out (by simp [aj.l0])
     |succ k2=>
      have H:=HA.out;clear HA
      simp only [aj.l0] at H
      by_cases BK:e9<(aU.length:Int)
      ·rw [if_pos BK] at H
       have uK:=decide_eq_true BK
       clear BK;replace H:=dy H;obtain ⟨H7,H⟩:=H;have BJ:=decide_eq_true H7;clear H7;replace H:=dy H;obtain ⟨DH,H⟩:=H;have sM:=decide_eq_true DH;clear DH;have Im:=ak H;clear H
       have Rk:0≤(e9:Int):=da
       have Ra:e9<(aU.length:Int):=da
       obtain ⟨Un,Zc,Yh,ahn,xO,Jk,Jy⟩:=ke iM.out e9 Rk Ra
       cases ahn
       replace xO:=(HB.out.cell (World.block_lt_of_cell? w _ xO)).trans xO
       have yb:=ak Jy;have J4:=ak Jk;clear Jy Jk;replace Rk:=eq_true Rk;replace Ra:=eq_true Ra
       go_upto_region 7 with (fail)
       go_cut [69] (fun v69 wc=>∃(kq:Nat) (Cb:Bool),v69= .bool Cb∧Aside0 (aj.j2 kq e9 (aN aU e9) aU (aU.length:Int) e9 Cb bn aU bu aM bR=some r)∧Aside0 (kq≤k2)∧Aside0 (wc.heap[BC]? =some (.cells #[(.slice fV bn.length fT),(.slice (some Un) aU.length fS),(.slice fU bu.length fR),(.slice gB aM.length fQ),.int .i64 bR] 27 (0,0)))∧Aside0 (Below w.heap.size w wc))
       case first=>
        have H:=Im.out;clear Im;replace H:=bS H;obtain ⟨t111,A24,H⟩:=H
        by_cases BI:t111=true
        ·subst BI
         have H1:(if e9<(bu.length:Int) then ((cR.f k2 (aN bu e9)).bind fun t113=>(aj.j2 k2 e9 (aN aU e9) aU (aU.length:Int) e9 (!t113) bn aU bu aM bR)) else (none))=some r:=by rw [if_pos rfl] at H;exact H
         clear H
         have H:=H1
         clear H1;replace H:=dy H;obtain ⟨OW,H⟩:=H;have BH:=decide_eq_true OW;clear OW
         (first|rw [BH]|(simp only [bW,cA];rw [BH])|skip)
         replace H:=bS H;obtain ⟨t113,A27,H⟩:=H
         have H':=ak H
         clear H
         go_wp2_with (first|((with_reducible refine eW (f:=82) rfl ?_);refine l7 (some 59) rfl Tryz.func82 #[.slice Zc (aN aU e9).length Yh] rfl ?_;(with_reducible refine (cR.calls k2 _ _ (aN aU e9) true _ ?side1 ?side2 A24.out).mono ?_);(case side1=>exact cd (Kd.aD yb.out HB.out));(case side2=>exact J4.out);rintro e w' ⟨rfl,⟨nd,rfl⟩⟩;refine ⟨_,rfl,?_⟩;have aeK:=an ij;have V3:0≤(e9:Int):=da;have VP:e9<(bu.length:Int):=da;obtain ⟨aiR,ah5,ahH,ahm,C0,Jj,Jx⟩:=ke iy.out e9 V3 VP;cases ahm;replace C0:=(HB.out.cell (World.block_lt_of_cell? w _ C0)).trans C0;have SQ:=ak Jx;have SX:=ak Jj;clear Jx Jj;replace V3:=eq_true V3;replace VP:=eq_true VP)|(go_at_call 82;(with_reducible refine (cR.calls k2 _ _ (aN bu e9) t113 _ ?side1 ?side2 A27.out).mono ?_);(case side1=>exact cd (Kd.aD SQ.out (az HB jk)));(case side2=>exact SX.out);rintro e w' ⟨rfl,⟨nd,rfl⟩⟩))
         go_meet
         case rel=>exact ⟨_,(!t113),er,H',⟨by have:=DV.out;have:=kg.out;first|omega|exact Nat.le_refl _⟩,⟨dm ij⟩,⟨az HB jk⟩⟩
        ·replace BI:=Bool.eq_false_iff.mpr BI
         subst BI
         have H1:(aj.j2 k2 e9 (aN aU e9) aU (aU.length:Int) e9 true bn aU bu aM bR)=some r:=by rw [if_neg (show¬(false=true) by decide)] at H;exact H
         clear H
         have H:=H1
         clear H1
         have H':=ak H
         clear H
         go_wp2_with (first|(go_at_call 82;(with_reducible refine (cR.calls k2 _ _ (aN aU e9) false _ ?side1 ?side2 A24.out).mono ?_);(case side1=>exact cd (Kd.aD yb.out HB.out));(case side2=>exact J4.out);rintro e w' ⟨rfl,⟨nd,rfl⟩⟩))
         go_meet
         case rel=>exact ⟨_,(true),er,H',⟨by have:=DV.out;have:=kg.out;first|omega|exact Nat.le_refl _⟩,⟨dm ij⟩,⟨az HB jk⟩⟩
       case rest=>
        clear Im;(try clear uK);(try clear BJ);(try clear sM);(try clear xO);(try clear Rk);(try clear Ra)
        obtain ⟨kq,Cb,rfl,HA,DU,ij,HB⟩:=hcut
        cases kq with
        |zero=>exact absurd HA.out (by simp [aj.j2])
        |succ GO=>
         have H:=HA.out;clear HA
         simp only [aj.j2] at H
         by_cases D5:Cb=true
         ·subst D5
          have H1:(some false)=some r:=by rw [if_pos rfl] at H;exact H
          clear H
          have H:=H1
          clear H1
          obtain rfl:=Option.some.inj H
          go_wp2
          go_ret
          exact ⟨kK,az HB jk⟩
         ·replace D5:=Bool.eq_false_iff.mpr D5
          subst D5
          have H1:(aj.l1 GO e9 aU (aU.length:Int) e9 (aN aU e9) ((aN aU e9).length:Int) 0 bn aU bu aM bR)=some r:=by rw [if_neg (show¬(false=true) by decide)] at H;exact H
          clear H
          have H:=H1
          clear H1
          have H':=ak H
          clear H;go_wp2
          go_loopg [72] GO (fun kq v72 w'=>∃(n7:Int),v72= .int .i64 n7∧Aside0 (aj.l1 kq e9 aU (aU.length:Int) e9 (aN aU e9) ((aN aU e9).length:Int) n7 bn aU bu aM bR=some r)∧Aside0 (kq≤GO)∧Aside0 (w'.heap[BC]? =some (.cells #[(.slice fV bn.length fT),(.slice (some Un) aU.length fS),(.slice fU bu.length fR),(.slice gB aM.length fQ),.int .i64 bR] 27 (0,0)))∧Aside0 (Below w.heap.size w w'))
          case atStart=>exact ⟨(0),er,H',⟨Nat.le_refl _⟩,⟨dm ij⟩,⟨az HB jk⟩⟩
          case round=>
           clear H'
           (try clear D5)
           obtain ⟨n7,rfl,HA,J1,ij,HB⟩:=hrel
           cases gk with
           |zero=>exact absurd HA.out (by simp [aj.l1])
           |succ k4=>
            have H:=HA.out;clear HA
            simp only [aj.l1] at H
            by_cases FN:n7<((aN aU e9).length:Int)
            ·rw [if_pos FN] at H
             have OV:=decide_eq_true FN
             clear FN;replace H:=dy H;obtain ⟨zv,H⟩:=H;have wN:=decide_eq_true zv;clear zv;replace H:=dy H;obtain ⟨HZ,H⟩:=H;have BG:=decide_eq_true HZ;clear HZ;replace H:=dy H;obtain ⟨OU,H⟩:=H;have Uf:=decide_eq_true OU;clear OU;replace H:=dy H;obtain ⟨Ue,H⟩:=H;have Ud:=decide_eq_true Ue;clear Ue;replace H:=bS H;obtain ⟨t116,A35,H⟩:=H
             by_cases Mf:t116=true
             ·subst Mf
              have H1:(aj.l1 k4 e9 aU (aU.length:Int) e9 (aN aU e9) ((aN aU e9).length:Int) (wrap64 (n7+1)) bn aU bu aM bR)=some r:=by rw [if_pos rfl] at H;exact H
              clear H
              have H:=H1
              clear H1
              have H':=ak H
              clear H
              have GG:0≤(n7:Int):=da
              have Gq:n7<((aN aU e9).length:Int):=da
              obtain ⟨acY,XU,pY⟩:=Kd.bq yb.out n7 GG Gq
              cases XU
              replace pY:=(HB.out.cell (World.block_lt_of_cell? w _ pY)).trans pY
              replace GG:=eq_true GG;replace Gq:=eq_true Gq;have aeI:=an ij
              have GF:0≤(e9:Int):=da
              have Gp:e9<(bu.length:Int):=da
              obtain ⟨acX,Zb,Yg,XT,pX,uu,uB⟩:=ke iy.out e9 GF Gp
              cases XT
              replace pX:=(HB.out.cell (World.block_lt_of_cell? w _ pX)).trans pX
              have DR:=ak uB;have DX:=ak uu;clear uB uu;replace GF:=eq_true GF;replace Gp:=eq_true Gp
              go_wp2_with (first|(go_at_call 83;(with_reducible refine (eH.calls k4 _ _ (aN bu e9) (aQ ByteArray.empty (aN aU e9) n7) true _ ?side1 ?side2 A35.out).mono ?_);(case side1=>exact cd (Kd.aD DR.out HB.out));(case side2=>exact DX.out);rintro e w' ⟨rfl,⟨nd,rfl⟩⟩))
              go_roundg k4
              case measure=>have:=DV.out;have:=kg.out;have:=DU.out;have:=J1.out;omega
              case rel=>exact ⟨(wrap64 (n7+1)),er,H',⟨by have:=DV.out;have:=kg.out;have:=DU.out;have:=J1.out;omega⟩,⟨dm ij⟩,⟨az HB jk⟩⟩
             ·replace Mf:=Bool.eq_false_iff.mpr Mf
              subst Mf
              have H1:(some false)=some r:=by rw [if_neg (show¬(false=true) by decide)] at H;exact H
              clear H
              have H:=H1
              clear H1
              obtain rfl:=Option.some.inj H
              have GG:0≤(n7:Int):=da
              have Gq:n7<((aN aU e9).length:Int):=da
              obtain ⟨acY,XU,pY⟩:=Kd.bq yb.out n7 GG Gq
              cases XU
              replace pY:=(HB.out.cell (World.block_lt_of_cell? w _ pY)).trans pY
              replace GG:=eq_true GG;replace Gq:=eq_true Gq;have aeH:=an ij
              have GF:0≤(e9:Int):=da
              have Gp:e9<(bu.length:Int):=da
              obtain ⟨acX,Zb,Yg,XT,pX,uu,uB⟩:=ke iy.out e9 GF Gp
              cases XT
              replace pX:=(HB.out.cell (World.block_lt_of_cell? w _ pX)).trans pX
              have DR:=ak uB;have DX:=ak uu;clear uB uu;replace GF:=eq_true GF;replace Gp:=eq_true Gp
              go_wp2_with (first|(go_at_call 83;(with_reducible refine (eH.calls k4 _ _ (aN bu e9) (aQ ByteArray.empty (aN aU e9) n7) false _ ?side1 ?side2 A35.out).mono ?_);(case side1=>exact cd (Kd.aD DR.out HB.out));(case side2=>exact DX.out);rintro e w' ⟨rfl,⟨nd,rfl⟩⟩))
              go_ret
              exact ⟨kK,az HB jk⟩
            ·rw [if_neg FN] at H
             have OV:=decide_eq_false FN
             clear FN
             have H':=ak H
             clear H;go_wp2
             go_roundg k4
             case measure=>have:=DV.out;have:=kg.out;have:=DU.out;have:=J1.out;omega
             case rel=>exact ⟨(wrap64 (e9+1)),er,H',⟨by have:=DV.out;have:=kg.out;have:=DU.out;have:=J1.out;omega⟩,⟨dm ij⟩,⟨az HB jk⟩⟩
      ·rw [if_neg BK] at H
       have uK:=decide_eq_false BK
       clear BK
       have H':=ak H
       clear H;obtain ⟨Dp,Dn,Dm,Dl,Dk,C9,C8,C7,C6,C5⟩:=an ij;go_wp2
       go_loopg [89] k2 (fun kq v89 w'=>∃(j5:Int),v89= .int .i64 j5∧Aside0 (aj.l2 kq aM (aM.length:Int) j5=some r)∧Aside0 (kq≤k2)∧Aside0 (w'.heap[BC]? =some (.cells #[(.slice fV bn.length fT),(.slice gv aU.length fS),(.slice fU bu.length fR),(.slice gB aM.length fQ),.int .i64 bR] 27 (0,0)))∧Aside0 (Below w.heap.size w w'))
       case atStart=>exact ⟨(0),er,H',⟨Nat.le_refl _⟩,⟨dm ij⟩,⟨az HB jk⟩⟩
       case round=>
        clear H'
        (try clear uK);(try clear Dp);(try clear Dn);(try clear Dm);(try clear Dl);(try clear Dk);(try clear C9);(try clear C8);(try clear C7);(try clear C6);(try clear C5)
        obtain ⟨j5,rfl,HA,yd,ij,HB⟩:=hrel
        cases gk with
        |zero=>exact absurd HA.out (by simp [aj.l2])
        |succ k3=>
         have H:=HA.out;clear HA
         simp only [aj.l2] at H
         by_cases DG:j5<(aM.length:Int)
         ·rw [if_pos DG] at H
          have JI:=decide_eq_true DG
          clear DG;replace H:=dy H;obtain ⟨c41,H⟩:=H;have Uc:=decide_eq_true c41;clear c41;replace H:=dy H;obtain ⟨SB,H⟩:=H;have OT:=decide_eq_true SB;clear SB
          have H':=ak H
          clear H
          have Rj:0≤(j5:Int):=da
          have Q9:j5<(aM.length:Int):=da
          obtain ⟨acW,ah4,ahG,ahl,xN,Ji,Jw⟩:=ke iL.out j5 Rj Q9
          cases ahl
          replace xN:=(HB.out.cell (World.block_lt_of_cell? w _ xN)).trans xN
          have JY:=ak Jw;have aey:=ak Ji;clear Jw Ji;replace Rj:=eq_true Rj;replace Q9:=eq_true Q9;go_wp2
          go_loopg [95] k3 (fun kq v95 w'=>∃(nZ:Int),v95= .int .i64 nZ∧Aside0 (aj.l3 kq (aN aM j5) aM (aM.length:Int) j5 (aN aM j5) ((aN aM j5).length:Int) nZ=some r)∧Aside0 (kq≤k3)∧Aside0 (w'.heap[BC]? =some (.cells #[(.slice fV bn.length fT),(.slice gv aU.length fS),(.slice fU bu.length fR),(.slice (some acW) aM.length fQ),.int .i64 bR] 27 (0,0)))∧Aside0 (Below w.heap.size w w'))
          case atStart=>exact ⟨(0),er,H',⟨Nat.le_refl _⟩,⟨dm ij⟩,⟨az HB jk⟩⟩
          case round=>
           clear H'
           (try clear JI);(try clear Uc);(try clear OT);(try clear xN);(try clear Rj);(try clear Q9)
           obtain ⟨nZ,rfl,HA,J1,ij,HB⟩:=hrel
           cases gk with
           |zero=>exact absurd HA.out (by simp [aj.l3])
           |succ k4=>
            have H:=HA.out;clear HA
            simp only [aj.l3] at H
            by_cases Fh:nZ<((aN aM j5).length:Int)
            ·rw [if_pos Fh] at H
             have JH:=decide_eq_true Fh
             clear Fh;replace H:=dy H;obtain ⟨Me,H⟩:=H;have Ua:=decide_eq_true Me;clear Me;replace H:=dy H;obtain ⟨Qr,H⟩:=H;have aiw:=decide_eq_true Qr;clear Qr;replace H:=bS H;obtain ⟨t119,A46,H⟩:=H
             by_cases X9:t119=true
             ·subst X9
              have H1:(aj.l3 k4 (aN aM j5) aM (aM.length:Int) j5 (aN aM j5) ((aN aM j5).length:Int) (wrap64 (nZ+1)))=some r:=by rw [if_pos rfl] at H;exact H
              clear H
              have H:=H1
              clear H1
              have H':=ak H
              clear H
              have GD:0≤(nZ:Int):=da
              have Gn:nZ<((aN aM j5).length:Int):=da
              obtain ⟨acV,XS,pW⟩:=Kd.bq JY.out nZ GD Gn
              cases XS
              replace pW:=(HB.out.cell (World.block_lt_of_cell? w _ pW)).trans pW
              replace GD:=eq_true GD;replace Gn:=eq_true Gn
              go_wp2_with (first|(go_at_call 79;(with_reducible refine (bE.calls ((aQ ByteArray.empty (aN aM j5) nZ).size:Int) 1 15 true _ A46.out).mono ?_);rintro e w' ⟨rfl,⟨nd,rfl⟩⟩))
              go_roundg k4
              case measure=>have:=DV.out;have:=kg.out;have:=yd.out;have:=J1.out;omega
              case rel=>exact ⟨(wrap64 (nZ+1)),er,H',⟨by have:=DV.out;have:=kg.out;have:=yd.out;have:=J1.out;omega⟩,⟨dm ij⟩,⟨az HB jk⟩⟩
             ·replace X9:=Bool.eq_false_iff.mpr X9
              subst X9
              have H1:(some false)=some r:=by rw [if_neg (show¬(false=true) by decide)] at H;exact H
              clear H
              have H:=H1
              clear H1
              obtain rfl:=Option.some.inj H
              have GD:0≤(nZ:Int):=da
              have Gn:nZ<((aN aM j5).length:Int):=da
              obtain ⟨acV,XS,pW⟩:=Kd.bq JY.out nZ GD Gn
              cases XS
              replace pW:=(HB.out.cell (World.block_lt_of_cell? w _ pW)).trans pW
              replace GD:=eq_true GD;replace Gn:=eq_true Gn
              go_wp2_with (first|(go_at_call 79;(with_reducible refine (bE.calls ((aQ ByteArray.empty (aN aM j5) nZ).size:Int) 1 15 false _ A46.out).mono ?_);rintro e w' ⟨rfl,⟨nd,rfl⟩⟩))
              go_ret
              exact ⟨kK,az HB jk⟩
            ·rw [if_neg Fh] at H
             have JH:=decide_eq_false Fh
             clear Fh
             by_cases Md:((aN aM j5).length:Int)>60
             ·rw [if_pos Md] at H
              have TZ:=Ma Md
              have ab1:decide (60<(aN aM j5).length)=true:=decide_eq_true (by omega)
              clear Md
              obtain rfl:=Option.some.inj H
              go_wp2
              go_ret
              exact ⟨kK,az HB jk⟩
             ·rw [if_neg Md] at H
              have TZ:=Mb Md
              have ab1:decide (60<(aN aM j5).length)=false:=decide_eq_false (by omega)
              clear Md
              have H':=ak H
              clear H;go_wp2
              go_roundg k4
              case measure=>have:=DV.out;have:=kg.out;have:=yd.out;have:=J1.out;omega
              case rel=>exact ⟨(wrap64 (j5+1)),er,H',⟨by have:=DV.out;have:=kg.out;have:=yd.out;have:=J1.out;omega⟩,⟨dm ij⟩,⟨az HB jk⟩⟩
         ·rw [if_neg DG] at H
          have JI:=decide_eq_false DG
          clear DG
          obtain rfl:=Option.some.inj H
          go_wp2
          go_ret
          exact ⟨kK,az HB jk⟩
def dA.l0:Nat→List (List ByteArray)→List (List ByteArray)→Int→Int→Option ((List (List ByteArray)))
  |0,_,_,_,_=>none
  |k+1,x3,x6,x7,x8=>if x8<x7 then (if 0≤x8 then (if x8<(x6.length:Int) then ((some (([]:List ByteArray):List ByteArray)).bind fun FQ=>(if FQ.length+(aN x6 x8).length<8796093022208 then (if x3.length<5864062014805 then (dA.l0 k (x3++[(FQ++(aN x6 x8))]) x6 x7 (wrap64 (x8+1))) else (none)) else (none))) else (none)) else (none)) else (some x3)
def dA.f (k:Nat) (l0:List (List ByteArray)):Option ((List (List ByteArray))):=dA.l0 k ([]:List (List ByteArray)) l0 (l0.length:Int) 0
theorem dA.calls (k:Nat) (A0:Option Addr) (c0:Nat) (l0:List (List ByteArray)) (r:List (List ByteArray)) (w:World) (ff:Kd.C (Kd.slice 9 Kd.string) w A0 l0.length l0) (fL:l0.length≤c0) (h:dA.f k l0=some r):
  Calls Tryz.prog 87 #[.slice A0 l0.length c0] w fun e w'=>∃lG:Value,e= .returned (lG)∧Kd.S (Kd.slice 9 Kd.string) 62 w' w.heap.size (fun _=>True) lG r∧Below w.heap.size w w':=by
 have fZ:=ak ff;have ki:=ak fL;clear ff fL
 have HB:=ak (Below.refl w.heap.size w)
 have H:(dA.l0 k ([]:List (List ByteArray)) l0 (l0.length:Int) 0)=some r:=h
 clear h
 have H':=ak H
 clear H
 go_enter Tryz.func87,Tryz.ntmps87
 go_wp2
 go_loopg [3,8] k (fun kq v3 v8 w'=>∃(ja:List (List ByteArray)) (cX:Int),v8= .int .i64 cX∧Aside0 (dA.l0 kq ja l0 (l0.length:Int) cX=some r)∧Aside0 (kq≤k)∧Aside0 (Kd.S (Kd.slice 9 Kd.string) 62 w' w.heap.size (fun _=>True) v3 ja)∧Aside0 (Below w.heap.size w w'))
 case atStart=>exact ⟨(([]:List (List ByteArray))),(0),er,H',⟨Nat.le_refl _⟩,⟨by first|exact Kd.qn _ _ _ _ _|exact Kd.UK _ _ _ _ _|exact Kd.Uo _ _ _ _ _|exact Kd.Ur _ _ _ _ _|exact Kd.qo _ _ _ _ _⟩,⟨aq HB⟩⟩
 case round=>
  clear H'
  obtain ⟨ja,cX,rfl,HA,gf,eT,HB⟩:=hrel
  cases gk with
  |zero=>exact absurd HA.out (by simp [dA.l0])
  |succ k1=>
   have H:=HA.out;clear HA
   simp only [dA.l0] at H
   by_cases c2:cX<(l0.length:Int)
   ·rw [if_pos c2] at H
    have o5:=decide_eq_true c2
    clear c2;replace H:=dy H;obtain ⟨c3,H⟩:=H;have jX:=decide_eq_true c3;clear c3;replace H:=dy H;obtain ⟨c4,H⟩:=H;have jn:=decide_eq_true c4;clear c4
    obtain ⟨FQ,ez⟩:∃y_:List ByteArray,y_=(([]:List ByteArray)):=⟨_,rfl⟩
    replace H:(if FQ.length+(aN l0 cX).length<8796093022208 then (if ja.length<5864062014805 then (dA.l0 k1 (ja++[(FQ++(aN l0 cX))]) l0 (l0.length:Int) (wrap64 (cX+1))) else (none)) else (none))=some r:=yH
    have UJ:=ak ez;clear ez;replace H:=dy H;obtain ⟨c5,H⟩:=H;have ahK:=ak c5;clear c5
    obtain ⟨Mi,ez⟩:∃y_:List ByteArray,y_=(FQ++(aN l0 cX)):=⟨_,rfl⟩
    replace H:(if ja.length<5864062014805 then (dA.l0 k1 (ja++[Mi]) l0 (l0.length:Int) (wrap64 (cX+1))) else (none))=some r:=yH
    have adx:=ak ez;clear ez;replace H:=dy H;obtain ⟨c6,H⟩:=H;have Yv:=ak c6;clear c6
    obtain ⟨Z6,ez⟩:∃y_:List (List ByteArray),y_=(ja++[Mi]):=⟨_,rfl⟩
    replace H:(dA.l0 k1 Z6 l0 (l0.length:Int) (wrap64 (cX+1)))=some r:=yH
    have adw:=ak ez;clear ez
    have H':=ak H
    clear H
    have V2:0≤(cX:Int):=da
    have VO:cX<(l0.length:Int):=da
    obtain ⟨aiQ,ah3,ahF,ahk,CZ,Jh,Jv⟩:=ke fZ.out cX V2 VO
    cases ahk
    replace CZ:=(HB.out.cell (World.block_lt_of_cell? w _ CZ)).trans CZ
    have SP:=ak Jv;have aex:=ak Jh;clear Jv Jh;replace V2:=eq_true V2;replace VO:=eq_true VO
    go_wp2_with (first|((with_reducible refine av (N:=13) rfl ?_);refine Kd.gD Kd.string _ 9 ?hg (N:=13) ?hd (xs:=([]:List ByteArray)) (inner:=[]) (ok:=fun _=>True) (okp:=fun _=>True) ?hr ?hp (fun _ hk=>hk) trivial (Below.refl _ _) (Nat.le_refl _) (by simp) ?_;(case hd=>rfl);(case hg=>rfl);(case hr=>exact rZ);(case hp=>exact (bT.none _ _));intro aeS w7 L7 hb bK dP;clear bK dP;(first|rw [←UJ.out] at L7|(simp only [Int.reduceToNat] at L7;rw [←UJ.out] at L7));replace eT:=ak (Kd.FB (sd eT) (Kd.j3 L7) hb);have UY:=ak (Kd.dz L7 (aX (aq HB)));replace HB:=ak (aH (aq HB) hb);clear hb L7)|((with_reducible refine bw (b:= .append) (xs:= #[.tmp 13,.tmp 14]) rfl ?_);at_builtin;refine Kd.cH Kd.string (w0:=w) w.heap.size rfl (.tmp 13) (.tmp 14) 62 9 (.string ⟨#[]⟩) 16 rfl Tryz.underlying62 fu rfl (by decide) (by omega) aeS FQ (aN l0 cX) _ _ _ (fun _=>True) (fun _=>False) rfl rfl ?aO ?aR (fun _ _ h=>h) (fun _ h=>h.elim) ?aF ?aB ?aS ?aL ?_;(case aR=>exact cd (Kd.aD SP.out HB.out));(case aB=>exact (aq HB));(case aF=>exact (fun _ _=>trivial));(case aO=>exact (dH UY));(case aS=>exact (aX (aq HB)));(case aL=>have:=ahK.out;omega);intro ajv w9 ho hb hg eC;rw [←adx.out] at ho;replace eT:=ak (Kd.SJ (ok:=(fun _=>True)) (sd eT) hg eC);replace HB:=ak (hb);have J0:=ak (ho);clear UY;clear ho hb hg eC;obtain ⟨L4,LA,Ox⟩:=Kd.de J0.out;subst Ox)|((with_reducible refine bw (b:= .append) (xs:= #[.tmp 12,.tmp 16]) rfl ?_);at_builtin;refine Kd.FC (Kd.slice 9 Kd.string) (w0:=w) w.heap.size rfl (.tmp 12) (.tmp 16) 23 62 (.slice none 0 0) 24 rfl Tryz.underlying23 GV rfl (by decide) (by omega) u3 ja Mi [.slice L4 Mi.length LA] (fun _=>True) (fun k_=>some k_=(.slice L4 Mi.length LA:Value).ownBlock) rfl rfl ?aP (fun k_ qz=>((Kd.bJ (ok':=fun k_=>((fun _=>True)) k_∧some k_≠(u3:Value).ownBlock) (Kd.uT (J0.out) (Kd.xU eT.out) (by decide)) (fun k_ hk=>⟨trivial,hk.2⟩))).1 k_ qz.symm) ?aF ?aO ?aB ?aS ?aL ?_;(case aP=>exact Kd.UL (Kd.bJ (Kd.iN rfl (Kd.bJ (ok':=fun k_=>((fun _=>True)) k_∧some k_≠(u3:Value).ownBlock) (Kd.uT (J0.out) (Kd.xU eT.out) (by decide)) (fun k_ hk=>⟨trivial,hk.2⟩))) (fun _ h_=>h_)));(case aB=>exact (aq HB));(case aF=>exact (fun _ _=>trivial));(case aO=>exact (by (with_reducible repeat (first|apply Kd.uR|apply Kd.uP|apply Kd.zQ));exact Kd.l8 eT.out (fun k_ hk=>⟨trivial,fun e_=>hk.2 e_⟩)));(case aS=>exact (aX (aq HB)));(case aL=>have:=Yv.out;omega);intro aju w10 ho hb hg eC;rw [←adw.out] at ho;replace HB:=ak (hb);have adZ:=ak (ho);clear eT J0;clear ho hb hg eC))
    go_roundg k1
    case measure=>have:=gf.out;omega
    case rel=>exact ⟨(Z6),(wrap64 (cX+1)),er,H',⟨by have:=gf.out;omega⟩,⟨sd adZ⟩,⟨aq HB⟩⟩
   ·rw [if_neg c2] at H
    have o5:=decide_eq_false c2
    clear c2
    obtain rfl:=Option.some.inj H
    go_wp2
    go_ret
    exact ⟨_,kK,by (with_reducible repeat (first|apply Kd.uR|apply Kd.uP|apply Kd.zQ));exact eT.out,aq HB⟩
end Go.Proofs.YtihekdlcfohkkaaGreatDoor.QFnNets
