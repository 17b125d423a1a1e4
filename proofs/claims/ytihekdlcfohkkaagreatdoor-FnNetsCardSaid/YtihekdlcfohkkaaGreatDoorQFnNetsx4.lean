-- printed by this session's own program (wip/tools/pp.py: the kit's print.py with changes); Lean checks it
import Derived.Test.YtihekdlcfohkkaaGreatDoorQFnNetsx0
import Derived.Test.YtihekdlcfohkkaaGreatDoorQFnNetsx2
import Derived.Test.YtihekdlcfohkkaaGreatDoorQFnNetsx3
namespace Go.Proofs.YtihekdlcfohkkaaGreatDoor.QFnNets
open Go.RowKit Go.Proofs.YtihekdlcfohkkaaGreatDoorW.PrintWords Go.Proofs.YtihekdlcfohkkaaGreatDoorW.PrintLast Go.Proofs.YtihekdlcfohkkaaGreatDoorW.PrintMore
attribute [local go_sem] max2_int min2_int max_two min_two max_three min_three max_four min_four strLss strGtr strLeq strGeq
set_option linter.unusedVariables false
set_option linter.unusedSimpArgs false
set_option maxHeartbeats 16000000
set_option maxRecDepth 100000
def bM.l0:Nat→List ByteArray→ByteArray→Int→Int→Option (Int)
  |0,_,_,_,_=>none
  |k+1,x0,x1,x7,x8=>if x8<x7 then (if 0≤x8 then (if x8<(x0.length:Int) then (if x1.toList=(aQ ByteArray.empty x0 x8).toList then (some x8) else (bM.l0 k x0 x1 x7 (wrap64 (x8+1)))) else (none)) else (none)) else (some (-1))
def bM.f (k:Nat) (l0:List ByteArray) (a1:ByteArray):Option (Int):=bM.l0 k l0 a1 (l0.length:Int) 0
theorem bM.calls (k:Nat) (A0:Option Addr) (c0:Nat) (l0:List ByteArray) (a1:ByteArray) (r:Int) (w:World) (ff:Kd.C Kd.string w A0 l0.length l0) (fL:l0.length≤c0) (h:bM.f k l0 a1=some r):
  Calls Tryz.prog 103 #[.slice A0 l0.length c0,.string a1] w fun e w'=>e= .returned (.int .i64 r)∧cQ w w':=by
 have fZ:=ak ff;have ki:=ak fL;clear ff fL
 have H:(bM.l0 k l0 a1 (l0.length:Int) 0)=some r:=h
 clear h
 have H':=ak H
 clear H
 go_enter Tryz.func103,Tryz.ntmps103
 go_wp2
 go_loopg [8] k (fun kq v8 w'=>∃(cX:Int),v8= .int .i64 cX∧Aside0 (bM.l0 kq l0 a1 (l0.length:Int) cX=some r)∧Aside0 (kq≤k)∧cQ w w')
 case atStart=>exact ⟨(0),er,H',⟨Nat.le_refl _⟩,gV⟩
 case round=>
  clear H'
  obtain ⟨cX,rfl,HA,gf,⟨m1,rfl⟩⟩:=hrel
  cases gk with
  |zero=>exact absurd HA.out (by simp [bM.l0])
  |succ k1=>
   have H:=HA.out;clear HA
   simp only [bM.l0] at H
   by_cases c3:cX<(l0.length:Int)
   ·rw [if_pos c3] at H
    have jX:=decide_eq_true c3
    clear c3;replace H:=dy H;obtain ⟨c4,H⟩:=H;have jn:=decide_eq_true c4;clear c4;replace H:=dy H;obtain ⟨c5,H⟩:=H;have mh:=decide_eq_true c5;clear c5
    by_cases c6:a1.toList=(aQ ByteArray.empty l0 cX).toList
    ·rw [if_pos c6] at H
     have kO:=lO c6
     have vS:=mR c6
     clear c6
     obtain rfl:=Option.some.inj H
     have GA:0≤(cX:Int):=da
     have Gk:cX<(l0.length:Int):=da
     obtain ⟨acT,XO,RM⟩:=Kd.bq fZ.out cX GA Gk
     cases XO
     replace GA:=eq_true GA;replace Gk:=eq_true Gk;go_wp2
     go_ret
     exact ⟨er,gV⟩
    ·rw [if_neg c6] at H
     have kO:=lq c6
     have vS:=mj c6
     have H':=ak H
     clear H
     have GA:0≤(cX:Int):=da
     have Gk:cX<(l0.length:Int):=da
     obtain ⟨acT,XO,RM⟩:=Kd.bq fZ.out cX GA Gk
     cases XO
     replace GA:=eq_true GA;replace Gk:=eq_true Gk;go_wp2
     go_roundg k1
     case measure=>have:=gf.out;omega
     case rel=>exact ⟨(wrap64 (cX+1)),er,H',⟨by have:=gf.out;omega⟩,gV⟩
   ·rw [if_neg c3] at H
    have jX:=decide_eq_false c3
    clear c3
    obtain rfl:=Option.some.inj H
    go_wp2
    go_ret
    exact ⟨er,gV⟩
def cN.f (k:Nat) (l0:List ByteArray) (a1:ByteArray):Option (Bool):=(bM.f k l0 a1).bind fun t187=>(some (decide (t187≥0)))
theorem cN.calls (k:Nat) (A0:Option Addr) (c0:Nat) (l0:List ByteArray) (a1:ByteArray) (r:Bool) (w:World) (ff:Kd.C Kd.string w A0 l0.length l0) (fL:l0.length≤c0) (h:cN.f k l0 a1=some r):
  Calls Tryz.prog 73 #[.slice A0 l0.length c0,.string a1] w fun e w'=>e= .returned (.bool r)∧cQ w w':=by
 have fZ:=ak ff;have ki:=ak fL;clear ff fL
 have H:((bM.f k l0 a1).bind fun t187=>(some (decide (t187≥0))))=some r:=h
 clear h;replace H:=bS H;obtain ⟨t187,A3,H⟩:=H
 obtain rfl:=Option.some.inj H
 go_enter Tryz.func73,Tryz.ntmps73
 go_wp2_with (first|(go_at_call 103;(with_reducible refine (bM.calls k _ _ l0 a1 t187 _ ?side1 ?side2 A3.out).mono ?_);(case side1=>exact cd fZ.out);(case side2=>exact ki.out);rintro e w' ⟨rfl,⟨nd,rfl⟩⟩))
 go_ret
 exact ⟨er,gV⟩
def iE.f (a0:ByteArray):Option (Bool):=(bk.f (a0.size:Int) 1 15).bind fun t188=>(some (!t188))
theorem iE.calls (a0:ByteArray) (r:Bool) (w:World) (h:iE.f a0=some r):
  Calls Tryz.prog 75 #[.string a0] w fun e w'=>e= .returned (.bool r)∧cQ w w':=by
 have H:((bk.f (a0.size:Int) 1 15).bind fun t188=>(some (!t188)))=some r:=h
 clear h;replace H:=bS H;obtain ⟨t188,A2,H⟩:=H
 obtain rfl:=Option.some.inj H
 go_enter Tryz.func75,Tryz.ntmps75
 go_wp2_with (first|(go_at_call 70;(with_reducible refine (bk.calls (a0.size:Int) 1 15 t188 _ A2.out).mono ?_);rintro e w' ⟨rfl,⟨nd,rfl⟩⟩))
 go_ret
 exact ⟨er,gV⟩
def bF.l0:Nat→List ByteArray→Int→Int→Option (Int)
  |0,_,_,_=>none
  |k+1,x0,x7,x8=>if x8<x7 then (if 0≤x8 then (if x8<(x0.length:Int) then ((iE.f (aQ ByteArray.empty x0 x8)).bind fun t190=>(if t190=true then (some x8) else (bF.l0 k x0 x7 (wrap64 (x8+1))))) else (none)) else (none)) else (some (-1))
def bF.f (k:Nat) (l0:List ByteArray):Option (Int):=bF.l0 k l0 (l0.length:Int) 0
theorem bF.calls (k:Nat) (A0:Option Addr) (c0:Nat) (l0:List ByteArray) (r:Int) (w:World) (ff:Kd.C Kd.string w A0 l0.length l0) (fL:l0.length≤c0) (h:bF.f k l0=some r):
  Calls Tryz.prog 104 #[.slice A0 l0.length c0,.func (.func 75) #[] #[]] w fun e w'=>e= .returned (.int .i64 r)∧cQ w w':=by
 have fZ:=ak ff;have ki:=ak fL;clear ff fL
 have H:(bF.l0 k l0 (l0.length:Int) 0)=some r:=h
 clear h
 have H':=ak H
 clear H
 go_enter Tryz.func104,Tryz.ntmps104
 go_wp2
 go_loopg [8] k (fun kq v8 w'=>∃(cX:Int),v8= .int .i64 cX∧Aside0 (bF.l0 kq l0 (l0.length:Int) cX=some r)∧Aside0 (kq≤k)∧cQ w w')
 case atStart=>exact ⟨(0),er,H',⟨Nat.le_refl _⟩,gV⟩
 case round=>
  clear H'
  obtain ⟨cX,rfl,HA,gf,⟨m1,rfl⟩⟩:=hrel
  cases gk with
  |zero=>exact absurd HA.out (by simp [bF.l0])
  |succ k1=>
   have H:=HA.out;clear HA
   simp only [bF.l0] at H
   by_cases c3:cX<(l0.length:Int)
   ·rw [if_pos c3] at H
    have jX:=decide_eq_true c3
    clear c3;replace H:=dy H;obtain ⟨c4,H⟩:=H;have jn:=decide_eq_true c4;clear c4;replace H:=dy H;obtain ⟨c5,H⟩:=H;have mh:=decide_eq_true c5;clear c5;replace H:=bS H;obtain ⟨t190,A6,H⟩:=H
    by_cases c7:t190=true
    ·subst c7
     have H1:(some cX)=some r:=by rw [if_pos rfl] at H;exact H
     clear H
     have H:=H1
     clear H1
     obtain rfl:=Option.some.inj H
     obtain ⟨afT,afD,acS,XN,RL⟩:=ng (Kd.bq fZ.out cX)
     cases XN
     go_wp2_with (first|((with_reducible refine zj (f:=75) rfl rfl ?_);refine Ot (some 16) rfl rfl Tryz.func75 (by kernel_rfl) rfl #[.string (aQ ByteArray.empty l0 cX)] rfl rfl (by (try simp only [List.map_toArray,List.map_cons,List.map_nil]);first|done|rfl|(simp only [List.length_drop,List.length_take];rfl)) ?_;(with_reducible refine (iE.calls (aQ ByteArray.empty l0 cX) true _ A6.out).mono ?_);rintro e w' ⟨rfl,⟨nd,rfl⟩⟩;refine ⟨_,rfl,?_⟩))
     go_ret
     exact ⟨er,gV⟩
    ·replace c7:=Bool.eq_false_iff.mpr c7
     subst c7
     have H1:(bF.l0 k1 l0 (l0.length:Int) (wrap64 (cX+1)))=some r:=by rw [if_neg (show¬(false=true) by decide)] at H;exact H
     clear H
     have H:=H1
     clear H1
     have H':=ak H
     clear H
     obtain ⟨afT,afD,acS,XN,RL⟩:=ng (Kd.bq fZ.out cX)
     cases XN
     go_wp2_with (first|((with_reducible refine zj (f:=75) rfl rfl ?_);refine Ot (some 16) rfl rfl Tryz.func75 (by kernel_rfl) rfl #[.string (aQ ByteArray.empty l0 cX)] rfl rfl (by (try simp only [List.map_toArray,List.map_cons,List.map_nil]);first|done|rfl|(simp only [List.length_drop,List.length_take];rfl)) ?_;(with_reducible refine (iE.calls (aQ ByteArray.empty l0 cX) false _ A6.out).mono ?_);rintro e w' ⟨rfl,⟨nd,rfl⟩⟩;refine ⟨_,rfl,?_⟩))
     go_roundg k1
     case measure=>have:=gf.out;omega
     case rel=>exact ⟨(wrap64 (cX+1)),er,H',⟨by have:=gf.out;omega⟩,gV⟩
   ·rw [if_neg c3] at H
    have jX:=decide_eq_false c3
    clear c3
    obtain rfl:=Option.some.inj H
    go_wp2
    go_ret
    exact ⟨er,gV⟩
def eD.f (k:Nat) (l0:List ByteArray):Option (Bool):=(bF.f k l0).bind fun t191=>(some (decide (t191≥0)))
theorem eD.calls (k:Nat) (A0:Option Addr) (c0:Nat) (l0:List ByteArray) (r:Bool) (w:World) (ff:Kd.C Kd.string w A0 l0.length l0) (fL:l0.length≤c0) (h:eD.f k l0=some r):
  Calls Tryz.prog 74 #[.slice A0 l0.length c0,.func (.func 75) #[] #[]] w fun e w'=>e= .returned (.bool r)∧cQ w w':=by
 have fZ:=ak ff;have ki:=ak fL;clear ff fL
 have H:((bF.f k l0).bind fun t191=>(some (decide (t191≥0))))=some r:=h
 clear h;replace H:=bS H;obtain ⟨t191,A3,H⟩:=H
 obtain rfl:=Option.some.inj H
 go_enter Tryz.func74,Tryz.ntmps74
 go_wp2_with (first|(go_at_call 104;(with_reducible refine (bF.calls k _ _ l0 t191 _ ?side1 ?side2 A3.out).mono ?_);(case side1=>exact cd fZ.out);(case side2=>exact ki.out);rintro e w' ⟨rfl,⟨nd,rfl⟩⟩))
 go_ret
 exact ⟨er,gV⟩
mutual
def ax.j0:Nat→Bool→List Int→List (List ByteArray)→List (List ByteArray)→List (List ByteArray)→Int→Option (Bool)
  |0,_,_,_,_,_,_=>none
  |k+1,x47,nj,lQ,kL,lP,ni=>if x47=true then (some false) else (ax.l0 k lQ (lQ.length:Int) 0 nj lQ kL lP ni)
def ax.l0:Nat→List (List ByteArray)→Int→Int→List Int→List (List ByteArray)→List (List ByteArray)→List (List ByteArray)→Int→Option (Bool)
  |0,_,_,_,_,_,_,_,_=>none
  |k+1,Kb,Tf,tJ,nj,lQ,kL,lP,ni=>if tJ<Tf then (if 0≤tJ then (if tJ<(Kb.length:Int) then ((cS.f k (aN Kb tJ)).bind fun t197=>(if t197=true then (if tJ<(kL.length:Int) then ((cS.f k (aN kL tJ)).bind fun t199=>(ax.j2 k tJ (aN Kb tJ) Kb Tf tJ (!t199) nj lQ kL lP ni)) else (none)) else (ax.j2 k tJ (aN Kb tJ) Kb Tf tJ true nj lQ kL lP ni))) else (none)) else (none)) else (ax.l2 k lP (lP.length:Int) 0)
def ax.j2:Nat→Int→List ByteArray→List (List ByteArray)→Int→Int→Bool→List Int→List (List ByteArray)→List (List ByteArray)→List (List ByteArray)→Int→Option (Bool)
  |0,_,_,_,_,_,_,_,_,_,_,_=>none
  |k+1,x4,x5,Kb,Tf,tJ,x67,nj,lQ,kL,lP,ni=>if x67=true then (some false) else (ax.l1 k x4 Kb Tf tJ x5 (x5.length:Int) 0 nj lQ kL lP ni)
def ax.l1:Nat→Int→List (List ByteArray)→Int→Int→List ByteArray→Int→Int→List Int→List (List ByteArray)→List (List ByteArray)→List (List ByteArray)→Int→Option (Bool)
  |0,_,_,_,_,_,_,_,_,_,_,_,_=>none
  |k+1,x4,Kb,Tf,tJ,x68,x69,Qt,nj,lQ,kL,lP,ni=>if Qt<x69 then (if 0≤Qt then (if Qt<(x68.length:Int) then (if 0≤x4 then (if x4<(kL.length:Int) then ((cN.f k (aN kL x4) (aQ ByteArray.empty x68 Qt)).bind fun t202=>(if t202=true then (ax.l1 k x4 Kb Tf tJ x68 x69 (wrap64 (Qt+1)) nj lQ kL lP ni) else (some false))) else (none)) else (none)) else (none)) else (none)) else (ax.l0 k Kb Tf (wrap64 (tJ+1)) nj lQ kL lP ni)
def ax.l2:Nat→List (List ByteArray)→Int→Int→Option (Bool)
  |0,_,_,_=>none
  |k+1,x85,x86,FT=>if FT<x86 then (if 0≤FT then (if FT<(x85.length:Int) then (if ((aN x85 FT).length:Int)>60 then (some false) else ((eD.f k (aN x85 FT)).bind fun t204=>(if t204=true then (some false) else (ax.l2 k x85 x86 (wrap64 (FT+1)))))) else (none)) else (none)) else (some true)
end
def ax.f (k:Nat) (bn:List Int) (aU:List (List ByteArray)) (bu:List (List ByteArray)) (aM:List (List ByteArray)) (bR:Int):Option (Bool):=(bk.f (bn.length:Int) 1 4).bind fun t193=>(if t193=true then ((eX.f k bn).bind fun t194=>(if t194=true then (if (aU.length:Int)=(bn.length:Int) then (if (bu.length:Int)=(bn.length:Int) then (if (aM.length:Int)=4 then ((bk.f bR 0 60).bind fun t195=>(ax.j0 k (!t195) bn aU bu aM bR)) else (ax.j0 k true bn aU bu aM bR)) else (ax.j0 k true bn aU bu aM bR)) else (ax.j0 k true bn aU bu aM bR)) else (ax.j0 k true bn aU bu aM bR))) else (ax.j0 k true bn aU bu aM bR))
theorem ax.calls (k:Nat) (fV:Option Addr) (fT:Nat) (bn:List Int) (gv:Option Addr) (fS:Nat) (aU:List (List ByteArray)) (fU:Option Addr) (fR:Nat) (bu:List (List ByteArray)) (gB:Option Addr) (fQ:Nat) (aM:List (List ByteArray)) (bR:Int) (r:Bool) (w:World) (jE:Kd.C (Kd.int .i64) w fV bn.length bn) (jI:bn.length≤fT) (jD:Kd.C (Kd.slice 9 Kd.string) w gv aU.length aU) (jH:aU.length≤fS) (jC:Kd.C (Kd.slice 9 Kd.string) w fU bu.length bu) (jG:bu.length≤fR) (jB:Kd.C (Kd.slice 9 Kd.string) w gB aM.length aM) (jF:aM.length≤fQ) (h:ax.f k bn aU bu aM bR=some r):
  Calls Tryz.prog 35 #[.agg #[.slice fV bn.length fT,.slice gv aU.length fS,.slice fU bu.length fR,.slice gB aM.length fQ,.int .i64 bR]] w fun e w'=>e= .returned (.bool r)∧Below w.heap.size w w':=by
 have lg:=Tryz.underlying27
 have gE:=ak jE;have gF:=ak jI;clear jE jI;have iM:=ak jD;have jx:=ak jH;clear jD jH;have iy:=ak jC;have jK:=ak jG;clear jC jG;have iL:=ak jB;have jY:=ak jF;clear jB jF
 have HB:=ak (Below.refl w.heap.size w)
 have H:((bk.f (bn.length:Int) 1 4).bind fun t193=>(if t193=true then ((eX.f k bn).bind fun t194=>(if t194=true then (if (aU.length:Int)=(bn.length:Int) then (if (bu.length:Int)=(bn.length:Int) then (if (aM.length:Int)=4 then ((bk.f bR 0 60).bind fun t195=>(ax.j0 k (!t195) bn aU bu aM bR)) else (ax.j0 k true bn aU bu aM bR)) else (ax.j0 k true bn aU bu aM bR)) else (ax.j0 k true bn aU bu aM bR)) else (ax.j0 k true bn aU bu aM bR))) else (ax.j0 k true bn aU bu aM bR)))=some r:=h
 clear h;have YQ:=ak H;clear H
 go_enter Tryz.func35,Tryz.ntmps35
 go_upto_region 2 with (first|((with_reducible refine av (N:=1) rfl ?_);(try (refine zk (by rfl) ?_;dsimp only));refine bN 1 #[.slice fV bn.length fT,.slice gv aU.length fS,.slice fU bu.length fR,.slice gB aM.length fQ,.int .i64 bR] 27 ?_;intro EY hg w3 eI hb;have iQ:=ak (eI);have aiY:=ak (mX hg (aq HB));have jL:=ak (mX hg (aq HB));replace HB:=ak (aH (aq HB) hb);clear hb eI hg;obtain ⟨Hs,Hr,Hq,Ho,Hl,Hg,Hf,He,G9,G8⟩:=an iQ))
 (try simp only [Act.put,List.setIfInBounds_toArray,List.set_cons_zero,List.set_cons_succ])
 go_cut [47] (fun v47 wc=>∃(kq:Nat) (Iw:Bool),v47= .bool Iw∧Aside0 (ax.j0 kq Iw bn aU bu aM bR=some r)∧Aside0 (kq≤k)∧Aside0 (wc.heap[EY]? =some (.cells #[(.slice fV bn.length fT),(.slice gv aU.length fS),(.slice fU bu.length fR),(.slice gB aM.length fQ),.int .i64 bR] 27 (0,0)))∧Aside0 (Below w.heap.size w wc))
 case first=>
  have H:=YQ.out;clear YQ;replace H:=bS H;obtain ⟨t193,A5,H⟩:=H
  by_cases c6:t193=true
  ·subst c6
   have H1:((eX.f k bn).bind fun t194=>(if t194=true then (if (aU.length:Int)=(bn.length:Int) then (if (bu.length:Int)=(bn.length:Int) then (if (aM.length:Int)=4 then ((bk.f bR 0 60).bind fun t195=>(ax.j0 k (!t195) bn aU bu aM bR)) else (ax.j0 k true bn aU bu aM bR)) else (ax.j0 k true bn aU bu aM bR)) else (ax.j0 k true bn aU bu aM bR)) else (ax.j0 k true bn aU bu aM bR)))=some r:=by rw [if_pos rfl] at H;exact H
   clear H
   have H:=H1
   clear H1;replace H:=bS H;obtain ⟨t194,A7,H⟩:=H
   by_cases c8:t194=true
   ·subst c8
    have H1:(if (aU.length:Int)=(bn.length:Int) then (if (bu.length:Int)=(bn.length:Int) then (if (aM.length:Int)=4 then ((bk.f bR 0 60).bind fun t195=>(ax.j0 k (!t195) bn aU bu aM bR)) else (ax.j0 k true bn aU bu aM bR)) else (ax.j0 k true bn aU bu aM bR)) else (ax.j0 k true bn aU bu aM bR))=some r:=by rw [if_pos rfl] at H;exact H
    clear H
    have H:=H1
    clear H1
    by_cases c9:(aU.length:Int)=(bn.length:Int)
    ·rw [if_pos c9] at H
     have mg:=lO c9
     have HY:=mR c9
     have OR:(aU.length==bn.length)=true:=by first|simpa using c9|(simp at c9⊢;omega)
     clear c9
     (first|rw [mg]|(simp only [bW,cA];rw [mg])|skip)
     by_cases gW:(bu.length:Int)=(bn.length:Int)
     ·rw [if_pos gW] at H
      have kY:=lO gW
      have JN:=mR gW
      have O1:(bu.length==bn.length)=true:=by first|simpa using gW|(simp at gW⊢;omega)
      clear gW
      by_cases mY:(aM.length:Int)=4
      ·rw [if_pos mY] at H
       have nM:=lO mY
       have JM:=mR mY
       clear mY;replace H:=bS H;obtain ⟨t195,L5,H⟩:=H
       have H':=ak H
       clear H
       go_wp2_with (first|((with_reducible refine eW (f:=70) rfl ?_);refine l7 (some 14) rfl Tryz.func70 #[.int .i64 (bn.length:Int),.int .i64 1,.int .i64 4] rfl ?_;(with_reducible refine (bk.calls (bn.length:Int) 1 4 true _ A5.out).mono ?_);rintro e w' ⟨rfl,⟨nd,rfl⟩⟩;refine ⟨_,rfl,?_⟩;have aeM:=an iQ)|(go_at_call 71;(with_reducible refine (eX.calls k _ _ bn true _ ?side1 ?side2 A7.out).mono ?_);(case side1=>exact cd (Kd.aD gE.out (az HB jL)));(case side2=>exact gF.out);rintro e w' ⟨rfl,⟨nd,rfl⟩⟩)|(go_at_call 70;(with_reducible refine (bk.calls bR 0 60 t195 _ L5.out).mono ?_);rintro e w' ⟨rfl,⟨nd,rfl⟩⟩))
       go_meet
       case rel=>exact ⟨_,(!t195),er,H',⟨by first|omega|exact Nat.le_refl _⟩,⟨dm iQ⟩,⟨az HB jL⟩⟩
      ·rw [if_neg mY] at H
       have nM:=lq mY
       have JM:=mj mY
       have H':=ak H
       clear H
       go_wp2_with (first|(go_at_call 70;(with_reducible refine (bk.calls (bn.length:Int) 1 4 true _ A5.out).mono ?_);rintro e w' ⟨rfl,⟨nd,rfl⟩⟩;have Vg:=an iQ)|(go_at_call 71;(with_reducible refine (eX.calls k _ _ bn true _ ?side1 ?side2 A7.out).mono ?_);(case side1=>exact cd (Kd.aD gE.out (az HB jL)));(case side2=>exact gF.out);rintro e w' ⟨rfl,⟨nd,rfl⟩⟩))
       go_meet
       case rel=>exact ⟨_,(true),er,H',⟨by first|omega|exact Nat.le_refl _⟩,⟨dm iQ⟩,⟨az HB jL⟩⟩
     ·rw [if_neg gW] at H
      have kY:=lq gW
      have JN:=mj gW
      have O1:(bu.length==bn.length)=false:=by first|simpa using gW|(simp at gW⊢;omega)
      have H':=ak H
      clear H
      go_wp2_with (first|(go_at_call 70;(with_reducible refine (bk.calls (bn.length:Int) 1 4 true _ A5.out).mono ?_);rintro e w' ⟨rfl,⟨nd,rfl⟩⟩;have aab:=an iQ)|(go_at_call 71;(with_reducible refine (eX.calls k _ _ bn true _ ?side1 ?side2 A7.out).mono ?_);(case side1=>exact cd (Kd.aD gE.out (az HB jL)));(case side2=>exact gF.out);rintro e w' ⟨rfl,⟨nd,rfl⟩⟩))
      go_meet
      case rel=>exact ⟨_,(true),er,H',⟨by first|omega|exact Nat.le_refl _⟩,⟨dm iQ⟩,⟨az HB jL⟩⟩
    ·rw [if_neg c9] at H
     have mg:=lq c9
     have HY:=mj c9
     have OR:(aU.length==bn.length)=false:=by first|simpa using c9|(simp at c9⊢;omega)
     (first|rw [mg]|(simp only [bW,cA];rw [mg])|skip)
     have H':=ak H
     clear H
     go_wp2_with (first|(go_at_call 70;(with_reducible refine (bk.calls (bn.length:Int) 1 4 true _ A5.out).mono ?_);rintro e w' ⟨rfl,⟨nd,rfl⟩⟩;have aeL:=an iQ)|(go_at_call 71;(with_reducible refine (eX.calls k _ _ bn true _ ?side1 ?side2 A7.out).mono ?_);(case side1=>exact cd (Kd.aD gE.out (az HB jL)));(case side2=>exact gF.out);rintro e w' ⟨rfl,⟨nd,rfl⟩⟩))
     go_meet
     case rel=>exact ⟨_,(true),er,H',⟨by first|omega|exact Nat.le_refl _⟩,⟨dm iQ⟩,⟨az HB jL⟩⟩
   ·replace c8:=Bool.eq_false_iff.mpr c8
    subst c8
    have H1:(ax.j0 k true bn aU bu aM bR)=some r:=by rw [if_neg (show¬(false=true) by decide)] at H;exact H
    clear H
    have H:=H1
    clear H1
    have H':=ak H
    clear H
    go_wp2_with (first|(go_at_call 70;(with_reducible refine (bk.calls (bn.length:Int) 1 4 true _ A5.out).mono ?_);rintro e w' ⟨rfl,⟨nd,rfl⟩⟩;have nX:=an iQ)|(go_at_call 71;(with_reducible refine (eX.calls k _ _ bn false _ ?side1 ?side2 A7.out).mono ?_);(case side1=>exact cd (Kd.aD gE.out (az HB jL)));(case side2=>exact gF.out);rintro e w' ⟨rfl,⟨nd,rfl⟩⟩))
    go_meet
    case rel=>exact ⟨_,(true),er,H',⟨by first|omega|exact Nat.le_refl _⟩,⟨dm iQ⟩,⟨az HB jL⟩⟩
  ·replace c6:=Bool.eq_false_iff.mpr c6
   subst c6
   have H1:(ax.j0 k true bn aU bu aM bR)=some r:=by rw [if_neg (show¬(false=true) by decide)] at H;exact H
   clear H
   have H:=H1
   clear H1
   have H':=ak H
   clear H
   go_wp2_with (first|(go_at_call 70;(with_reducible refine (bk.calls (bn.length:Int) 1 4 false _ A5.out).mono ?_);rintro e w' ⟨rfl,⟨nd,rfl⟩⟩))
   go_meet
   case rel=>exact ⟨_,(true),er,H',⟨by first|omega|exact Nat.le_refl _⟩,⟨dm iQ⟩,⟨az HB jL⟩⟩
 case rest=>
  clear YQ;(try clear Hs);(try clear Hr);(try clear Hq);(try clear Ho);(try clear Hl);(try clear Hg);(try clear Hf);(try clear He);(try clear G9);(try clear G8)
  obtain ⟨kq,Iw,rfl,HA,DV,iQ,HB⟩:=hcut
  cases kq with
  |zero=>exact absurd HA.out (by simp [ax.j0])
  |succ Wf=>
   have H:=HA.out;clear HA
   simp only [ax.j0] at H
   by_cases Fk:Iw=true
   ·subst Fk
    have H1:(some false)=some r:=by rw [if_pos rfl] at H;exact H
    clear H
    have H:=H1
    clear H1
    obtain rfl:=Option.some.inj H
    go_wp2
    go_ret
    exact ⟨kK,az HB jL⟩
   ·replace Fk:=Bool.eq_false_iff.mpr Fk
    subst Fk
    have H1:(ax.l0 Wf aU (aU.length:Int) 0 bn aU bu aM bR)=some r:=by rw [if_neg (show¬(false=true) by decide)] at H;exact H
    clear H
    have H:=H1
    clear H1
    have H':=ak H
    clear H;obtain ⟨Dw,Dv,Du,Dt,Ds,Dg,Df,De,Dd,Dc⟩:=an iQ;go_wp2
    go_loopg [51] Wf (fun kq v51 w'=>∃(fc:Int),v51= .int .i64 fc∧Aside0 (ax.l0 kq aU (aU.length:Int) fc bn aU bu aM bR=some r)∧Aside0 (kq≤Wf)∧Aside0 (w'.heap[EY]? =some (.cells #[(.slice fV bn.length fT),(.slice gv aU.length fS),(.slice fU bu.length fR),(.slice gB aM.length fQ),.int .i64 bR] 27 (0,0)))∧Aside0 (Below w.heap.size w w'))
    case atStart=>exact ⟨(0),er,H',⟨Nat.le_refl _⟩,⟨dm iQ⟩,⟨az HB jL⟩⟩
    case round=>
     clear H'
     (try clear Fk);(try clear Dw);(try clear Dv);(try clear Du);(try clear Dt);(try clear Ds);(try clear Dg);(try clear Df);(try clear De);(try clear Dd);(try clear Dc)
     obtain ⟨fc,rfl,HA,kg,iQ,HB⟩:=hrel
     cases gk with
     |zero=>exact absurd HA.out (by simp [ax.l0])
     |succ k2=>
      have H:=HA.out;clear HA
      simp only [ax.l0] at H
      by_cases BK:fc<(aU.length:Int)
      ·rw [if_pos BK] at H
       have uK:=decide_eq_true BK
       clear BK;replace H:=dy H;obtain ⟨H7,H⟩:=H;have BJ:=decide_eq_true H7;clear H7;replace H:=dy H;obtain ⟨DH,H⟩:=H;have sM:=decide_eq_true DH;clear DH;have Im:=ak H;clear H
       have Ri:0≤(fc:Int):=da
       have Q8:fc<(aU.length:Int):=da
       obtain ⟨Um,Za,Ye,ahi,xM,Jg,Ju⟩:=ke iM.out fc Ri Q8
       cases ahi
       replace xM:=(HB.out.cell (World.block_lt_of_cell? w _ xM)).trans xM
       have ya:=ak Ju;have J3:=ak Jg;clear Ju Jg;replace Ri:=eq_true Ri;replace Q8:=eq_true Q8
       go_upto_region 7 with (fail)
       go_cut [67] (fun v67 wc=>∃(kq:Nat) (Cc:Bool),v67= .bool Cc∧Aside0 (ax.j2 kq fc (aN aU fc) aU (aU.length:Int) fc Cc bn aU bu aM bR=some r)∧Aside0 (kq≤k2)∧Aside0 (wc.heap[EY]? =some (.cells #[(.slice fV bn.length fT),(.slice (some Um) aU.length fS),(.slice fU bu.length fR),(.slice gB aM.length fQ),.int .i64 bR] 27 (0,0)))∧Aside0 (Below w.heap.size w wc))
       case first=>
        have H:=Im.out;clear Im;replace H:=bS H;obtain ⟨t197,A24,H⟩:=H
        by_cases BI:t197=true
        ·subst BI
         have H1:(if fc<(bu.length:Int) then ((cS.f k2 (aN bu fc)).bind fun t199=>(ax.j2 k2 fc (aN aU fc) aU (aU.length:Int) fc (!t199) bn aU bu aM bR)) else (none))=some r:=by rw [if_pos rfl] at H;exact H
         clear H
         have H:=H1
         clear H1;replace H:=dy H;obtain ⟨OW,H⟩:=H;have BH:=decide_eq_true OW;clear OW
         (first|rw [BH]|(simp only [bW,cA];rw [BH])|skip)
         replace H:=bS H;obtain ⟨t199,A27,H⟩:=H
         have H':=ak H
         clear H
         go_wp2_with (first|((with_reducible refine eW (f:=72) rfl ?_);refine l7 (some 57) rfl Tryz.func72 #[.slice Za (aN aU fc).length Ye] rfl ?_;(with_reducible refine (cS.calls k2 _ _ (aN aU fc) true _ ?side1 ?side2 A24.out).mono ?_);(case side1=>exact cd (Kd.aD ya.out HB.out));(case side2=>exact J3.out);rintro e w' ⟨rfl,⟨nd,rfl⟩⟩;refine ⟨_,rfl,?_⟩;have aeK:=an iQ;have V1:0≤(fc:Int):=da;have VN:fc<(bu.length:Int):=da;obtain ⟨aiO,ah2,ahE,ahh,CX,Jf,Jt⟩:=ke iy.out fc V1 VN;cases ahh;replace CX:=(HB.out.cell (World.block_lt_of_cell? w _ CX)).trans CX;have SO:=ak Jt;have SW:=ak Jf;clear Jt Jf;replace V1:=eq_true V1;replace VN:=eq_true VN)|(go_at_call 72;(with_reducible refine (cS.calls k2 _ _ (aN bu fc) t199 _ ?side1 ?side2 A27.out).mono ?_);(case side1=>exact cd (Kd.aD SO.out (az HB jL)));(case side2=>exact SW.out);rintro e w' ⟨rfl,⟨nd,rfl⟩⟩))
         go_meet
         case rel=>exact ⟨_,(!t199),er,H',⟨by have:=DV.out;have:=kg.out;first|omega|exact Nat.le_refl _⟩,⟨dm iQ⟩,⟨az HB jL⟩⟩
        ·replace BI:=Bool.eq_false_iff.mpr BI
         subst BI
         have H1:(ax.j2 k2 fc (aN aU fc) aU (aU.length:Int) fc true bn aU bu aM bR)=some r:=by rw [if_neg (show¬(false=true) by decide)] at H;exact H
         clear H
         have H:=H1
         clear H1
         have H':=ak H
         clear H
         go_wp2_with (first|(go_at_call 72;(with_reducible refine (cS.calls k2 _ _ (aN aU fc) false _ ?side1 ?side2 A24.out).mono ?_);(case side1=>exact cd (Kd.aD ya.out HB.out));(case side2=>exact J3.out);rintro e w' ⟨rfl,⟨nd,rfl⟩⟩))
         go_meet
         case rel=>exact ⟨_,(true),er,H',⟨by have:=DV.out;have:=kg.out;first|omega|exact Nat.le_refl _⟩,⟨dm iQ⟩,⟨az HB jL⟩⟩
       case rest=>
        clear Im;(try clear uK);(try clear BJ);(try clear sM);(try clear xM);(try clear Ri);(try clear Q8)
        obtain ⟨kq,Cc,rfl,HA,DU,iQ,HB⟩:=hcut
        cases kq with
        |zero=>exact absurd HA.out (by simp [ax.j2])
        |succ GO=>
         have H:=HA.out;clear HA
         simp only [ax.j2] at H
         by_cases D5:Cc=true
         ·subst D5
          have H1:(some false)=some r:=by rw [if_pos rfl] at H;exact H
          clear H
          have H:=H1
          clear H1
          obtain rfl:=Option.some.inj H
          go_wp2
          go_ret
          exact ⟨kK,az HB jL⟩
         ·replace D5:=Bool.eq_false_iff.mpr D5
          subst D5
          have H1:(ax.l1 GO fc aU (aU.length:Int) fc (aN aU fc) ((aN aU fc).length:Int) 0 bn aU bu aM bR)=some r:=by rw [if_neg (show¬(false=true) by decide)] at H;exact H
          clear H
          have H:=H1
          clear H1
          have H':=ak H
          clear H;go_wp2
          go_loopg [70] GO (fun kq v70 w'=>∃(n8:Int),v70= .int .i64 n8∧Aside0 (ax.l1 kq fc aU (aU.length:Int) fc (aN aU fc) ((aN aU fc).length:Int) n8 bn aU bu aM bR=some r)∧Aside0 (kq≤GO)∧Aside0 (w'.heap[EY]? =some (.cells #[(.slice fV bn.length fT),(.slice (some Um) aU.length fS),(.slice fU bu.length fR),(.slice gB aM.length fQ),.int .i64 bR] 27 (0,0)))∧Aside0 (Below w.heap.size w w'))
          case atStart=>exact ⟨(0),er,H',⟨Nat.le_refl _⟩,⟨dm iQ⟩,⟨az HB jL⟩⟩
          case round=>
           clear H'
           (try clear D5)
           obtain ⟨n8,rfl,HA,J1,iQ,HB⟩:=hrel
           cases gk with
           |zero=>exact absurd HA.out (by simp [ax.l1])
           |succ k4=>
            have H:=HA.out;clear HA
            simp only [ax.l1] at H
            by_cases FN:n8<((aN aU fc).length:Int)
            ·rw [if_pos FN] at H
             have OV:=decide_eq_true FN
             clear FN;replace H:=dy H;obtain ⟨zv,H⟩:=H;have wN:=decide_eq_true zv;clear zv;replace H:=dy H;obtain ⟨HZ,H⟩:=H;have BG:=decide_eq_true HZ;clear HZ;replace H:=dy H;obtain ⟨OU,H⟩:=H;have Uf:=decide_eq_true OU;clear OU;replace H:=dy H;obtain ⟨Ue,H⟩:=H;have Ud:=decide_eq_true Ue;clear Ue;replace H:=bS H;obtain ⟨t202,A35,H⟩:=H
             by_cases Mf:t202=true
             ·subst Mf
              have H1:(ax.l1 k4 fc aU (aU.length:Int) fc (aN aU fc) ((aN aU fc).length:Int) (wrap64 (n8+1)) bn aU bu aM bR)=some r:=by rw [if_pos rfl] at H;exact H
              clear H
              have H:=H1
              clear H1
              have H':=ak H
              clear H
              have Gz:0≤(n8:Int):=da
              have Gj:n8<((aN aU fc).length:Int):=da
              obtain ⟨acR,XM,pU⟩:=Kd.bq ya.out n8 Gz Gj
              cases XM
              replace pU:=(HB.out.cell (World.block_lt_of_cell? w _ pU)).trans pU
              replace Gz:=eq_true Gz;replace Gj:=eq_true Gj;have aeI:=an iQ
              have Gy:0≤(fc:Int):=da
              have Gi:fc<(bu.length:Int):=da
              obtain ⟨acQ,Y9,Yd,XL,pT,ur,uA⟩:=ke iy.out fc Gy Gi
              cases XL
              replace pT:=(HB.out.cell (World.block_lt_of_cell? w _ pT)).trans pT
              have DQ:=ak uA;have DW:=ak ur;clear uA ur;replace Gy:=eq_true Gy;replace Gi:=eq_true Gi
              go_wp2_with (first|(go_at_call 73;(with_reducible refine (cN.calls k4 _ _ (aN bu fc) (aQ ByteArray.empty (aN aU fc) n8) true _ ?side1 ?side2 A35.out).mono ?_);(case side1=>exact cd (Kd.aD DQ.out HB.out));(case side2=>exact DW.out);rintro e w' ⟨rfl,⟨nd,rfl⟩⟩))
              go_roundg k4
              case measure=>have:=DV.out;have:=kg.out;have:=DU.out;have:=J1.out;omega
              case rel=>exact ⟨(wrap64 (n8+1)),er,H',⟨by have:=DV.out;have:=kg.out;have:=DU.out;have:=J1.out;omega⟩,⟨dm iQ⟩,⟨az HB jL⟩⟩
             ·replace Mf:=Bool.eq_false_iff.mpr Mf
              subst Mf
              have H1:(some false)=some r:=by rw [if_neg (show¬(false=true) by decide)] at H;exact H
              clear H
              have H:=H1
              clear H1
              obtain rfl:=Option.some.inj H
              have Gz:0≤(n8:Int):=da
              have Gj:n8<((aN aU fc).length:Int):=da
              obtain ⟨acR,XM,pU⟩:=Kd.bq ya.out n8 Gz Gj
              cases XM
              replace pU:=(HB.out.cell (World.block_lt_of_cell? w _ pU)).trans pU
              replace Gz:=eq_true Gz;replace Gj:=eq_true Gj;have aeH:=an iQ
              have Gy:0≤(fc:Int):=da
              have Gi:fc<(bu.length:Int):=da
              obtain ⟨acQ,Y9,Yd,XL,pT,ur,uA⟩:=ke iy.out fc Gy Gi
              cases XL
              replace pT:=(HB.out.cell (World.block_lt_of_cell? w _ pT)).trans pT
              have DQ:=ak uA;have DW:=ak ur;clear uA ur;replace Gy:=eq_true Gy;replace Gi:=eq_true Gi
              go_wp2_with (first|(go_at_call 73;(with_reducible refine (cN.calls k4 _ _ (aN bu fc) (aQ ByteArray.empty (aN aU fc) n8) false _ ?side1 ?side2 A35.out).mono ?_);(case side1=>exact cd (Kd.aD DQ.out HB.out));(case side2=>exact DW.out);rintro e w' ⟨rfl,⟨nd,rfl⟩⟩))
              go_ret
              exact ⟨kK,az HB jL⟩
            ·rw [if_neg FN] at H
             have OV:=decide_eq_false FN
             clear FN
             have H':=ak H
             clear H;go_wp2
             go_roundg k4
             case measure=>have:=DV.out;have:=kg.out;have:=DU.out;have:=J1.out;omega
             case rel=>exact ⟨(wrap64 (fc+1)),er,H',⟨by have:=DV.out;have:=kg.out;have:=DU.out;have:=J1.out;omega⟩,⟨dm iQ⟩,⟨az HB jL⟩⟩
      ·rw [if_neg BK] at H
       have uK:=decide_eq_false BK
       clear BK
       have H':=ak H
       clear H;obtain ⟨Dp,Dn,Dm,Dl,Dk,C9,C8,C7,C6,C5⟩:=an iQ;go_wp2
       go_loopg [87] k2 (fun kq v87 w'=>∃(lF:Int),v87= .int .i64 lF∧Aside0 (ax.l2 kq aM (aM.length:Int) lF=some r)∧Aside0 (kq≤k2)∧Aside0 (w'.heap[EY]? =some (.cells #[(.slice fV bn.length fT),(.slice gv aU.length fS),(.slice fU bu.length fR),(.slice gB aM.length fQ),.int .i64 bR] 27 (0,0)))∧Aside0 (Below w.heap.size w w'))
       case atStart=>exact ⟨(0),er,H',⟨Nat.le_refl _⟩,⟨dm iQ⟩,⟨az HB jL⟩⟩
       case round=>
        clear H'
        (try clear uK);(try clear Dp);(try clear Dn);(try clear Dm);(try clear Dl);(try clear Dk);(try clear C9);(try clear C8);(try clear C7);(try clear C6);(try clear C5)
        obtain ⟨lF,rfl,HA,yd,iQ,HB⟩:=hrel
        cases gk with
        |zero=>exact absurd HA.out (by simp [ax.l2])
        |succ k3=>
         have H:=HA.out;clear HA
         simp only [ax.l2] at H
         by_cases DG:lF<(aM.length:Int)
         ·rw [if_pos DG] at H
          have JI:=decide_eq_true DG
          clear DG;replace H:=dy H;obtain ⟨c41,H⟩:=H;have Uc:=decide_eq_true c41;clear c41;replace H:=dy H;obtain ⟨SB,H⟩:=H;have OT:=decide_eq_true SB;clear SB
          by_cases Fh:((aN aM lF).length:Int)>60
          ·rw [if_pos Fh] at H
           have JH:=Ma Fh
           have Ub:decide (60<(aN aM lF).length)=true:=decide_eq_true (by omega)
           clear Fh
           obtain rfl:=Option.some.inj H
           have yK:0≤(lF:Int):=da
           have yI:lF<(aM.length:Int):=da
           obtain ⟨Ul,Qm,OZ,OB,lZ,ou,ow⟩:=ke iL.out lF yK yI
           cases OB
           replace lZ:=(HB.out.cell (World.block_lt_of_cell? w _ lZ)).trans lZ
           have xZ:=ak ow;have ye:=ak ou;clear ow ou;replace yK:=eq_true yK;replace yI:=eq_true yI;go_wp2
           go_ret
           exact ⟨kK,az HB jL⟩
          ·rw [if_neg Fh] at H
           have JH:=Mb Fh
           have Ub:decide (60<(aN aM lF).length)=false:=decide_eq_false (by omega)
           clear Fh;replace H:=bS H;obtain ⟨t204,A44,H⟩:=H
           by_cases Qr:t204=true
           ·subst Qr
            have H1:(some false)=some r:=by rw [if_pos rfl] at H;exact H
            clear H
            have H:=H1
            clear H1
            obtain rfl:=Option.some.inj H
            have yK:0≤(lF:Int):=da
            have yI:lF<(aM.length:Int):=da
            obtain ⟨Ul,Qm,OZ,OB,lZ,ou,ow⟩:=ke iL.out lF yK yI
            cases OB
            replace lZ:=(HB.out.cell (World.block_lt_of_cell? w _ lZ)).trans lZ
            have xZ:=ak ow;have ye:=ak ou;clear ow ou;replace yK:=eq_true yK;replace yI:=eq_true yI
            go_wp2_with (first|(go_at_call 74;(with_reducible refine (eD.calls k3 _ _ (aN aM lF) true _ ?side1 ?side2 A44.out).mono ?_);(case side1=>exact cd (Kd.aD xZ.out HB.out));(case side2=>exact ye.out);rintro e w' ⟨rfl,⟨nd,rfl⟩⟩))
            go_ret
            exact ⟨kK,az HB jL⟩
           ·replace Qr:=Bool.eq_false_iff.mpr Qr
            subst Qr
            have H1:(ax.l2 k3 aM (aM.length:Int) (wrap64 (lF+1)))=some r:=by rw [if_neg (show¬(false=true) by decide)] at H;exact H
            clear H
            have H:=H1
            clear H1
            have H':=ak H
            clear H
            have yK:0≤(lF:Int):=da
            have yI:lF<(aM.length:Int):=da
            obtain ⟨Ul,Qm,OZ,OB,lZ,ou,ow⟩:=ke iL.out lF yK yI
            cases OB
            replace lZ:=(HB.out.cell (World.block_lt_of_cell? w _ lZ)).trans lZ
            have xZ:=ak ow;have ye:=ak ou;clear ow ou;replace yK:=eq_true yK;replace yI:=eq_true yI
            go_wp2_with (first|(go_at_call 74;(with_reducible refine (eD.calls k3 _ _ (aN aM lF) false _ ?side1 ?side2 A44.out).mono ?_);(case side1=>exact cd (Kd.aD xZ.out HB.out));(case side2=>exact ye.out);rintro e w' ⟨rfl,⟨nd,rfl⟩⟩))
            go_roundg k3
            case measure=>have:=DV.out;have:=kg.out;have:=yd.out;omega
            case rel=>exact ⟨(wrap64 (lF+1)),er,H',⟨by have:=DV.out;have:=kg.out;have:=yd.out;omega⟩,⟨dm iQ⟩,⟨az HB jL⟩⟩
         ·rw [if_neg DG] at H
          have JI:=decide_eq_false DG
          clear DG
          obtain rfl:=Option.some.inj H
          go_wp2
          go_ret
          exact ⟨kK,az HB jL⟩
def cY.f (l0:List Int):Option (List Int):=(some (([]:List Int):List Int)).bind fun Ak=>(if Ak.length+l0.length<17592186044416 then (some (Ak++l0)) else (none))
theorem clonenil85 (w:World) (a:Option Addr) (m c m' c':Nat):(Go.binOp .eql 22 (.slice a m c) (.slice none m' c')).run Tryz.prog w= .ok (.bool a.isNone) w:=Go.Lib.run_eql_slice_nil w 22 3 a m c m' c' Tryz.underlying22
attribute [local go_sem high] clonenil85
theorem cY.tv (SH:Addr) (c0:Nat) (l0:List Int) (r:List Int) (w:World) (ff:Kd.C (Kd.int .i64) w (some SH) l0.length l0) (fL:l0.length≤c0) (h:cY.f l0=some r):
  Calls Tryz.prog 85 #[.slice (some SH) l0.length c0] w fun e w'=>∃lG:Value,e= .returned (lG)∧Kd.R (Kd.int .i64) 3 w' w.heap.size (fun _=>True) lG r∧Below w.heap.size w w':=by
 have fZ:=ak ff;have ki:=ak fL;clear ff fL
 have HB:=ak (Below.refl w.heap.size w)
 have H:((some (([]:List Int):List Int)).bind fun Ak=>(if Ak.length+l0.length<17592186044416 then (some (Ak++l0)) else (none)))=some r:=h
 clear h
 obtain ⟨Ak,ez⟩:∃y_:List Int,y_=(([]:List Int)):=⟨_,rfl⟩
 replace H:(if Ak.length+l0.length<17592186044416 then (some (Ak++l0)) else (none))=some r:=yH
 have UE:=ak ez;clear ez;replace H:=dy H;obtain ⟨c2,H⟩:=H;have Yw:=ak c2;clear c2
 obtain ⟨aeB,ez⟩:∃y_:List Int,y_=(Ak++l0):=⟨_,rfl⟩
 replace H:(some aeB)=some r:=yH
 have adp:=ak ez;clear ez
 obtain rfl:=Option.some.inj H
 go_enter Tryz.func85,Tryz.ntmps85
 go_wp2_with (first|((with_reducible refine av (N:=5) rfl ?_);refine Kd.gD (Kd.int .i64) _ 3 ?hg (N:=5) ?hd (xs:=([]:List Int)) (inner:=[]) (ok:=fun _=>True) (okp:=fun _=>True) ?hr ?hp (fun _ hk=>hk) trivial (Below.refl _ _) (Nat.le_refl _) (by simp) ?_;(case hd=>rfl);(case hg=>rfl);(case hr=>exact rZ);(case hp=>exact (bT.none _ _));intro v206 w3 N0 hb bK dP;clear bK dP;(first|rw [←UE.out] at N0|(simp only [Int.reduceToNat] at N0;rw [←UE.out] at N0));have UQ:=ak (Kd.dz N0 (aX (aq HB)));replace HB:=ak (aH (aq HB) hb);clear hb N0)|((with_reducible refine bw (b:= .append) (xs:= #[.tmp 5,.tmp 6]) rfl ?_);at_builtin;refine Kd.cH (Kd.int .i64) (w0:=w) w.heap.size rfl (.tmp 5) (.tmp 6) 22 3 (.int .i64 0) 8 rfl Tryz.underlying22 yX rfl (by decide) (by omega) v206 Ak l0 _ _ _ (fun _=>True) (fun _=>False) rfl rfl ?aO ?aR (fun _ _ h=>h) (fun _ h=>h.elim) ?aF ?aB ?aS ?aL ?_;(case aR=>exact cd (Kd.aD fZ.out HB.out));(case aB=>exact (aq HB));(case aF=>exact (fun _ _=>trivial));(case aO=>exact (dH UQ));(case aS=>exact (aX (aq HB)));(case aL=>have:=Yw.out;omega);intro ajr w5 ho hb hg eC;rw [←adp.out] at ho;replace HB:=ak (hb);have adW:=ak (ho);clear UQ;clear ho hb hg eC))
 go_ret
 exact ⟨_,kK,by (with_reducible repeat (first|apply Kd.cz|apply Kd.cy|apply Kd.cD));exact adW.out,aq HB⟩
theorem cY.calls (A0:Option Addr) (c0:Nat) (l0:List Int) (r:List Int) (w:World) (ff:Kd.C (Kd.int .i64) w A0 l0.length l0) (fL:l0.length≤c0) (h:cY.f l0=some r):
  Calls Tryz.prog 85 #[.slice A0 l0.length c0] w fun e w'=>∃lG:Value,e= .returned (lG)∧Kd.R (Kd.int .i64) 3 w' w.heap.size (fun _=>True) lG r∧Below w.heap.size w w':=by
 cases A0 with
 |some SH=>exact cY.tv SH c0 l0 r w ff fL h
 |none=>
  have hl:l0=[]:=by
   rcases Nat.eq_zero_or_pos l0.length with h0|h0
   ·exact List.eq_nil_of_length_eq_zero h0
   ·obtain ⟨ad,he,_⟩:=ff.2.2 h0
    cases he
  subst hl
  have hr:r=[]:=by
   have h':=h
   simp [cY.f] at h'
   first|exact h'.symm|exact h'
  subst hr;clear h ff fL
  go_enter Tryz.func85,Tryz.ntmps85
  go_wp2
  go_ret
  exact ⟨_,rfl,Kd.qo _ _ _ _ _,Below.refl _ _⟩
def bG.f (l0:List ByteArray):Option (List ByteArray):=(some (([]:List ByteArray):List ByteArray)).bind fun Aj=>(if Aj.length+l0.length<8796093022208 then (some (Aj++l0)) else (none))
theorem clonenil105 (w:World) (a:Option Addr) (m c m' c':Nat):(Go.binOp .eql 62 (.slice a m c) (.slice none m' c')).run Tryz.prog w= .ok (.bool a.isNone) w:=Go.Lib.run_eql_slice_nil w 62 9 a m c m' c' Tryz.underlying62
attribute [local go_sem high] clonenil105
theorem bG.tv (SH:Addr) (c0:Nat) (l0:List ByteArray) (r:List ByteArray) (w:World) (ff:Kd.C Kd.string w (some SH) l0.length l0) (fL:l0.length≤c0) (h:bG.f l0=some r):
  Calls Tryz.prog 105 #[.slice (some SH) l0.length c0] w fun e w'=>∃lG:Value,e= .returned (lG)∧Kd.R Kd.string 9 w' w.heap.size (fun _=>True) lG r∧Below w.heap.size w w':=by
 have fZ:=ak ff;have ki:=ak fL;clear ff fL
 have HB:=ak (Below.refl w.heap.size w)
 have H:((some (([]:List ByteArray):List ByteArray)).bind fun Aj=>(if Aj.length+l0.length<8796093022208 then (some (Aj++l0)) else (none)))=some r:=h
 clear h
 obtain ⟨Aj,ez⟩:∃y_:List ByteArray,y_=(([]:List ByteArray)):=⟨_,rfl⟩
 replace H:(if Aj.length+l0.length<8796093022208 then (some (Aj++l0)) else (none))=some r:=yH
 have UD:=ak ez;clear ez;replace H:=dy H;obtain ⟨c2,H⟩:=H;have Yw:=ak c2;clear c2
 obtain ⟨aeA,ez⟩:∃y_:List ByteArray,y_=(Aj++l0):=⟨_,rfl⟩
 replace H:(some aeA)=some r:=yH
 have ado:=ak ez;clear ez
 obtain rfl:=Option.some.inj H
 go_enter Tryz.func105,Tryz.ntmps105
 go_wp2_with (first|((with_reducible refine av (N:=5) rfl ?_);refine Kd.gD Kd.string _ 9 ?hg (N:=5) ?hd (xs:=([]:List ByteArray)) (inner:=[]) (ok:=fun _=>True) (okp:=fun _=>True) ?hr ?hp (fun _ hk=>hk) trivial (Below.refl _ _) (Nat.le_refl _) (by simp) ?_;(case hd=>rfl);(case hg=>rfl);(case hr=>exact rZ);(case hp=>exact (bT.none _ _));intro v212 w3 N0 hb bK dP;clear bK dP;(first|rw [←UD.out] at N0|(simp only [Int.reduceToNat] at N0;rw [←UD.out] at N0));have UP:=ak (Kd.dz N0 (aX (aq HB)));replace HB:=ak (aH (aq HB) hb);clear hb N0)|((with_reducible refine bw (b:= .append) (xs:= #[.tmp 5,.tmp 6]) rfl ?_);at_builtin;refine Kd.cH Kd.string (w0:=w) w.heap.size rfl (.tmp 5) (.tmp 6) 62 9 (.string ⟨#[]⟩) 16 rfl Tryz.underlying62 fu rfl (by decide) (by omega) v212 Aj l0 _ _ _ (fun _=>True) (fun _=>False) rfl rfl ?aO ?aR (fun _ _ h=>h) (fun _ h=>h.elim) ?aF ?aB ?aS ?aL ?_;(case aR=>exact cd (Kd.aD fZ.out HB.out));(case aB=>exact (aq HB));(case aF=>exact (fun _ _=>trivial));(case aO=>exact (dH UP));(case aS=>exact (aX (aq HB)));(case aL=>have:=Yw.out;omega);intro ajq w5 ho hb hg eC;rw [←ado.out] at ho;replace HB:=ak (hb);have adV:=ak (ho);clear UP;clear ho hb hg eC))
 go_ret
 exact ⟨_,kK,by (with_reducible repeat (first|apply Kd.cz|apply Kd.cy|apply Kd.cD));exact adV.out,aq HB⟩
theorem bG.calls (A0:Option Addr) (c0:Nat) (l0:List ByteArray) (r:List ByteArray) (w:World) (ff:Kd.C Kd.string w A0 l0.length l0) (fL:l0.length≤c0) (h:bG.f l0=some r):
  Calls Tryz.prog 105 #[.slice A0 l0.length c0] w fun e w'=>∃lG:Value,e= .returned (lG)∧Kd.R Kd.string 9 w' w.heap.size (fun _=>True) lG r∧Below w.heap.size w w':=by
 cases A0 with
 |some SH=>exact bG.tv SH c0 l0 r w ff fL h
 |none=>
  have hl:l0=[]:=by
   rcases Nat.eq_zero_or_pos l0.length with h0|h0
   ·exact List.eq_nil_of_length_eq_zero h0
   ·obtain ⟨ad,he,_⟩:=ff.2.2 h0
    cases he
  subst hl
  have hr:r=[]:=by
   have h':=h
   simp [bG.f] at h'
   first|exact h'.symm|exact h'
  subst hr;clear h ff fL
  go_enter Tryz.func105,Tryz.ntmps105
  go_wp2
  go_ret
  exact ⟨_,rfl,Kd.qo _ _ _ _ _,Below.refl _ _⟩
def dh.l0:Nat→List (List ByteArray)→List (List ByteArray)→Int→Int→Option ((List (List ByteArray)))
  |0,_,_,_,_=>none
  |k+1,x3,x7,x8,x9=>if x9<x8 then (if 0≤x9 then (if x9<(x7.length:Int) then ((bG.f (aN x7 x9)).bind fun t221=>(if x3.length<5864062014805 then (dh.l0 k (x3++[t221]) x7 x8 (wrap64 (x9+1))) else (none))) else (none)) else (none)) else (some x3)
def dh.f (k:Nat) (l0:List (List ByteArray)):Option ((List (List ByteArray))):=dh.l0 k (([]:List (List ByteArray))) l0 (l0.length:Int) 0
theorem dh.calls (k:Nat) (A0:Option Addr) (c0:Nat) (l0:List (List ByteArray)) (r:List (List ByteArray)) (w:World) (ff:Kd.C (Kd.slice 9 Kd.string) w A0 l0.length l0) (fL:l0.length≤c0) (h:dh.f k l0=some r):
  Calls Tryz.prog 91 #[.slice A0 l0.length c0] w fun e w'=>∃lG:Value,e= .returned (lG)∧Kd.S (Kd.slice 9 Kd.string) 62 w' w.heap.size (fun _=>True) lG r∧Below w.heap.size w w':=by
 have fZ:=ak ff;have ki:=ak fL;clear ff fL
 have HB:=ak (Below.refl w.heap.size w)
 have H:(dh.l0 k (([]:List (List ByteArray))) l0 (l0.length:Int) 0)=some r:=h
 clear h
 obtain ⟨Z3,ez⟩:∃y_:List (List ByteArray),y_=(([]:List (List ByteArray))):=⟨_,rfl⟩
 replace H:(dh.l0 k Z3 l0 (l0.length:Int) 0)=some r:=yH
 have UC:=ak ez;clear ez
 have H':=ak H
 clear H
 go_enter Tryz.func91,Tryz.ntmps91
 go_wp2_with (first|((with_reducible refine av (N:=6) rfl ?_);refine Kd.ac3 (Kd.slice 9 Kd.string) _ 62 ?hg (N:=6) ?hd (xs:=([]:List (List ByteArray))) (inner:=[]) (ok:=fun _=>True) (okp:=fun _=>True) ?hr ?hp (fun _ hk=>hk) trivial (Below.refl _ _) (Nat.le_refl _) (by simp) ?_;(case hd=>rfl);(case hg=>rfl);(case hr=>exact rZ);(case hp=>exact (bT.none _ _));intro v218 w2 TD hb bK dP;clear bK dP;(first|rw [←UC.out] at TD|(simp only [Int.reduceToNat] at TD;rw [←UC.out] at TD));have adU:=ak (Kd.DM TD (aX (aq HB)));replace HB:=ak (aH (aq HB) hb);clear hb TD))
 go_loopg [3,9] k (fun kq v3 v9 w'=>∃(ja:List (List ByteArray)) (hU:Int),v9= .int .i64 hU∧Aside0 (dh.l0 kq ja l0 (l0.length:Int) hU=some r)∧Aside0 (kq≤k)∧Aside0 (Kd.S (Kd.slice 9 Kd.string) 62 w' w.heap.size (fun _=>True) v3 ja)∧Aside0 (Below w.heap.size w w'))
 case atStart=>exact ⟨(Z3),(0),er,H',⟨Nat.le_refl _⟩,⟨sd adU⟩,⟨aq HB⟩⟩
 case round=>
  clear H'
  obtain ⟨ja,hU,rfl,HA,gf,eT,HB⟩:=hrel
  cases gk with
  |zero=>exact absurd HA.out (by simp [dh.l0])
  |succ k1=>
   have H:=HA.out;clear HA
   simp only [dh.l0] at H
   by_cases c4:hU<(l0.length:Int)
   ·rw [if_pos c4] at H
    have jn:=decide_eq_true c4
    clear c4;replace H:=dy H;obtain ⟨c5,H⟩:=H;have mh:=decide_eq_true c5;clear c5;replace H:=dy H;obtain ⟨c6,H⟩:=H;have kO:=decide_eq_true c6;clear c6;replace H:=bS H;obtain ⟨t221,A7,H⟩:=H
    replace H:=dy H;obtain ⟨c8,H⟩:=H;have Yu:=ak c8;clear c8
    obtain ⟨Z2,ez⟩:∃y_:List (List ByteArray),y_=(ja++[t221]):=⟨_,rfl⟩
    replace H:(dh.l0 k1 Z2 l0 (l0.length:Int) (wrap64 (hU+1)))=some r:=yH
    have adn:=ak ez;clear ez
    have H':=ak H
    clear H
    have V0:0≤(hU:Int):=da
    have VM:hU<(l0.length:Int):=da
    obtain ⟨aiN,ah1,ahC,ahg,CW,Je,Js⟩:=ke fZ.out hU V0 VM
    cases ahg
    replace CW:=(HB.out.cell (World.block_lt_of_cell? w _ CW)).trans CW
    have SN:=ak Js;have SV:=ak Je;clear Js Je;replace V0:=eq_true V0;replace VM:=eq_true VM
    go_wp2_with (first|(go_at_call 105;(with_reducible refine (bG.calls _ _ (aN l0 hU) t221 _ ?side1 ?side2 A7.out).mono ?_);(case side1=>exact cd (Kd.aD SN.out HB.out));(case side2=>exact SV.out);rintro e w9 ⟨v222,rfl,xh,hb⟩;replace eT:=ak (Kd.FB (sd eT) (Kd.j3 xh) hb);have JZ:=ak (Kd.dz xh (aX (aq HB)));replace HB:=ak (aH (aq HB) hb);(try clear hb);(try clear xh);obtain ⟨L4,LA,Ox⟩:=Kd.de JZ.out;subst Ox)|((with_reducible refine bw (b:= .append) (xs:= #[.tmp 13,.tmp 16]) rfl ?_);at_builtin;refine Kd.FC (Kd.slice 9 Kd.string) (w0:=w) w.heap.size rfl (.tmp 13) (.tmp 16) 23 62 (.slice none 0 0) 24 rfl Tryz.underlying23 GV rfl (by decide) (by omega) u3 ja t221 [.slice L4 t221.length LA] (fun _=>True) (fun k_=>some k_=(.slice L4 t221.length LA:Value).ownBlock) rfl rfl ?aP (fun k_ qz=>((Kd.bJ (ok':=fun k_=>((fun _=>True)) k_∧some k_≠(u3:Value).ownBlock) (Kd.uT (JZ.out) (Kd.xU eT.out) (by decide)) (fun k_ hk=>⟨trivial,hk.2⟩))).1 k_ qz.symm) ?aF ?aO ?aB ?aS ?aL ?_;(case aP=>exact Kd.UL (Kd.bJ (Kd.iN rfl (Kd.bJ (ok':=fun k_=>((fun _=>True)) k_∧some k_≠(u3:Value).ownBlock) (Kd.uT (JZ.out) (Kd.xU eT.out) (by decide)) (fun k_ hk=>⟨trivial,hk.2⟩))) (fun _ h_=>h_)));(case aB=>exact (aq HB));(case aF=>exact (fun _ _=>trivial));(case aO=>exact (by (with_reducible repeat (first|apply Kd.uR|apply Kd.uP|apply Kd.zQ));exact Kd.l8 eT.out (fun k_ hk=>⟨trivial,fun e_=>hk.2 e_⟩)));(case aS=>exact (aX (aq HB)));(case aL=>have:=Yu.out;omega);intro ajp w10 ho hb hg eC;rw [←adn.out] at ho;replace HB:=ak (hb);have adT:=ak (ho);clear eT JZ;clear ho hb hg eC))
    go_roundg k1
    case measure=>have:=gf.out;omega
    case rel=>exact ⟨(Z2),(wrap64 (hU+1)),er,H',⟨by have:=gf.out;omega⟩,⟨sd adT⟩,⟨aq HB⟩⟩
   ·rw [if_neg c4] at H
    have jn:=decide_eq_false c4
    clear c4
    obtain rfl:=Option.some.inj H
    go_wp2
    go_ret
    exact ⟨_,kK,by (with_reducible repeat (first|apply Kd.uR|apply Kd.uP|apply Kd.zQ));exact eT.out,aq HB⟩
def ep.T1:Bool×List (List Nat×List Nat):=(true,[([],[]),([0],[0]),([1],[1]),([],[]),([3],[3]),([4,2],[4]),([],[]),([6],[6]),([7,5],[7]),([],[]),([9],[9]),([10,8],[10]),([],[]),([12],[12]),([2,5,8,11,13],[2,5,8,11,13]),([14,11,0,1,2,3,4,5,6,7,8,9,10,11,12,13,14],[14])])
def ep.B1:List Nat:=[0,1,3,0,8,31,0,64,255,0,512,2047,0,4096,16383,32767]
theorem ep.FY:gz .any (opsOf Tryz.f55 1)=ep.T1:=by kernel_rfl
theorem ep.zK:dZ ep.T1.2 ep.B1=true:=by kernel_rfl
def ep.f (k:Nat) (n:Nt):Option Nt:=(cY.f n.ks).bind fun t0=>(dh.f k n.ps).bind fun t1=>(dh.f k n.ss).bind fun t2=>(dh.f k n.ib).bind fun t3=>some ⟨t0,t1,t2,t3,n.sd⟩
theorem ep.calls {k:Nat} {v0 v1 v2 v3:Value} {n r:Nt} {w:World} (hn:NC w v0 v1 v2 v3 n) (h:ep.f k n=some r):
    Calls Tryz.prog 55 #[.agg #[v0,v1,v2,v3,.int .i64 n.sd]] w (uX w r):=by
 obtain ⟨A0,c0,A1,c1,A2,c2,A3,c3,⟨rfl,rfl,rfl,rfl⟩,⟨x0,y0⟩,⟨x1,y1⟩,⟨x2,y2⟩,⟨x3,y3⟩⟩:=hn
 have X0:=ak x0;have X1:=ak x1;have X2:=ak x2;have X3:=ak x3;have Y0:=ak y0;have Y1:=ak y1;have Y2:=ak y2;have Y3:=ak y3
 clear x0 x1 x2 x3 y0 y1 y2 y3
 obtain ⟨ks,ps,ss,ib,sd⟩:=n
 dsimp only at X0 X1 X2 X3 Y0 Y1 Y2 Y3⊢
 have lg:=Tryz.underlying27
 have HS:=Sep.nil w
 unfold ep.f at h
 dsimp only at h
 replace h:=bS h;obtain ⟨t0,T0,h⟩:=h
 replace h:=bS h;obtain ⟨t1,T1,h⟩:=h
 replace h:=bS h;obtain ⟨t2,T2,h⟩:=h
 replace h:=bS h;obtain ⟨t3,T3,h⟩:=h
 obtain rfl:=Option.some.inj h
 clear h
 go_enter Tryz.func55,Tryz.ntmps55
 go_upto_region 1 with (first|((with_reducible refine av (N:=1) rfl ?_);refine bN 1 #[.slice A0 ks.length c0,.slice A1 ps.length c1,.slice A2 ss.length c2,.slice A3 ib.length c3,.int .i64 sd] 27 ?_;intro b1 bK W_ bD aW;replace HS:=HS.box bK bD aW;clear bK bD aW;have fY:=an (HS.aI 0))|((with_reducible refine av (N:=2) rfl ?_);refine bN 2 #[.slice none 0 0,.slice none 0 0,.slice none 0 0,.slice none 0 0,.int .i64 0] 27 ?_;intro b2 bK W_ bD aW;replace HS:=HS.box bK bD aW;clear bK bD aW;clear fY;have cJ:=an (HS.aI 0);clear cJ;have cJ:=an (HS.aI 0);have fY:=an (HS.aI 1)))
 clear cJ fY
 have fY:=an (HS.aI 1)
 refine dV (n:=16) (S:=fun w'=>w'.cell? ⟨b1,0,none⟩=some (.slice A0 ks.length c0)∧w'.cell? ⟨b1,1,none⟩=some (.slice A1 ps.length c1)∧w'.cell? ⟨b1,2,none⟩=some (.slice A2 ss.length c2)∧w'.cell? ⟨b1,3,none⟩=some (.slice A3 ib.length c3)∧w'.cell? ⟨b1,4,none⟩=some (.int .i64 sd)) (ds:=[]) (bl 16 0) (by kernel_rfl) rfl rfl ⟨fY.1,fY.2.1,fY.2.2.1,fY.2.2.2.1,fY.2.2.2.2.1⟩ (fun ah=> ?_);refine bZ ep.FY ep.zK (fun aA ef=> ?_)
 clear fY
 replace HS:=HS.drew
 generalize World.drew _=tD at HS ah⊢
 refine ag 0 (some 3) 16 1 aA ?_
 refine cg 1 (some 4) 16 3 aA ef ah ?_ (hy:=by rintro w' ⟨s0,s1,s2,s3,s4⟩;go_simp;with_reducible rfl)
 refine ag 3 (some 6) 16 11 aA ?_
 refine cg 4 (some 7) 16 27 aA ef ah ?_ (hy:=by rintro w' ⟨s0,s1,s2,s3,s4⟩;go_simp;with_reducible rfl)
 refine ag 6 (some 9) 16 91 aA ?_
 refine cg 7 (some 10) 16 219 aA ef ah ?_ (hy:=by rintro w' ⟨s0,s1,s2,s3,s4⟩;go_simp;with_reducible rfl)
 refine ag 9 (some 12) 16 731 aA ?_
 refine cg 10 (some 13) 16 1755 aA ef ah ?_ (hy:=by rintro w' ⟨s0,s1,s2,s3,s4⟩;go_simp;with_reducible rfl)
 refine ag 12 (some 15) 16 5851 aA ?_
 refine cg 13 (some 16) 16 14043 aA ef ah ?_ (hy:=by rintro w' ⟨s0,s1,s2,s3,s4⟩;go_simp;with_reducible rfl)
 refine fJ 2 (some 5) 16 14047 aA (fun K hK=> ?_)
 refine fM Tryz.func85 (by kernel_rfl) rfl #[.slice A0 ks.length c0] (by rfl) rfl rfl (by (try simp only [List.map_toArray,List.map_cons,List.map_nil]);first|done|rfl) ?_
 have cE:=cY.calls _ _ ks t0 _ (Kd.aD X0.out HS.base) Y0.out T0.out
 refine cE.mono ?_
 clear cE ah
 rintro e W_ ⟨u0,rfl,bD,aW⟩
 refine ⟨_,rfl,?_⟩
 replace HS:=HS.new (A:=rA KI 3 u0 t0) aW bD
 obtain ⟨B0,d0,rfl⟩:=HS.lz 0
 clear bD aW
 have fY:=an (HS.aI 2)
 refine hK.out _ _ ⟨fY.1,fY.2.1,fY.2.2.1,fY.2.2.2.1,fY.2.2.2.2.1⟩ (fun ah=> ?_)
 clear hK K fY
 refine cM (a':= ?_) ?_ ?_
 rotate_left
 ·show Act.put _ (some 5) _=_
  simp only [Act.put,List.setIfInBounds_toArray,List.set_cons_zero,List.set_cons_succ,bW,cA]
  rfl
 refine fJ 5 (some 8) 16 14079 aA (fun K hK=> ?_)
 refine fM Tryz.func91 (by kernel_rfl) rfl #[.slice A1 ps.length c1] (by rfl) rfl rfl (by (try simp only [List.map_toArray,List.map_cons,List.map_nil]);first|done|rfl) ?_
 have cE:=dh.calls k _ _ ps t1 _ (Kd.aD X1.out HS.base) Y1.out T1.out
 refine cE.mono ?_
 clear cE ah
 rintro e W_ ⟨u1,rfl,bD,aW⟩
 refine ⟨_,rfl,?_⟩
 replace HS:=HS.new (A:=sA KT 62 u1 t1) aW bD
 obtain ⟨B1,d1,rfl⟩:=HS.gY 0
 clear bD aW
 have fY:=an (HS.aI 3)
 refine hK.out _ _ ⟨fY.1,fY.2.1,fY.2.2.1,fY.2.2.2.1,fY.2.2.2.2.1⟩ (fun ah=> ?_)
 clear hK K fY
 refine cM (a':= ?_) ?_ ?_
 rotate_left
 ·show Act.put _ (some 8) _=_
  simp only [Act.put,List.setIfInBounds_toArray,List.set_cons_zero,List.set_cons_succ,bW,cA]
  rfl
 refine fJ 8 (some 11) 16 14335 aA (fun K hK=> ?_)
 refine fM Tryz.func91 (by kernel_rfl) rfl #[.slice A2 ss.length c2] (by rfl) rfl rfl (by (try simp only [List.map_toArray,List.map_cons,List.map_nil]);first|done|rfl) ?_
 have cE:=dh.calls k _ _ ss t2 _ (Kd.aD X2.out HS.base) Y2.out T2.out
 refine cE.mono ?_
 clear cE ah
 rintro e W_ ⟨u2,rfl,bD,aW⟩
 refine ⟨_,rfl,?_⟩
 replace HS:=HS.new (A:=sA KT 62 u2 t2) aW bD
 obtain ⟨B2,d2,rfl⟩:=HS.gY 0
 clear bD aW
 have fY:=an (HS.aI 4)
 refine hK.out _ _ ⟨fY.1,fY.2.1,fY.2.2.1,fY.2.2.2.1,fY.2.2.2.2.1⟩ (fun ah=> ?_)
 clear hK K fY
 refine cM (a':= ?_) ?_ ?_
 rotate_left
 ·show Act.put _ (some 11) _=_
  simp only [Act.put,List.setIfInBounds_toArray,List.set_cons_zero,List.set_cons_succ,bW,cA]
  rfl
 refine fJ 11 (some 14) 16 16383 aA (fun K hK=> ?_)
 refine fM Tryz.func91 (by kernel_rfl) rfl #[.slice A3 ib.length c3] (by rfl) rfl rfl (by (try simp only [List.map_toArray,List.map_cons,List.map_nil]);first|done|rfl) ?_
 have cE:=dh.calls k _ _ ib t3 _ (Kd.aD X3.out HS.base) Y3.out T3.out
 refine cE.mono ?_
 clear cE ah
 rintro e W_ ⟨u3,rfl,bD,aW⟩
 refine ⟨_,rfl,?_⟩
 replace HS:=HS.new (A:=sA KT 62 u3 t3) aW bD
 obtain ⟨B3,d3,rfl⟩:=HS.gY 0
 clear bD aW
 have fY:=an (HS.aI 5)
 refine hK.out _ _ ⟨fY.1,fY.2.1,fY.2.2.1,fY.2.2.2.1,fY.2.2.2.2.1⟩ (fun ah=> ?_)
 clear hK K fY
 refine cM (a':= ?_) ?_ ?_
 rotate_left
 ·show Act.put _ (some 14) _=_
  simp only [Act.put,List.setIfInBounds_toArray,List.set_cons_zero,List.set_cons_succ,bW,cA]
  rfl
 refine ag 14 (some 17) 16 32767 aA ?_
 refine fJ 15 none 16 65535 aA (fun K hK=> ?_)
 clear ah
 have cJ:=an (HS.aI 4)
 refine jV (w1:= ?_) (by rfl) rfl ?_ ?_
 rotate_left
 ·go_simp
  rfl
 replace HS:=(((((HS.cq 4 0 (.slice B0 t0.length d0) #[.slice B0 t0.length d0,.slice none 0 0,.slice none 0 0,.slice none 0 0,.int .i64 0]).cq 4 1 (.slice B1 t1.length d1) #[.slice B0 t0.length d0,.slice B1 t1.length d1,.slice none 0 0,.slice none 0 0,.int .i64 0]).cq 4 2 (.slice B2 t2.length d2) #[.slice B0 t0.length d0,.slice B1 t1.length d1,.slice B2 t2.length d2,.slice none 0 0,.int .i64 0]).cq 4 3 (.slice B3 t3.length d3) #[.slice B0 t0.length d0,.slice B1 t1.length d1,.slice B2 t2.length d2,.slice B3 t3.length d3,.int .i64 0]).cq 4 4 (.int .i64 sd) #[.slice B0 t0.length d0,.slice B1 t1.length d1,.slice B2 t2.length d2,.slice B3 t3.length d3,.int .i64 sd])
 clear cJ
 have fY:=an (HS.aI 5)
 refine hK.out _ _ ⟨fY.1,fY.2.1,fY.2.2.1,fY.2.2.2.1,fY.2.2.2.2.1⟩ (fun ah=> ?_)
 clear hK K fY
 refine eZ (cV aA.out (by kernel_rfl)) ?_
 clear aA ef ah
 go_wp2
 refine bodyPost_ret (results_cell_row rfl _ _ b2 27 #[.slice B0 t0.length d0,.slice B1 t1.length d1,.slice B2 t2.length d2,.slice B3 t3.length d3,.int .i64 sd] (0,0) _ rfl (by exact (HS.aI 4).out) Tryz.underlying27 rfl (by kernel_rfl)) rfl ?_
 exact ⟨_,_,_,_,rfl,(HS.sel [3,2,1,0]).abH,HS.base⟩
def eg.f (a0:ByteArray):Option (Bool):=some (a0.toList !=a0.toList)
theorem eg.calls (a0:ByteArray) (r:Bool) (w:World) (h:eg.f a0=some r):
  Calls Tryz.prog 165 #[.string a0] w fun e w'=>e= .returned (.bool r)∧cQ w w':=by
 have H:(some (a0.toList !=a0.toList))=some r:=h
 clear h
 obtain rfl:=Option.some.inj H
 go_enter Tryz.func165,Tryz.ntmps165
 go_wp2
 go_ret
 exact ⟨er,gV⟩
def fD.f (a0:ByteArray) (a1:ByteArray):Option (Bool):=(eg.f a0).bind fun t227=>(if t227=true then ((eg.f a1).bind fun t228=>(if t228=true then (some (Op.bytesLess a0.toList a1.toList)) else (some true))) else (some (Op.bytesLess a0.toList a1.toList)))
theorem fD.calls (a0:ByteArray) (a1:ByteArray) (r:Bool) (w:World) (h:fD.f a0 a1=some r):
  Calls Tryz.prog 149 #[.string a0,.string a1] w fun e w'=>e= .returned (.bool r)∧cQ w w':=by
 have H:((eg.f a0).bind fun t227=>(if t227=true then ((eg.f a1).bind fun t228=>(if t228=true then (some (Op.bytesLess a0.toList a1.toList)) else (some true))) else (some (Op.bytesLess a0.toList a1.toList))))=some r:=h
 clear h;replace H:=bS H;obtain ⟨t227,A3,H⟩:=H
 by_cases c4:t227=true
 ·subst c4
  have H1:((eg.f a1).bind fun t228=>(if t228=true then (some (Op.bytesLess a0.toList a1.toList)) else (some true)))=some r:=by rw [if_pos rfl] at H;exact H
  clear H
  have H:=H1
  clear H1;replace H:=bS H;obtain ⟨t228,A5,H⟩:=H
  by_cases c6:t228=true
  ·subst c6
   have H1:(some (Op.bytesLess a0.toList a1.toList))=some r:=by rw [if_pos rfl] at H;exact H
   clear H
   have H:=H1
   clear H1
   obtain rfl:=Option.some.inj H
   go_enter Tryz.func149,Tryz.ntmps149
   go_wp2_with (first|((with_reducible refine eW (f:=165) rfl ?_);refine l7 (some 6) rfl Tryz.func165 #[.string a0] rfl ?_;(with_reducible refine (eg.calls a0 true _ A3.out).mono ?_);rintro e w' ⟨rfl,⟨nd,rfl⟩⟩;refine ⟨_,rfl,?_⟩)|(go_at_call 165;(with_reducible refine (eg.calls a1 true _ A5.out).mono ?_);rintro e w' ⟨rfl,⟨nd,rfl⟩⟩))
   go_ret
   exact ⟨er,gV⟩
  ·replace c6:=Bool.eq_false_iff.mpr c6
   subst c6
   have H1:(some true)=some r:=by rw [if_neg (show¬(false=true) by decide)] at H;exact H
   clear H
   have H:=H1
   clear H1
   obtain rfl:=Option.some.inj H
   go_enter Tryz.func149,Tryz.ntmps149
   go_wp2_with (first|((with_reducible refine eW (f:=165) rfl ?_);refine l7 (some 6) rfl Tryz.func165 #[.string a0] rfl ?_;(with_reducible refine (eg.calls a0 true _ A3.out).mono ?_);rintro e w' ⟨rfl,⟨nd,rfl⟩⟩;refine ⟨_,rfl,?_⟩)|(go_at_call 165;(with_reducible refine (eg.calls a1 false _ A5.out).mono ?_);rintro e w' ⟨rfl,⟨nd,rfl⟩⟩))
   go_ret
   exact ⟨er,gV⟩
 ·replace c4:=Bool.eq_false_iff.mpr c4
  subst c4
  have H1:(some (Op.bytesLess a0.toList a1.toList))=some r:=by rw [if_neg (show¬(false=true) by decide)] at H;exact H
  clear H
  have H:=H1
  clear H1
  obtain rfl:=Option.some.inj H
  go_enter Tryz.func149,Tryz.ntmps149
  go_wp2_with (first|(go_at_call 165;(with_reducible refine (eg.calls a0 false _ A3.out).mono ?_);rintro e w' ⟨rfl,⟨nd,rfl⟩⟩))
  go_ret
  exact ⟨er,gV⟩
def ey.f (a0:ByteArray):Option (Bool):=some (a0.toList !=a0.toList)
theorem ey.calls (a0:ByteArray) (r:Bool) (w:World) (h:ey.f a0=some r):
  Calls Tryz.prog 150 #[.string a0] w fun e w'=>e= .returned (.bool r)∧cQ w w':=by
 have H:(some (a0.toList !=a0.toList))=some r:=h
 clear h
 obtain rfl:=Option.some.inj H
 go_enter Tryz.func150,Tryz.ntmps150
 go_wp2
 go_ret
 exact ⟨er,gV⟩
end Go.Proofs.YtihekdlcfohkkaaGreatDoor.QFnNets
