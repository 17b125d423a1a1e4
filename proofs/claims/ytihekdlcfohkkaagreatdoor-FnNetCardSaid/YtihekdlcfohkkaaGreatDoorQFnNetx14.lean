-- printed by this session's own program (wip/tools/pp.py: the kit's print.py with changes); Lean checks it
import Derived.Test.YtihekdlcfohkkaaGreatDoorQFnNetx0
import Derived.Test.YtihekdlcfohkkaaGreatDoorQFnNetx1
import Derived.Test.YtihekdlcfohkkaaGreatDoorQFnNetx2
import Derived.Test.YtihekdlcfohkkaaGreatDoorQFnNetx3
import Derived.Test.YtihekdlcfohkkaaGreatDoorQFnNetx8
import Derived.Test.YtihekdlcfohkkaaGreatDoorQFnNetx10
import Derived.Test.YtihekdlcfohkkaaGreatDoorQFnNetx11
import Derived.Test.YtihekdlcfohkkaaGreatDoorQFnNetx12
import Derived.Test.YtihekdlcfohkkaaGreatDoorQFnNetx13
namespace Go.Proofs.YtihekdlcfohkkaaGreatDoor.QFnNet
open Go.RowKit Go.Proofs.YtihekdlcfohkkaaGreatDoorW.PrintWords Go.Proofs.YtihekdlcfohkkaaGreatDoorW.PrintLast Go.Proofs.YtihekdlcfohkkaaGreatDoorW.PrintMore
attribute [local go_sem] max2_int min2_int max_two min_two max_three min_three max_four min_four strLss strGtr strLeq strGeq
set_option linter.unusedVariables false
set_option linter.unusedSimpArgs false
set_option maxHeartbeats 16000000
set_option maxRecDepth 100000
mutual
def ah.l0:Nat→List ByteArray→Int→Int→Int→Int→Option (List ByteArray)
  |0,_,_,_,_,_=>none
  |k+1,x0,x1,x6,x7,x8=>if x8≤x1 then ((af.f k x0 x7 x8).bind fun Oj=>(ah.l0 k Oj x1 x6 x8 (wrap64 (x8+x6)))) else ((af.f k x0 x7 x1).bind fun Oi=>(ah.l1 k Oi x1 x6))
def ah.l1:Nat→List ByteArray→Int→Int→Option (List ByteArray)
  |0,_,_,_=>none
  |k+1,x0,x1,x6=>if x6<x1 then (ah.l2 k x0 x1 x6 0 (wrap64 (2*x6))) else (some x0)
def ah.l2:Nat→List ByteArray→Int→Int→Int→Int→Option (List ByteArray)
  |0,_,_,_,_,_=>none
  |k+1,x0,x1,x6,x7,x8=>if x8≤x1 then ((aa.f k x0 x7 (wrap64 (x7+x6)) x8).bind fun Oh=>(ah.l2 k Oh x1 x6 x8 (wrap64 (x8+(wrap64 (2*x6)))))) else (if (wrap64 (x7+x6))<x1 then ((aa.f k x0 x7 (wrap64 (x7+x6)) x1).bind fun Og=>(ah.l1 k Og x1 (wrap64 (x6*2)))) else (ah.l1 k x0 x1 (wrap64 (x6*2))))
end
def ah.f (k:Nat) (l0:List ByteArray) (a1:Int):Option (List ByteArray):=ah.l0 k l0 a1 20 0 20
theorem ah.calls (k:Nat) (iM:Nat→Prop) (ej:Value) (l0:List ByteArray) (a1:Int) (r:List ByteArray) (w0 w:World) (hB:Below w0.heap.size w0 w) (uE:Kd.R Kd.string 9 w w0.heap.size iM ej l0) (h:ah.f k l0 a1=some r):
  Calls Tryz.prog 120 #[ej,.int .i64 a1,.func (.func 107) #[] #[]] w fun e w'=>e= .returned (.tuple #[])∧Kd.R Kd.string 9 w' w0.heap.size (fun k_=>(iM k_∨w.heap.size≤k_)) ej r∧Below w0.heap.size w0 w'∧Kept w w' (fun k_=>iM k_):=by
 have Cm:=ak (show Kd.R Kd.string 9 w w0.heap.size (fun k_=>(iM k_∨w.heap.size≤k_)) ej l0 from Kd.bF uE (fun k_ hk=>(.inl hk)))
 have HK:=ak (Kept.refl w (fun k_=>iM k_))
 have Iw:=ak hB.size
 have HB:=ak hB;clear hB
 have H:(ah.l0 k l0 a1 20 0 20)=some r:=h
 clear h
 have H':=ak H
 clear H
 go_enter Tryz.func120,Tryz.ntmps120
 go_wp2
 go_loopg [7,8] k (fun kq v7 v8 w'=>∃(gD:List ByteArray) (de:Int) (cO:Int),v7= .int .i64 de∧v8= .int .i64 cO∧Aside0 (ah.l0 kq gD a1 20 de cO=some r)∧Aside0 (kq≤k)∧Aside0 (Kd.R Kd.string 9 w' w0.heap.size (fun k_=>(iM k_∨w.heap.size≤k_)) ej gD)∧Aside0 (Kept w w' (fun k_=>iM k_))∧Aside0 (Below w0.heap.size w0 w'))
 case atStart=>exact ⟨(l0),(0),(20),er,er,H',⟨Nat.le_refl _⟩,⟨fy Cm⟩,⟨kY HK⟩,⟨ai HB⟩⟩
 case round=>
  clear H'
  obtain ⟨gD,de,cO,rfl,rfl,HA,fP,bz,HK,HB⟩:=hrel
  cases gk with
  |zero=>exact absurd HA.out (by simp [ah.l0])
  |succ k1=>
   have H:=HA.out;clear HA
   simp only [ah.l0] at H
   by_cases c4:cO≤a1
   ·rw [if_pos c4] at H
    have iI:=decide_eq_true c4
    clear c4;replace H:=bS H;obtain ⟨Oj,A5,H⟩:=H
    have H':=ak H
    clear H
    obtain ⟨Ao6,co6,eo6⟩:=Kd.dc bz.out
    subst eo6
    go_wp2_with (first|(go_at_call 135;(with_reducible refine (af.calls k1 (fun k_=>some k_=(.slice Ao6 gD.length co6:Value).ownBlock) (.slice Ao6 gD.length co6) gD de cO Oj w0 _ ?side1 ?side2 A5.out).mono ?_);(case side1=>exact ai HB);(case side2=>exact Kd.iu rfl bz.out);rintro e w7 ⟨rfl,nK,hb,n5⟩;replace HK:=ak (Kept.mj (S:=(fun k_=>iM k_)) (kY HK) n5 (fun k_ rE=>(fun e_=>(bz.out.1 k_ e_.symm)) rE));replace bz:=ak (Kd.kT rfl nK (fun k_ e_=>bz.out.1 k_ e_));replace HB:=ak (hb);(try clear hb);(try clear n5);(try clear nK)))
    go_roundg k1
    case measure=>have:=fP.out;omega
    case rel=>exact ⟨(Oj),(cO),(wrap64 (cO+20)),er,er,H',⟨by have:=fP.out;omega⟩,⟨fy bz⟩,⟨kY HK⟩,⟨ai HB⟩⟩
   ·rw [if_neg c4] at H
    have iI:=decide_eq_false c4
    clear c4;replace H:=bS H;obtain ⟨Oi,A8,H⟩:=H
    have H':=ak H
    clear H
    obtain ⟨Sl,Rm,eo9⟩:=Kd.dc bz.out
    subst eo9
    go_wp2_with (first|(go_at_call 135;(with_reducible refine (af.calls k1 (fun k_=>some k_=(.slice Sl gD.length Rm:Value).ownBlock) (.slice Sl gD.length Rm) gD de a1 Oi w0 _ ?side1 ?side2 A8.out).mono ?_);(case side1=>exact ai HB);(case side2=>exact Kd.iu rfl bz.out);rintro e W5 ⟨rfl,nK,hb,n5⟩;replace HK:=ak (Kept.mj (S:=(fun k_=>iM k_)) (kY HK) n5 (fun k_ rE=>(fun e_=>(bz.out.1 k_ e_.symm)) rE));replace bz:=ak (Kd.kT rfl nK (fun k_ e_=>bz.out.1 k_ e_));replace HB:=ak (hb);(try clear hb);(try clear n5);(try clear nK)))
    (try simp only [Act.put,List.setIfInBounds_toArray,List.set_cons_zero,List.set_cons_succ])
    go_loopg [6] k1 (fun kq v6 w'=>∃(eN:List ByteArray) (vR:Int),v6= .int .i64 vR∧Aside0 (ah.l1 kq eN a1 vR=some r)∧Aside0 (kq≤k1)∧Aside0 (Kd.R Kd.string 9 w' w0.heap.size (fun k_=>(iM k_∨w.heap.size≤k_)) (.slice Sl gD.length Rm) eN)∧Aside0 (Kept w w' (fun k_=>iM k_))∧Aside0 (Below w0.heap.size w0 w'))
    case atStart=>exact ⟨(Oi),(20),er,H',⟨Nat.le_refl _⟩,⟨fy bz⟩,⟨kY HK⟩,⟨ai HB⟩⟩
    case round=>
     clear H'
     (try clear iI)
     obtain ⟨eN,vR,rfl,HA,jj,bz,HK,HB⟩:=hrel
     have tP:=(Kd.bL bz.out).1
     rw [tP] at bz
     (try simp only [tP])
     cases gk with
     |zero=>exact absurd HA.out (by simp [ah.l1])
     |succ k2=>
      have H:=HA.out;clear HA
      simp only [ah.l1] at H
      by_cases lp:vR<a1
      ·rw [if_pos lp] at H
       have lW:=decide_eq_true lp
       clear lp
       have H':=ak H
       clear H;go_wp2
       go_loopg [7,8] k2 (fun kq v7 v8 w'=>∃(yV:List ByteArray) (CD:Int) (Eh:Int),v7= .int .i64 CD∧v8= .int .i64 Eh∧Aside0 (ah.l2 kq yV a1 vR CD Eh=some r)∧Aside0 (kq≤k2)∧Aside0 (Kd.R Kd.string 9 w' w0.heap.size (fun k_=>(iM k_∨w.heap.size≤k_)) (.slice Sl eN.length Rm) yV)∧Aside0 (Kept w w' (fun k_=>iM k_))∧Aside0 (Below w0.heap.size w0 w'))
       case atStart=>exact ⟨(eN),(0),(wrap64 (2*vR)),er,er,H',⟨Nat.le_refl _⟩,⟨by (try simp only [tP]);(with_reducible repeat (first|apply Kd.cu|apply Kd.ct|apply Kd.cy));exact bz.out⟩,⟨kY HK⟩,⟨ai HB⟩⟩
       case round=>
        clear H'
        (try clear lW)
        obtain ⟨yV,CD,Eh,rfl,rfl,HA,IC,bz,HK,HB⟩:=hrel
        have vK:=(Kd.bL bz.out).1
        rw [vK] at bz
        (try simp only [vK])
        cases gk with
        |zero=>exact absurd HA.out (by simp [ah.l2])
        |succ k3=>
         have H:=HA.out;clear HA
         simp only [ah.l2] at H
         by_cases nL:Eh≤a1
         ·rw [if_pos nL] at H
          have pU:=decide_eq_true nL
          clear nL;replace H:=bS H;obtain ⟨Oh,rC,H⟩:=H
          have H':=ak H
          clear H
          go_wp2_with (first|(go_at_call 136;(with_reducible refine (aa.calls k3 (fun k_=>some k_=(.slice Sl yV.length Rm:Value).ownBlock) (.slice Sl yV.length Rm) yV CD (wrap64 (CD+vR)) Eh Oh w0 _ ?side1 ?side2 rC.out).mono ?_);(case side1=>exact ai HB);(case side2=>exact Kd.iu rfl bz.out);rintro e w14 ⟨rfl,nK,hb,n5⟩;replace HK:=ak (Kept.mj (S:=(fun k_=>iM k_)) (kY HK) n5 (fun k_ rE=>(fun e_=>(bz.out.1 k_ e_.symm)) rE));replace bz:=ak (Kd.kT rfl nK (fun k_ e_=>bz.out.1 k_ e_));replace HB:=ak (hb);(try clear hb);(try clear n5);(try clear nK)))
          (try simp only [←vK])
          go_roundg k3
          case measure=>have:=fP.out;have:=jj.out;have:=IC.out;omega
          case rel=>exact ⟨(Oh),(Eh),(wrap64 (Eh+(wrap64 (2*vR)))),er,er,H',⟨by have:=fP.out;have:=jj.out;have:=IC.out;omega⟩,⟨by (try simp only [tP]);(try simp only [vK]);(with_reducible repeat (first|apply Kd.cu|apply Kd.ct|apply Kd.cy));exact bz.out⟩,⟨kY HK⟩,⟨ai HB⟩⟩
         ·rw [if_neg nL] at H
          have pU:=decide_eq_false nL
          clear nL
          by_cases rB:(wrap64 (CD+vR))<a1
          ·rw [if_pos rB] at H
           have ue:=decide_eq_true rB
           clear rB;replace H:=bS H;obtain ⟨Og,A16,H⟩:=H
           have H':=ak H
           clear H
           go_wp2_with (first|(go_at_call 136;(with_reducible refine (aa.calls k3 (fun k_=>some k_=(.slice Sl yV.length Rm:Value).ownBlock) (.slice Sl yV.length Rm) yV CD (wrap64 (CD+vR)) a1 Og w0 _ ?side1 ?side2 A16.out).mono ?_);(case side1=>exact ai HB);(case side2=>exact Kd.iu rfl bz.out);rintro e Ko ⟨rfl,nK,hb,n5⟩;replace HK:=ak (Kept.mj (S:=(fun k_=>iM k_)) (kY HK) n5 (fun k_ rE=>(fun e_=>(bz.out.1 k_ e_.symm)) rE));replace bz:=ak (Kd.kT rfl nK (fun k_ e_=>bz.out.1 k_ e_));replace HB:=ak (hb);(try clear hb);(try clear n5);(try clear nK)))
           (try simp only [←tP,←vK])
           go_roundg k3
           case measure=>have:=fP.out;have:=jj.out;have:=IC.out;omega
           case rel=>exact ⟨(Og),(wrap64 (vR*2)),er,H',⟨by have:=fP.out;have:=jj.out;have:=IC.out;omega⟩,⟨by (try simp only [tP]);(try simp only [vK]);(with_reducible repeat (first|apply Kd.cu|apply Kd.ct|apply Kd.cy));exact bz.out⟩,⟨kY HK⟩,⟨ai HB⟩⟩
          ·rw [if_neg rB] at H
           have ue:=decide_eq_false rB
           clear rB
           have H':=ak H
           clear H;go_wp2
           (try simp only [←tP,←vK])
           go_roundg k3
           case measure=>have:=fP.out;have:=jj.out;have:=IC.out;omega
           case rel=>exact ⟨(yV),(wrap64 (vR*2)),er,H',⟨by have:=fP.out;have:=jj.out;have:=IC.out;omega⟩,⟨by (try simp only [tP]);(try simp only [vK]);(with_reducible repeat (first|apply Kd.cu|apply Kd.ct|apply Kd.cy));exact bz.out⟩,⟨kY HK⟩,⟨ai HB⟩⟩
      ·rw [if_neg lp] at H
       have lW:=decide_eq_false lp
       clear lp
       obtain rfl:=Option.some.inj H
       go_wp2
       first|go_end0|((try simp only [Exit.inBlock,Exit.then]);refine bodyPost_ret (results_none rfl _ _ _) rfl ?_)
       exact ⟨jT,(by first|exact (fy bz)|(simp only [tP];exact (fy bz))),ai HB,kY HK⟩
def cU.f (k:Nat) (l0:List ByteArray):Option (List ByteArray):=(ah.f k l0 (l0.length:Int)).bind fun KO=>(some KO)
theorem cU.calls (k:Nat) (iM:Nat→Prop) (ej:Value) (l0:List ByteArray) (r:List ByteArray) (w0 w:World) (hB:Below w0.heap.size w0 w) (uE:Kd.R Kd.string 9 w w0.heap.size iM ej l0) (h:cU.f k l0=some r):
  Calls Tryz.prog 106 #[ej,.func (.func 107) #[] #[]] w fun e w'=>e= .returned (.tuple #[])∧Kd.R Kd.string 9 w' w0.heap.size (fun k_=>(iM k_∨w.heap.size≤k_)) ej r∧Below w0.heap.size w0 w'∧Kept w w' (fun k_=>iM k_):=by
 have Cm:=ak (show Kd.R Kd.string 9 w w0.heap.size (fun k_=>(iM k_∨w.heap.size≤k_)) ej l0 from Kd.bF uE (fun k_ hk=>(.inl hk)))
 have HK:=ak (Kept.refl w (fun k_=>iM k_))
 have Iw:=ak hB.size
 have HB:=ak hB;clear hB
 have H:((ah.f k l0 (l0.length:Int)).bind fun KO=>(some KO))=some r:=h
 clear h;replace H:=bS H;obtain ⟨KO,A3,H⟩:=H
 obtain rfl:=Option.some.inj H
 obtain ⟨Ao4,co4,eo4⟩:=Kd.dc Cm.out
 subst eo4
 go_enter Tryz.func106,Tryz.ntmps106
 go_wp2_with (first|(go_at_call 120;(with_reducible refine (ah.calls k (fun k_=>some k_=(.slice Ao4 l0.length co4:Value).ownBlock) (.slice Ao4 l0.length co4) l0 (l0.length:Int) KO w0 _ ?side1 ?side2 A3.out).mono ?_);(case side1=>exact ai HB);(case side2=>exact Kd.iu rfl Cm.out);rintro e w5 ⟨rfl,nK,hb,n5⟩;replace HK:=ak (Kept.mj (S:=(fun k_=>iM k_)) (kY HK) n5 (fun k_ rE=>(fun e_=>(Cm.out.1 k_ e_.symm)) rE));replace Cm:=ak (Kd.kT rfl nK (fun k_ e_=>Cm.out.1 k_ e_));replace HB:=ak (hb);(try clear hb);(try clear n5);(try clear nK)))
 first|go_end0|((try simp only [Exit.inBlock,Exit.then]);refine bodyPost_ret (results_none rfl _ _ _) rfl ?_)
 exact ⟨jT,by (with_reducible repeat (first|apply Kd.cu|apply Kd.ct|apply Kd.cy));exact Cm.out,ai HB,kY HK⟩
def cQ.l0:Nat→List ByteArray→Int→Int→Option (List ByteArray)
  |0,_,_,_=>none
  |k+1,x5,IP,uD=>if uD<IP then (if 0≤uD then (if uD<(x5.length:Int) then (if 1≤((aV ByteArray.empty x5 uD).size:Int) then (cQ.l0 k (x5.set (uD:Int).toNat ((aV ByteArray.empty x5 uD).extract 1 (aV ByteArray.empty x5 uD).size)) IP (wrap64 (uD+1))) else (none)) else (none)) else (none)) else (some x5)
def cQ.f (k:Nat) (bk:List Int) (aZ:List (List ByteArray)) (bH:List (List ByteArray)) (bu:List (List ByteArray)) (cn:Int) (a1:Int):Option (List ByteArray):=if 0≤a1 then (if a1<(bu.length:Int) then ((bq.f (bK bu a1)).bind fun tf=>((cU.f k tf).bind fun IY=>(cQ.l0 k IY (tf.length:Int) 0))) else (none)) else (none)
theorem cQ.calls (k:Nat) (ir:Option Addr) (ie:Nat) (bk:List Int) (iT:Option Addr) (ic:Nat) (aZ:List (List ByteArray)) (iq:Option Addr) (ia:Nat) (bH:List (List ByteArray)) (iC:Option Addr) (hU:Nat) (bu:List (List ByteArray)) (cn:Int) (a1:Int) (r:List ByteArray) (w:World) (k8:Kd.C (Kd.int .i64) w ir bk.length bk) (lg:bk.length≤ie) (k7:Kd.C (Kd.slice 9 Kd.string) w iT aZ.length aZ) (lf:aZ.length≤ic) (k6:Kd.C (Kd.slice 9 Kd.string) w iq bH.length bH) (ld:bH.length≤ia) (k5:Kd.C (Kd.slice 9 Kd.string) w iC bu.length bu) (k9:bu.length≤hU) (h:cQ.f k bk aZ bH bu cn a1=some r):
  Calls Tryz.prog 76 #[.agg #[.slice ir bk.length ie,.slice iT aZ.length ic,.slice iq bH.length ia,.slice iC bu.length hU,.int .i64 cn],.int .i64 a1] w fun e w'=>∃kV:Value,e= .returned (kV)∧Kd.R Kd.string 9 w' w.heap.size (fun _=>True) kV r∧Below w.heap.size w w':=by
 have mX:=Tryz.underlying27
 have iX:=ak k8;have iY:=ak lg;clear k8 lg;have lC:=ak k7;have mz:=ak lf;clear k7 lf;have kE:=ak k6;have mP:=ak ld;clear k6 ld;have lz:=ak k5;have nG:=ak k9;clear k5 k9
 have HB:=ak (Below.refl w.heap.size w)
 have H:(if 0≤a1 then (if a1<(bu.length:Int) then ((bq.f (bK bu a1)).bind fun tf=>((cU.f k tf).bind fun IY=>(cQ.l0 k IY (tf.length:Int) 0))) else (none)) else (none))=some r:=h
 clear h;replace H:=cZ H;obtain ⟨c3,H⟩:=H;have jh:=decide_eq_true c3;clear c3;replace H:=cZ H;obtain ⟨c4,H⟩:=H;have iI:=decide_eq_true c4;clear c4;replace H:=bS H;obtain ⟨tf,A5,H⟩:=H
 replace H:=bS H;obtain ⟨IY,A6,H⟩:=H
 have H':=ak H
 clear H
 go_enter Tryz.func76,Tryz.ntmps76
 go_wp2_with (first|((with_reducible refine ax (N:=2) rfl ?_);refine cm 2 #[.slice ir bk.length ie,.slice iT aZ.length ic,.slice iq bH.length ia,.slice iC bu.length hU,.int .i64 cn] 27 ?_;intro Yz hg w7 dO hb;have oV:=ak (dO);have age:=ak (lT hg (ai HB));have Ag:=ak (lT hg (ai HB));replace HB:=ak (aE (ai HB) hb);clear hb dO hg;obtain ⟨Mt,Ms,Mr,Ul,Uk,TW,Mp,Mo,TV,TU⟩:=aD oV;have OR:0≤(a1:Int):=da;have OJ:a1<(bu.length:Int):=da;obtain ⟨ZL,afg,aeT,ael,wF,Hi,Hz⟩:=lu lz.out a1 OR OJ;cases ael;replace wF:=(HB.out.cell (World.block_lt_of_cell? w _ wF)).trans wF;have Qh:=ak Hz;have Qn:=ak Hi;clear Hz Hi;replace OR:=eq_true OR;replace OJ:=eq_true OJ)|(go_at_call 105;(with_reducible refine (bq.calls _ _ (bK bu a1) tf _ ?side1 ?side2 A5.out).mono ?_);(case side1=>exact cd (Kd.aH Qh.out HB.out));(case side2=>exact Qn.out);rintro e w9 ⟨agw,rfl,uE,hb⟩;have Ab:=ak (Kd.dB uE (bC (aT HB Ag)));replace oV:=ak (eP (fk oV) hb);replace HB:=ak (aE (aT HB Ag) hb);(try clear hb);(try clear uE);obtain ⟨VU,P0,aej⟩:=Kd.dc Ab.out;subst aej)|(go_at_call 106;(with_reducible refine (cU.calls k (fun k_=>some k_=(.slice VU tf.length P0:Value).ownBlock) (.slice VU tf.length P0) tf IY w _ ?side1 ?side2 A6.out).mono ?_);(case side1=>repeat (first|(with_reducible first|exact HB.out|apply dA|apply dS|apply cJ|refine dX ?_ Ag.out)|exact HB.out));(case side2=>exact Kd.iu rfl Ab.out);rintro e w11 ⟨rfl,nK,hb,n5⟩;replace oV:=ak (DT (fk oV) n5 (fun rE=>(fun e_=>(Kd.F9 Ab.out oV.out (by decide)) e_) rE));replace Ab:=ak (Kd.kT rfl nK (fun k_ e_=>Ab.out.1 k_ e_));replace HB:=ak (hb);(try clear hb);(try clear n5);(try clear nK)))
 go_loopg [18] k (fun kq v18 w'=>∃(dm:List ByteArray) (kJ:Int),v18= .int .i64 kJ∧Aside0 (cQ.l0 kq dm (tf.length:Int) kJ=some r)∧Aside0 (kq≤k)∧Aside0 (Kd.R Kd.string 9 w' w.heap.size (fun _=>True) (.slice VU tf.length P0) dm)∧Aside0 (w'.heap[Yz]? =some (.cells #[(.slice ir bk.length ie),(.slice iT aZ.length ic),(.slice iq bH.length ia),(.slice (some ZL) bu.length hU),.int .i64 cn] 27 (0,0)))∧Aside0 (Below w.heap.size w w'))
 case atStart=>exact ⟨(IY),(0),er,H',⟨Nat.le_refl _⟩,⟨fy Ab⟩,⟨fk oV⟩,⟨aT HB Ag⟩⟩
 case round=>
  clear H'
  (try clear jh);(try clear iI);(try clear Mt);(try clear Ms);(try clear Mr);(try clear Ul);(try clear Uk);(try clear TW);(try clear Mp);(try clear Mo);(try clear TV);(try clear TU);(try clear wF);(try clear OR);(try clear OJ)
  obtain ⟨dm,kJ,rfl,HA,fP,zn,oV,HB⟩:=hrel
  have xS:=(Kd.bL zn.out).1
  rw [xS] at zn
  (try simp only [xS])
  (try simp only [xS] at oV)
  cases gk with
  |zero=>exact absurd HA.out (by simp [cQ.l0])
  |succ k1=>
   have H:=HA.out;clear HA
   simp only [cQ.l0] at H
   by_cases nL:kJ<(tf.length:Int)
   ·rw [if_pos nL] at H
    have pU:=decide_eq_true nL
    clear nL;replace H:=cZ H;obtain ⟨oa,H⟩:=H;have DM:=decide_eq_true oa;clear oa;replace H:=cZ H;obtain ⟨nv,H⟩:=H;have MW:=decide_eq_true nv;clear nv;replace H:=cZ H;obtain ⟨rB,H⟩:=H;have ue:=eq_true rB
    have yj:decide (1≤((aV ByteArray.empty dm kJ).size:Int))=true:=decide_eq_true rB
    clear rB
    obtain ⟨Sn,eZ⟩:∃y_:List ByteArray,y_=(dm.set (kJ:Int).toNat ((aV ByteArray.empty dm kJ).extract 1 (aV ByteArray.empty dm kJ).size)):=⟨_,rfl⟩
    replace H:(cQ.l0 k1 Sn (tf.length:Int) (wrap64 (kJ+1)))=some r:=yH
    have aas:=ak eZ;clear eZ
    have H':=ak H
    clear H
    obtain ⟨ag5,agU,af0,aek,Pd⟩:=m5 (Kd.bh (Kd.bL zn.out).2.2 kJ)
    cases aek
    have p16:0≤(kJ:Int):=da
    have q16:(kJ:Int)<((dm.length:Int):Int):=da
    obtain ⟨PV,ML,wj,YD,ad4,ahF,abl⟩:=Kd.yK zn.out (by omega)
    (first|cases wj|(injection wj with wL PX PY;(first|subst wL|(injection wL with wL;subst wL));subst PY;clear PX))
    have afb:=Aside0.mk YD;have ahJ:=ak abl;clear YD ad4 abl
    (first|simp only [add_plain] at Pd|skip)
    obtain ⟨adl,adK⟩:=Kd.m6 (⟨#[]⟩:ByteArray) zn.out (kJ:Int) p16 q16
    replace p16:=eq_true p16;replace q16:=eq_true q16
    have Gd:=Kd.Vr zn.out (kJ:Int) ((aV ByteArray.empty dm kJ).extract 1 (aV ByteArray.empty dm kJ).size)
    go_wp2_with (first|((with_reducible refine FJ (t:=9) (p:=27) rfl ?_);refine CR (t:=9) (p:=27) (v:= ?vo_w18) (w1:=(wr.setCell ⟨PV,(kJ:Int).toNat,none⟩ (.string ((aV ByteArray.empty dm kJ).extract 1 (aV ByteArray.empty dm kJ).size)))) ?hg ?ho ?hn ?hr ?_;(case ho=>rfl);(case hg=>rfl);(case hn=>rfl);(case hr=>exact qg);intro NZ hw;have hg:wr.grownBy NZ (some PV):=(by rw [hw];exact Gd.2);have hp_:Kd.R Kd.string 9 NZ w.heap.size (fun _=>True) (.slice (some ⟨PV,0,none⟩) dm.length P0) Sn:=(by rw [hw,aas.out];exact Gd.1);clear Gd;replace oV:=ak (lq (fk oV) hg (Kd.F9 zn.out oV.out (by decide)));replace zn:=ak (hp_);replace HB:=ak ((by rw [hw];exact dX (HB.out) afb.out:Below w.heap.size w NZ));clear hg hw hp_))
    (try simp only [←xS])
    (first|go_roundg k1|((try rw [←add_plain PV (kJ:Int).toNat]);go_roundg k1))
    case measure=>have:=fP.out;omega
    case rel=>exact ⟨(Sn),(wrap64 (kJ+1)),er,H',⟨by have:=fP.out;omega⟩,⟨by (try simp only [xS]);(with_reducible repeat (first|apply Kd.cu|apply Kd.ct|apply Kd.cy));exact zn.out⟩,⟨by (try simp only [xS]);(with_reducible repeat (first|refine dL ?_ _|refine ee ?_|refine dM ?_ _));exact oV.out⟩,⟨aT HB Ag⟩⟩
   ·rw [if_neg nL] at H
    have pU:=decide_eq_false nL
    have Vf:=pU
    (try simp only [xS] at Vf)
    clear nL
    obtain rfl:=Option.some.inj H
    go_wp2
    go_ret
    exact ⟨_,jT,by (with_reducible repeat (first|apply Kd.cu|apply Kd.ct|apply Kd.cy));exact zn.out,aT HB Ag⟩
def jr.f (k:Nat) (bk:List Int) (aZ:List (List ByteArray)) (bH:List (List ByteArray)) (bu:List (List ByteArray)) (cn:Int) (a1:Int):Option (List ByteArray×Bool):=(aq.f k bk aZ bH bu cn).bind fun KN=>(if KN=true then ((aM.f a1 0 3).bind fun Ek=>(if Ek=true then ((cQ.f k bk aZ bH bu cn a1).bind fun Ap=>(some (Ap,true))) else (some (([]:List ByteArray),false)))) else (some (([]:List ByteArray),false)))
theorem jr.calls (k:Nat) (ir:Option Addr) (ie:Nat) (bk:List Int) (iT:Option Addr) (ic:Nat) (aZ:List (List ByteArray)) (iq:Option Addr) (ia:Nat) (bH:List (List ByteArray)) (iC:Option Addr) (hU:Nat) (bu:List (List ByteArray)) (cn:Int) (a1:Int) (r1:List ByteArray) (r2:Bool) (w:World) (k8:Kd.C (Kd.int .i64) w ir bk.length bk) (lg:bk.length≤ie) (k7:Kd.C (Kd.slice 9 Kd.string) w iT aZ.length aZ) (lf:aZ.length≤ic) (k6:Kd.C (Kd.slice 9 Kd.string) w iq bH.length bH) (ld:bH.length≤ia) (k5:Kd.C (Kd.slice 9 Kd.string) w iC bu.length bu) (k9:bu.length≤hU) (h:jr.f k bk aZ bH bu cn a1=some (r1,r2)):
  Calls Tryz.prog 36 #[.agg #[.slice ir bk.length ie,.slice iT aZ.length ic,.slice iq bH.length ia,.slice iC bu.length hU,.int .i64 cn],.int .i64 a1] w fun e w'=>∃kV:Value,e= .returned (.tuple #[kV,.bool r2])∧Kd.R Kd.string 9 w' w.heap.size (fun _=>True) kV r1∧Below w.heap.size w w':=by
 have mX:=Tryz.underlying27
 have iX:=ak k8;have iY:=ak lg;clear k8 lg;have lC:=ak k7;have mz:=ak lf;clear k7 lf;have kE:=ak k6;have mP:=ak ld;clear k6 ld;have lz:=ak k5;have nG:=ak k9;clear k5 k9
 have HB:=ak (Below.refl w.heap.size w)
 have H:((aq.f k bk aZ bH bu cn).bind fun KN=>(if KN=true then ((aM.f a1 0 3).bind fun Ek=>(if Ek=true then ((cQ.f k bk aZ bH bu cn a1).bind fun Ap=>(some (Ap,true))) else (some (([]:List ByteArray),false)))) else (some (([]:List ByteArray),false))))=some (r1,r2):=h
 clear h;replace H:=bS H;obtain ⟨KN,A3,H⟩:=H
 by_cases c4:KN=true
 ·subst c4
  have H1:((aM.f a1 0 3).bind fun Ek=>(if Ek=true then ((cQ.f k bk aZ bH bu cn a1).bind fun Ap=>(some (Ap,true))) else (some (([]:List ByteArray),false))))=some (r1,r2):=by rw [if_pos rfl] at H;exact H
  clear H
  have H:=H1
  clear H1;replace H:=bS H;obtain ⟨Ek,A5,H⟩:=H
  by_cases c6:Ek=true
  ·subst c6
   have H1:((cQ.f k bk aZ bH bu cn a1).bind fun Ap=>(some (Ap,true)))=some (r1,r2):=by rw [if_pos rfl] at H;exact H
   clear H
   have H:=H1
   clear H1;replace H:=bS H;obtain ⟨Ap,A7,H⟩:=H
   simp only [Option.some.injEq,Prod.mk.injEq] at H
   obtain ⟨rfl,rfl⟩:=H
   go_enter Tryz.func36,Tryz.ntmps36
   go_wp2_with (first|((with_reducible refine ax (N:=2) rfl ?_);refine cm 2 #[.slice ir bk.length ie,.slice iT aZ.length ic,.slice iq bH.length ia,.slice iC bu.length hU,.int .i64 cn] 27 ?_;intro Rj hg w8 dO hb;have oq:=ak (dO);have Sj:=ak (lT hg (ai HB));have oh:=ak (lT hg (ai HB));replace HB:=ak (aE (ai HB) hb);clear hb dO hg;have w_9:=aD oq)|(go_at_call 35;(with_reducible refine (aq.calls k _ _ bk _ _ aZ _ _ bH _ _ bu cn true _ ?side1 ?side2 ?side3 ?side4 ?side5 ?side6 ?side7 ?side8 A3.out).mono ?_);(case side1=>exact cd (Kd.aH iX.out HB.out));(case side2=>exact iY.out);(case side3=>exact cd (Kd.aH lC.out HB.out));(case side4=>exact mz.out);(case side5=>exact cd (Kd.aH kE.out HB.out));(case side6=>exact mP.out);(case side7=>exact cd (Kd.aH lz.out HB.out));(case side8=>exact nG.out);rintro e W5 ⟨rfl,hb⟩;replace oq:=ak (eP (fk oq) hb);replace HB:=ak (aE (aT HB oh) hb);(try clear hb))|(go_at_call 70;(with_reducible refine (aM.calls a1 0 3 true _ A5.out).mono ?_);rintro e w' ⟨rfl,⟨nd,rfl⟩⟩;have gb:=aD oq)|(go_at_call 76;(with_reducible refine (cQ.calls k _ _ bk _ _ aZ _ _ bH _ _ bu cn a1 Ap _ ?side1 ?side2 ?side3 ?side4 ?side5 ?side6 ?side7 ?side8 A7.out).mono ?_);(case side1=>exact cd (Kd.aH iX.out (aT HB oh)));(case side2=>exact iY.out);(case side3=>exact cd (Kd.aH lC.out (aT HB oh)));(case side4=>exact mz.out);(case side5=>exact cd (Kd.aH kE.out (aT HB oh)));(case side6=>exact mP.out);(case side7=>exact cd (Kd.aH lz.out (aT HB oh)));(case side8=>exact nG.out);rintro e w12 ⟨agv,rfl,uE,hb⟩;have aa5:=ak (Kd.dB uE (bC (aT HB oh)));replace oq:=ak (eP (fk oq) hb);replace HB:=ak (aE (aT HB oh) hb);(try clear hb);(try clear uE)))
   go_ret2
   exact ⟨_,jT,by (with_reducible repeat (first|apply Kd.cu|apply Kd.ct|apply Kd.cy));exact aa5.out,aT HB oh⟩
  ·replace c6:=Bool.eq_false_iff.mpr c6
   subst c6
   have H1:(some (([]:List ByteArray),false))=some (r1,r2):=by rw [if_neg (show¬(false=true) by decide)] at H;exact H
   clear H
   have H:=H1
   clear H1
   simp only [Option.some.injEq,Prod.mk.injEq] at H
   obtain ⟨rfl,rfl⟩:=H
   go_enter Tryz.func36,Tryz.ntmps36
   go_wp2_with (first|((with_reducible refine ax (N:=2) rfl ?_);refine cm 2 #[.slice ir bk.length ie,.slice iT aZ.length ic,.slice iq bH.length ia,.slice iC bu.length hU,.int .i64 cn] 27 ?_;intro Rj hg w13 dO hb;have oq:=ak (dO);have Sj:=ak (lT hg (ai HB));have oh:=ak (lT hg (ai HB));replace HB:=ak (aE (ai HB) hb);clear hb dO hg;have Sq:=aD oq)|(go_at_call 35;(with_reducible refine (aq.calls k _ _ bk _ _ aZ _ _ bH _ _ bu cn true _ ?side1 ?side2 ?side3 ?side4 ?side5 ?side6 ?side7 ?side8 A3.out).mono ?_);(case side1=>exact cd (Kd.aH iX.out HB.out));(case side2=>exact iY.out);(case side3=>exact cd (Kd.aH lC.out HB.out));(case side4=>exact mz.out);(case side5=>exact cd (Kd.aH kE.out HB.out));(case side6=>exact mP.out);(case side7=>exact cd (Kd.aH lz.out HB.out));(case side8=>exact nG.out);rintro e QF ⟨rfl,hb⟩;replace oq:=ak (eP (fk oq) hb);replace HB:=ak (aE (aT HB oh) hb);(try clear hb))|(go_at_call 70;(with_reducible refine (aM.calls a1 0 3 false _ A5.out).mono ?_);rintro e w' ⟨rfl,⟨nd,rfl⟩⟩))
   go_ret2
   exact ⟨_,jT,AQ,aT HB oh⟩
 ·replace c4:=Bool.eq_false_iff.mpr c4
  subst c4
  have H1:(some (([]:List ByteArray),false))=some (r1,r2):=by rw [if_neg (show¬(false=true) by decide)] at H;exact H
  clear H
  have H:=H1
  clear H1
  simp only [Option.some.injEq,Prod.mk.injEq] at H
  obtain ⟨rfl,rfl⟩:=H
  go_enter Tryz.func36,Tryz.ntmps36
  go_wp2_with (first|((with_reducible refine ax (N:=2) rfl ?_);refine cm 2 #[.slice ir bk.length ie,.slice iT aZ.length ic,.slice iq bH.length ia,.slice iC bu.length hU,.int .i64 cn] 27 ?_;intro Rj hg KE dO hb;have oq:=ak (dO);have Sj:=ak (lT hg (ai HB));have oh:=ak (lT hg (ai HB));replace HB:=ak (aE (ai HB) hb);clear hb dO hg;have WZ:=aD oq)|(go_at_call 35;(with_reducible refine (aq.calls k _ _ bk _ _ aZ _ _ bH _ _ bu cn false _ ?side1 ?side2 ?side3 ?side4 ?side5 ?side6 ?side7 ?side8 A3.out).mono ?_);(case side1=>exact cd (Kd.aH iX.out HB.out));(case side2=>exact iY.out);(case side3=>exact cd (Kd.aH lC.out HB.out));(case side4=>exact mz.out);(case side5=>exact cd (Kd.aH kE.out HB.out));(case side6=>exact mP.out);(case side7=>exact cd (Kd.aH lz.out HB.out));(case side8=>exact nG.out);rintro e NZ ⟨rfl,hb⟩;replace oq:=ak (eP (fk oq) hb);replace HB:=ak (aE (aT HB oh) hb);(try clear hb)))
  go_ret2
  exact ⟨_,jT,AQ,aT HB oh⟩
mutual
def aK.j0:Nat→List (iK)→List Bool→Int→Bool→Option (List ByteArray×Bool)
  |0,_,_,_,_=>none
  |k+1,x0,x1,x2,x25=>if x25=true then (some (([]:List ByteArray),false)) else (aK.l0 k x1 x2 (([]:List ByteArray)) x0 (x0.length:Int) 0)
def aK.l0:Nat→List Bool→Int→List ByteArray→List (iK)→Int→Int→Option (List ByteArray×Bool)
  |0,_,_,_,_,_,_=>none
  |k+1,x1,x2,x8,Gs,Cu,Km=>if Km<Cu then (if 0≤Km then (if Km<(Gs.length:Int) then (if Km<(x1.length:Int) then (if aV false x1 Km=true then (if ((cw Gs Km).f0)=1 then (if ((cw Gs Km).f1)=x2 then (if x8.length<8796093022208 then (aK.l0 k x1 x2 (x8++[(cw Gs Km).f2]) Gs Cu (wrap64 (Km+1))) else (none)) else (aK.l0 k x1 x2 x8 Gs Cu (wrap64 (Km+1)))) else (aK.l0 k x1 x2 x8 Gs Cu (wrap64 (Km+1)))) else (aK.l0 k x1 x2 x8 Gs Cu (wrap64 (Km+1)))) else (none)) else (none)) else (none)) else (some (x8,true))
end
def aK.f (k:Nat) (l0:List (iK)) (l1:List Bool) (a2:Int):Option (List ByteArray×Bool):=if (l0.length:Int)>60 then (aK.j0 k l0 l1 a2 true) else (if (l1.length:Int)=(l0.length:Int) then ((aM.f a2 0 3).bind fun IX=>(aK.j0 k l0 l1 a2 (!IX))) else (aK.j0 k l0 l1 a2 true))
theorem aK.calls (k:Nat) (A0:Option Addr) (c0:Nat) (l0:List (iK)) (A1:Option Addr) (c1:Nat) (l1:List Bool) (a2:Int) (r1:List ByteArray) (r2:Bool) (w:World) (eT:Kd.C zN w A0 l0.length l0) (fE:l0.length≤c0) (nY:Kd.C Kd.bool w A1 l1.length l1) (mY:l1.length≤c1) (h:aK.f k l0 l1 a2=some (r1,r2)):
  Calls Tryz.prog 37 #[.slice A0 l0.length c0,.slice A1 l1.length c1,.int .i64 a2] w fun e w'=>∃kV:Value,e= .returned (.tuple #[kV,.bool r2])∧Kd.R Kd.string 9 w' w.heap.size (fun _=>True) kV r1∧Below w.heap.size w w':=by
 have Fl:=Tryz.underlying53
 have fB:=ak eT;have jD:=ak fE;clear eT fE;have pX:=ak nY;have Ed:=ak mY;clear nY mY
 have HB:=ak (Below.refl w.heap.size w)
 have H:(if (l0.length:Int)>60 then (aK.j0 k l0 l1 a2 true) else (if (l1.length:Int)=(l0.length:Int) then ((aM.f a2 0 3).bind fun IX=>(aK.j0 k l0 l1 a2 (!IX))) else (aK.j0 k l0 l1 a2 true)))=some (r1,r2):=h
 clear h;have Gf:=ak H;clear H
 go_enter Tryz.func37,Tryz.ntmps37
 go_upto_region 1 with (fail)
 go_cut [25] (fun v25 wc=>∃(kq:Nat) (sX:Bool),v25= .bool sX∧Aside0 (aK.j0 kq l0 l1 a2 sX=some (r1,r2))∧Aside0 (kq≤k)∧Aside0 (Below w.heap.size w wc))
 case first=>
  have H:=Gf.out;clear Gf
  by_cases c5:(l0.length:Int)>60
  ·rw [if_pos c5] at H
   have jg:=H6 c5
   have BZ:decide (60<l0.length)=true:=decide_eq_true (by omega)
   clear c5
   (first|rw [jg]|(simp only [bX,cL];rw [jg])|skip)
   have H':=ak H
   clear H;go_wp2
   go_meet
   case rel=>exact ⟨_,(true),er,H',⟨by first|omega|exact Nat.le_refl _⟩,⟨ai HB⟩⟩
  ·rw [if_neg c5] at H
   have jg:=H7 c5
   have BZ:decide (60<l0.length)=false:=decide_eq_false (by omega)
   clear c5
   (first|rw [jg]|(simp only [bX,cL];rw [jg])|skip)
   by_cases c6:(l1.length:Int)=(l0.length:Int)
   ·rw [if_pos c6] at H
    have jz:=kI c6
    have qz:=kH c6
    have J0:(l1.length==l0.length)=true:=by first|simpa using c6|(simp at c6⊢;omega)
    clear c6;replace H:=bS H;obtain ⟨IX,A7,H⟩:=H
    have H':=ak H
    clear H
    go_wp2_with (first|(go_at_call 70;(with_reducible refine (aM.calls a2 0 3 IX _ A7.out).mono ?_);rintro e w' ⟨rfl,⟨nd,rfl⟩⟩))
    go_meet
    case rel=>exact ⟨_,(!IX),er,H',⟨by first|omega|exact Nat.le_refl _⟩,⟨ai HB⟩⟩
   ·rw [if_neg c6] at H
    have jz:=jV c6
    have qz:=jU c6
    have J0:(l1.length==l0.length)=false:=by first|simpa using c6|(simp at c6⊢;omega)
    have H':=ak H
    clear H;go_wp2
    go_meet
    case rel=>exact ⟨_,(true),er,H',⟨by first|omega|exact Nat.le_refl _⟩,⟨ai HB⟩⟩
 case rest=>
  clear Gf;(try clear c1)
  obtain ⟨kq,sX,rfl,HA,vn,HB⟩:=hcut
  cases kq with
  |zero=>exact absurd HA.out (by simp [aK.j0])
  |succ Ea=>
   have H:=HA.out;clear HA
   simp only [aK.j0] at H
   by_cases c8:sX=true
   ·subst c8
    have H1:(some (([]:List ByteArray),false))=some (r1,r2):=by rw [if_pos rfl] at H;exact H
    clear H
    have H:=H1
    clear H1
    simp only [Option.some.injEq,Prod.mk.injEq] at H
    obtain ⟨rfl,rfl⟩:=H;go_wp2
    go_ret2
    exact ⟨_,jT,AQ,ai HB⟩
   ·replace c8:=Bool.eq_false_iff.mpr c8
    subst c8
    have H1:(aK.l0 Ea l1 a2 (([]:List ByteArray)) l0 (l0.length:Int) 0)=some (r1,r2):=by rw [if_neg (show¬(false=true) by decide)] at H;exact H
    clear H
    have H:=H1
    clear H1
    obtain ⟨Wp,eZ⟩:∃y_:List ByteArray,y_=(([]:List ByteArray)):=⟨_,rfl⟩
    replace H:(aK.l0 Ea l1 a2 Wp l0 (l0.length:Int) 0)=some (r1,r2):=yH
    have RJ:=ak eZ;clear eZ
    have H':=ak H
    clear H
    go_wp2_with (first|((with_reducible refine ax (N:=26) rfl ?_);(try (refine gj (by rfl) ?_;dsimp only));refine Kd.gy Kd.string _ 9 ?hg (N:=26) ?hd (xs:=([]:List ByteArray)) (inner:=[]) (ok:=fun _=>True) (okp:=fun _=>True) ?hr ?hp (fun _ hk=>hk) trivial (Below.refl _ _) (Nat.le_refl _) (by simp) ?_;(case hd=>rfl);(case hg=>rfl);(case hr=>exact qg);(case hp=>exact (bN.none _ _));intro agu w9 Mk hb cg dZ;clear cg dZ;(first|rw [←RJ.out] at Mk|(simp only [Int.reduceToNat] at Mk;rw [←RJ.out] at Mk));have aa4:=ak (Kd.dB Mk (bC (ai HB)));replace HB:=ak (aE (ai HB) hb);clear hb Mk))
    go_loopg [8,29] Ea (fun kq v8 v29 w'=>∃(gG:List ByteArray) (dn:Int),v29= .int .i64 dn∧Aside0 (aK.l0 kq l1 a2 gG l0 (l0.length:Int) dn=some (r1,r2))∧Aside0 (kq≤Ea)∧Aside0 (Kd.R Kd.string 9 w' w.heap.size (fun _=>True) v8 gG)∧Aside0 (Below w.heap.size w w'))
    case atStart=>exact ⟨(Wp),(0),er,H',⟨Nat.le_refl _⟩,⟨fy aa4⟩,⟨ai HB⟩⟩
    case round=>
     clear H'
     (try clear c8)
     obtain ⟨gG,dn,rfl,HA,jj,gU,HB⟩:=hrel
     cases gk with
     |zero=>exact absurd HA.out (by simp [aK.l0])
     |succ k2=>
      have H:=HA.out;clear HA
      simp only [aK.l0] at H
      by_cases lp:dn<(l0.length:Int)
      ·rw [if_pos lp] at H
       have lW:=decide_eq_true lp
       clear lp;replace H:=cZ H;obtain ⟨nL,H⟩:=H;have pU:=decide_eq_true nL;clear nL;replace H:=cZ H;obtain ⟨oa,H⟩:=H;have DM:=decide_eq_true oa;clear oa;replace H:=cZ H;obtain ⟨nv,H⟩:=H;have MW:=decide_eq_true nv;clear nv
       obtain ⟨ZG,Mw⟩:∃b_:Bool,b_=(aV false l1 dn):=⟨_,rfl⟩
       replace H:(if ZG=true then (if ((cw l0 dn).f0)=1 then (if ((cw l0 dn).f1)=a2 then (if gG.length<8796093022208 then (aK.l0 k2 l1 a2 (gG++[(cw l0 dn).f2]) l0 (l0.length:Int) (wrap64 (dn+1))) else (none)) else (aK.l0 k2 l1 a2 gG l0 (l0.length:Int) (wrap64 (dn+1)))) else (aK.l0 k2 l1 a2 gG l0 (l0.length:Int) (wrap64 (dn+1)))) else (aK.l0 k2 l1 a2 gG l0 (l0.length:Int) (wrap64 (dn+1))))=some (r1,r2):=by rw [←Mw] at H;exact H
       have It:=ak Mw;clear Mw
       by_cases zl:ZG=true
       ·subst zl
        have H1:(if ((cw l0 dn).f0)=1 then (if ((cw l0 dn).f1)=a2 then (if gG.length<8796093022208 then (aK.l0 k2 l1 a2 (gG++[(cw l0 dn).f2]) l0 (l0.length:Int) (wrap64 (dn+1))) else (none)) else (aK.l0 k2 l1 a2 gG l0 (l0.length:Int) (wrap64 (dn+1)))) else (aK.l0 k2 l1 a2 gG l0 (l0.length:Int) (wrap64 (dn+1))))=some (r1,r2):=by rw [if_pos rfl] at H;exact H
        clear H
        have H:=H1
        clear H1
        by_cases CA:((cw l0 dn).f0)=1
        ·rw [if_pos CA] at H
         have Ii:=kI CA
         have MV:=kH CA
         clear CA
         by_cases yP:((cw l0 dn).f1)=a2
         ·rw [if_pos yP] at H
          have RA:=kI yP
          have Zx:=kH yP
          clear yP;replace H:=cZ H;obtain ⟨P5,H⟩:=H;have aaV:=ak P5;clear P5
          obtain ⟨Wo,eZ⟩:∃y_:List ByteArray,y_=(gG++[(cw l0 dn).f2]):=⟨_,rfl⟩
          replace H:(aK.l0 k2 l1 a2 Wo l0 (l0.length:Int) (wrap64 (dn+1)))=some (r1,r2):=yH
          have aar:=ak eZ;clear eZ
          have H':=ak H
          clear H
          have sF:0≤(dn:Int):=da
          have sw:dn<(l0.length:Int):=da
          obtain ⟨Nb,FQ,jx,jw,jv⟩:=oz fB.out dn sF sw
          cases FQ
          replace jx:=(HB.out.cell (World.block_lt_of_cell? w _ jx)).trans jx
          replace jw:=(HB.out.cell (World.block_lt_of_cell? w _ jw)).trans jw
          replace jv:=(HB.out.cell (World.block_lt_of_cell? w _ jv)).trans jv
          replace sF:=eq_true sF;replace sw:=eq_true sw
          go_wp2_with (first|((with_reducible refine ax (N:=10) rfl ?_);(try (refine gj (by rfl) ?_;dsimp only));refine jG ?hg (N:=10) ?hd (cs:= #[.int .i64 0,.int .i64 0,.string (⟨#[]⟩:ByteArray)]) (t:=53) ?hr ?_;(case hd=>rfl);(case hg=>rfl);(case hr=>exact qg);intro iV hg w20 dO hb;replace gU:=ak (Kd.ey (fy gU) hb);have oo:=ak (dO);have nI:=ak (lT hg (ai HB));have uB:=ak (lT hg (ai HB));replace HB:=ak (aE (ai HB) hb);clear hb dO hg;have agq:=cA oo;have sE:0≤(dn:Int):=da;have sv:dn<(l1.length:Int):=da;obtain ⟨nC,FP,cE⟩:=Kd.kP pX.out dn sE sv;(try rw [←It.out] at cE);cases FP;have gQ:nC.block≠iV:=Nat.ne_of_lt (Nat.lt_of_lt_of_le (by have:=World.block_lt_of_cell? _ _ cE;first|rwa [aX] at this|exact this) nI.out);have gO:nC.block≠iV:=Nat.ne_of_lt (Nat.lt_of_lt_of_le (by have:=World.block_lt_of_cell? _ _ cE;first|rwa [aX] at this|exact this) nI.out);have gN:nC.block≠iV:=Nat.ne_of_lt (Nat.lt_of_lt_of_le (by have:=World.block_lt_of_cell? _ _ cE;first|rwa [aX] at this|exact this) nI.out);replace cE:=(HB.out.cell (World.block_lt_of_cell? w _ cE)).trans cE;replace cE:=(cell_far (p:=⟨iV,0,none⟩) (by first|(rw [aX];exact gQ)|(show (Addr.add _ _).block≠_;rw [aX];exact gQ)|exact gQ) (.int .i64 ((cw l0 dn).f0))).trans cE;replace cE:=(cell_far (p:=⟨iV,1,none⟩) (by first|(rw [aX];exact gO)|(show (Addr.add _ _).block≠_;rw [aX];exact gO)|exact gO) (.int .i64 ((cw l0 dn).f1))).trans cE;replace cE:=(cell_far (p:=⟨iV,2,none⟩) (by first|(rw [aX];exact gN)|(show (Addr.add _ _).block≠_;rw [aX];exact gN)|exact gN) (.string ((cw l0 dn).f2))).trans cE;clear gQ;clear gO;clear gN;replace sE:=eq_true sE;replace sv:=eq_true sv)|((with_reducible refine cr (b:= .append) (xs:= #[.tmp 49,.tmp 52]) rfl ?_);(try (refine gj (by rfl) ?_;dsimp only));at_builtin;refine Kd.lS Kd.string (w0:=w) w.heap.size rfl (.tmp 49) (.tmp 52) 62 9 (.string ⟨#[]⟩) 16 rfl Tryz.underlying62 mK rfl (by decide) (by omega) u8 gG ((cw l0 dn).f2) [.string ((cw l0 dn).f2)] (fun _=>True) (fun _=>False) rfl (by first|(go_simp;done)|(go_simp;rfl)) ?aP (fun _ hk=>hk.elim) ?aF ?aO ?aB ?aS ?aL ?_;(case aP=>exact rfl);(case aB=>exact (aT HB uB));(case aF=>exact (fun _ _=>trivial));(case aO=>exact (by (with_reducible repeat (first|apply Kd.cu|apply Kd.ct|apply Kd.cy));exact Kd.bF (mO (Kd.jB gU.out oo.out (by decide))) (fun _ hk=>trivial)));(case aS=>exact (bC (aT HB uB)));(case aL=>have:=aaV.out;omega);intro agt W4 ho hb hg gV;rw [←aar.out] at ho;replace oo:=ak (lq (g:=iV) (o:= .cells #[.int .i64 ((cw l0 dn).f0),.int .i64 ((cw l0 dn).f1),.string ((cw l0 dn).f2)] 53 (0,0)) (by (with_reducible repeat (first|refine dL ?_ _|refine ee ?_|refine dM ?_ _));refine fF (cs:= #[.int .i64 ((cw l0 dn).f0),.int .i64 ((cw l0 dn).f1),.string (⟨#[]⟩:ByteArray)]) ?_ 2 _ rfl;(with_reducible repeat (first|refine dL ?_ _|refine ee ?_|refine dM ?_ _));refine fF (cs:= #[.int .i64 ((cw l0 dn).f0),.int .i64 0,.string (⟨#[]⟩:ByteArray)]) ?_ 1 _ rfl;(with_reducible repeat (first|refine dL ?_ _|refine ee ?_|refine dM ?_ _));refine fF (cs:= #[.int .i64 0,.int .i64 0,.string (⟨#[]⟩:ByteArray)]) ?_ 0 _ rfl;(with_reducible repeat (first|refine dL ?_ _|refine ee ?_|refine dM ?_ _));exact oo.out) hg (Kd.F9 gU.out oo.out (by decide)));replace HB:=ak (hb);have aa3:=ak (ho);clear gU;clear ho hb hg gV))
          go_roundg k2
          case measure=>have:=vn.out;have:=jj.out;omega
          case rel=>exact ⟨(Wo),(wrap64 (dn+1)),er,H',⟨by have:=vn.out;have:=jj.out;omega⟩,⟨fy aa3⟩,⟨aT HB uB⟩⟩
         ·rw [if_neg yP] at H
          have RA:=jV yP
          have Zx:=jU yP
          have H':=ak H
          clear H
          have sF:0≤(dn:Int):=da
          have sw:dn<(l0.length:Int):=da
          obtain ⟨Nb,FQ,jx,jw,jv⟩:=oz fB.out dn sF sw
          cases FQ
          replace jx:=(HB.out.cell (World.block_lt_of_cell? w _ jx)).trans jx
          replace jw:=(HB.out.cell (World.block_lt_of_cell? w _ jw)).trans jw
          replace jv:=(HB.out.cell (World.block_lt_of_cell? w _ jv)).trans jv
          replace sF:=eq_true sF;replace sw:=eq_true sw
          go_wp2_with (first|((with_reducible refine ax (N:=10) rfl ?_);(try (refine gj (by rfl) ?_;dsimp only));refine jG ?hg (N:=10) ?hd (cs:= #[.int .i64 0,.int .i64 0,.string (⟨#[]⟩:ByteArray)]) (t:=53) ?hr ?_;(case hd=>rfl);(case hg=>rfl);(case hr=>exact qg);intro iV hg w23 dO hb;replace gU:=ak (Kd.ey (fy gU) hb);have oo:=ak (dO);have nI:=ak (lT hg (ai HB));have uB:=ak (lT hg (ai HB));replace HB:=ak (aE (ai HB) hb);clear hb dO hg;have WY:=cA oo;have sE:0≤(dn:Int):=da;have sv:dn<(l1.length:Int):=da;obtain ⟨nC,FP,cE⟩:=Kd.kP pX.out dn sE sv;(try rw [←It.out] at cE);cases FP;have gQ:nC.block≠iV:=Nat.ne_of_lt (Nat.lt_of_lt_of_le (by have:=World.block_lt_of_cell? _ _ cE;first|rwa [aX] at this|exact this) nI.out);have gO:nC.block≠iV:=Nat.ne_of_lt (Nat.lt_of_lt_of_le (by have:=World.block_lt_of_cell? _ _ cE;first|rwa [aX] at this|exact this) nI.out);have gN:nC.block≠iV:=Nat.ne_of_lt (Nat.lt_of_lt_of_le (by have:=World.block_lt_of_cell? _ _ cE;first|rwa [aX] at this|exact this) nI.out);replace cE:=(HB.out.cell (World.block_lt_of_cell? w _ cE)).trans cE;replace cE:=(cell_far (p:=⟨iV,0,none⟩) (by first|(rw [aX];exact gQ)|(show (Addr.add _ _).block≠_;rw [aX];exact gQ)|exact gQ) (.int .i64 ((cw l0 dn).f0))).trans cE;replace cE:=(cell_far (p:=⟨iV,1,none⟩) (by first|(rw [aX];exact gO)|(show (Addr.add _ _).block≠_;rw [aX];exact gO)|exact gO) (.int .i64 ((cw l0 dn).f1))).trans cE;replace cE:=(cell_far (p:=⟨iV,2,none⟩) (by first|(rw [aX];exact gN)|(show (Addr.add _ _).block≠_;rw [aX];exact gN)|exact gN) (.string ((cw l0 dn).f2))).trans cE;clear gQ;clear gO;clear gN;replace sE:=eq_true sE;replace sv:=eq_true sv))
          go_roundg k2
          case measure=>have:=vn.out;have:=jj.out;omega
          case rel=>exact ⟨(gG),(wrap64 (dn+1)),er,H',⟨by have:=vn.out;have:=jj.out;omega⟩,⟨by (with_reducible repeat (first|apply Kd.cu|apply Kd.ct|apply Kd.cy));exact Kd.bF (mO (Kd.jB gU.out oo.out (by decide))) (fun _ hk=>trivial)⟩,⟨aT HB uB⟩⟩
        ·rw [if_neg CA] at H
         have Ii:=jV CA
         have MV:=jU CA
         have H':=ak H
         clear H
         have sF:0≤(dn:Int):=da
         have sw:dn<(l0.length:Int):=da
         obtain ⟨Nb,FQ,jx,jw,jv⟩:=oz fB.out dn sF sw
         cases FQ
         replace jx:=(HB.out.cell (World.block_lt_of_cell? w _ jx)).trans jx
         replace jw:=(HB.out.cell (World.block_lt_of_cell? w _ jw)).trans jw
         replace jv:=(HB.out.cell (World.block_lt_of_cell? w _ jv)).trans jv
         replace sF:=eq_true sF;replace sw:=eq_true sw
         go_wp2_with (first|((with_reducible refine ax (N:=10) rfl ?_);(try (refine gj (by rfl) ?_;dsimp only));refine jG ?hg (N:=10) ?hd (cs:= #[.int .i64 0,.int .i64 0,.string (⟨#[]⟩:ByteArray)]) (t:=53) ?hr ?_;(case hd=>rfl);(case hg=>rfl);(case hr=>exact qg);intro iV hg w25 dO hb;replace gU:=ak (Kd.ey (fy gU) hb);have oo:=ak (dO);have nI:=ak (lT hg (ai HB));have uB:=ak (lT hg (ai HB));replace HB:=ak (aE (ai HB) hb);clear hb dO hg;have abU:=cA oo;have sE:0≤(dn:Int):=da;have sv:dn<(l1.length:Int):=da;obtain ⟨nC,FP,cE⟩:=Kd.kP pX.out dn sE sv;(try rw [←It.out] at cE);cases FP;have gQ:nC.block≠iV:=Nat.ne_of_lt (Nat.lt_of_lt_of_le (by have:=World.block_lt_of_cell? _ _ cE;first|rwa [aX] at this|exact this) nI.out);have gO:nC.block≠iV:=Nat.ne_of_lt (Nat.lt_of_lt_of_le (by have:=World.block_lt_of_cell? _ _ cE;first|rwa [aX] at this|exact this) nI.out);have gN:nC.block≠iV:=Nat.ne_of_lt (Nat.lt_of_lt_of_le (by have:=World.block_lt_of_cell? _ _ cE;first|rwa [aX] at this|exact this) nI.out);replace cE:=(HB.out.cell (World.block_lt_of_cell? w _ cE)).trans cE;replace cE:=(cell_far (p:=⟨iV,0,none⟩) (by first|(rw [aX];exact gQ)|(show (Addr.add _ _).block≠_;rw [aX];exact gQ)|exact gQ) (.int .i64 ((cw l0 dn).f0))).trans cE;replace cE:=(cell_far (p:=⟨iV,1,none⟩) (by first|(rw [aX];exact gO)|(show (Addr.add _ _).block≠_;rw [aX];exact gO)|exact gO) (.int .i64 ((cw l0 dn).f1))).trans cE;replace cE:=(cell_far (p:=⟨iV,2,none⟩) (by first|(rw [aX];exact gN)|(show (Addr.add _ _).block≠_;rw [aX];exact gN)|exact gN) (.string ((cw l0 dn).f2))).trans cE;clear gQ;clear gO;clear gN;replace sE:=eq_true sE;replace sv:=eq_true sv))
         go_roundg k2
         case measure=>have:=vn.out;have:=jj.out;omega
         case rel=>exact ⟨(gG),(wrap64 (dn+1)),er,H',⟨by have:=vn.out;have:=jj.out;omega⟩,⟨by (with_reducible repeat (first|apply Kd.cu|apply Kd.ct|apply Kd.cy));exact Kd.bF (mO (Kd.jB gU.out oo.out (by decide))) (fun _ hk=>trivial)⟩,⟨aT HB uB⟩⟩
       ·replace zl:=Bool.eq_false_iff.mpr zl
        subst zl
        have H1:(aK.l0 k2 l1 a2 gG l0 (l0.length:Int) (wrap64 (dn+1)))=some (r1,r2):=by rw [if_neg (show¬(false=true) by decide)] at H;exact H
        clear H
        have H:=H1
        clear H1
        have H':=ak H
        clear H
        have sF:0≤(dn:Int):=da
        have sw:dn<(l0.length:Int):=da
        obtain ⟨Nb,FQ,jx,jw,jv⟩:=oz fB.out dn sF sw
        cases FQ
        replace jx:=(HB.out.cell (World.block_lt_of_cell? w _ jx)).trans jx
        replace jw:=(HB.out.cell (World.block_lt_of_cell? w _ jw)).trans jw
        replace jv:=(HB.out.cell (World.block_lt_of_cell? w _ jv)).trans jv
        replace sF:=eq_true sF;replace sw:=eq_true sw
        go_wp2_with (first|((with_reducible refine ax (N:=10) rfl ?_);(try (refine gj (by rfl) ?_;dsimp only));refine jG ?hg (N:=10) ?hd (cs:= #[.int .i64 0,.int .i64 0,.string (⟨#[]⟩:ByteArray)]) (t:=53) ?hr ?_;(case hd=>rfl);(case hg=>rfl);(case hr=>exact qg);intro iV hg w27 dO hb;replace gU:=ak (Kd.ey (fy gU) hb);have oo:=ak (dO);have nI:=ak (lT hg (ai HB));have uB:=ak (lT hg (ai HB));replace HB:=ak (aE (ai HB) hb);clear hb dO hg;have WX:=cA oo;have sE:0≤(dn:Int):=da;have sv:dn<(l1.length:Int):=da;obtain ⟨nC,FP,cE⟩:=Kd.kP pX.out dn sE sv;(try rw [←It.out] at cE);cases FP;have gQ:nC.block≠iV:=Nat.ne_of_lt (Nat.lt_of_lt_of_le (by have:=World.block_lt_of_cell? _ _ cE;first|rwa [aX] at this|exact this) nI.out);have gO:nC.block≠iV:=Nat.ne_of_lt (Nat.lt_of_lt_of_le (by have:=World.block_lt_of_cell? _ _ cE;first|rwa [aX] at this|exact this) nI.out);have gN:nC.block≠iV:=Nat.ne_of_lt (Nat.lt_of_lt_of_le (by have:=World.block_lt_of_cell? _ _ cE;first|rwa [aX] at this|exact this) nI.out);replace cE:=(HB.out.cell (World.block_lt_of_cell? w _ cE)).trans cE;replace cE:=(cell_far (p:=⟨iV,0,none⟩) (by first|(rw [aX];exact gQ)|(show (Addr.add _ _).block≠_;rw [aX];exact gQ)|exact gQ) (.int .i64 ((cw l0 dn).f0))).trans cE;replace cE:=(cell_far (p:=⟨iV,1,none⟩) (by first|(rw [aX];exact gO)|(show (Addr.add _ _).block≠_;rw [aX];exact gO)|exact gO) (.int .i64 ((cw l0 dn).f1))).trans cE;replace cE:=(cell_far (p:=⟨iV,2,none⟩) (by first|(rw [aX];exact gN)|(show (Addr.add _ _).block≠_;rw [aX];exact gN)|exact gN) (.string ((cw l0 dn).f2))).trans cE;clear gQ;clear gO;clear gN;replace sE:=eq_true sE;replace sv:=eq_true sv))
        go_roundg k2
        case measure=>have:=vn.out;have:=jj.out;omega
        case rel=>exact ⟨(gG),(wrap64 (dn+1)),er,H',⟨by have:=vn.out;have:=jj.out;omega⟩,⟨by (with_reducible repeat (first|apply Kd.cu|apply Kd.ct|apply Kd.cy));exact Kd.bF (mO (Kd.jB gU.out oo.out (by decide))) (fun _ hk=>trivial)⟩,⟨aT HB uB⟩⟩
      ·rw [if_neg lp] at H
       have lW:=decide_eq_false lp
       clear lp
       simp only [Option.some.injEq,Prod.mk.injEq] at H
       obtain ⟨rfl,rfl⟩:=H;go_wp2
       go_ret2
       exact ⟨_,jT,by (with_reducible repeat (first|apply Kd.cu|apply Kd.ct|apply Kd.cy));exact gU.out,ai HB⟩
theorem LD {w W:World} {L:List SA} {A B C:SA} (h:Sep w W (A::B::C::L)):Sep w W [A,B,C]:=by
  obtain ⟨h0,c,h⟩:=h
  exact ⟨h0,c,h.1,h.2.1,h.2.2.1,trivial⟩
theorem LB {w W:World} {L:List SA} {A B:SA} (h:Sep w W (A::B::L)):∃c,dD c w.heap.size W 0 [A,B]:=by
  obtain ⟨_,c,h⟩:=h
  exact ⟨c,h.1,h.2.1,trivial⟩
theorem C8 {b:Nat} {w:World} {v0 v1:Value} {xs:List Int} {ys:List iK} (h0:KI.R 3 w b (fun _=>True) v0 xs) (h1:Kd.R zN 53 w b (fun _=>True) v1 ys):∃c,dD c b w 0 [rA KI 3 v0 xs,rA zN 53 v1 ys]:=by
  classical
  refine ⟨fun k=>if (∃cells,w.heap[k]? =some (.cells cells 3 (0,0))) then 0 else 1,?_,?_,trivial⟩
  · refine Kd.bF (Kd.jc h0) (fun k hk=>if_pos ?_)
    obtain ⟨_,_,_,q,hq,hc⟩:=hk
    have:q=3:=by simpa [Kd.int,Kd.scalar] using hq
    subst this
    exact hc
  · refine Kd.bF (Kd.jc h1) (fun k hk=>if_neg ?_)
    obtain ⟨_,_,_,q,hq,cells,hc⟩:=hk
    rintro ⟨BY,u5⟩
    rw [hc] at u5
    injection u5 with u5
    injection u5 with _ u5
    subst u5
    simp [zN,Kd.iso,Kd.pair,Kd.slice,Kd.string,Kd.int,Kd.scalar] at hq
def cz.l0 (l0:List Int):Nat→List Bool→Int→Int→Option (List Bool×Int×Int)
 |0,d,f1,f2=>some (d,f1,f2)
 |j+1,d,f1,f2=>(dR.f l0 f1 f2 2).bind fun (b,y1,y2)=>cz.l0 l0 j (d++[b]) y1 y2
def cz.f (k:Nat) (l0:List Int):Option (List iK×List Bool×Int):=(fM.f k l0).bind fun (x,st)=>(cC.f k x st).bind fun (_,d,q)=>
 if q=true then (aJ.f l0 0 0 6).bind fun (u,_,_)=>some (st,d,wrap64 (u-1))
 else if st.length≤1048576 then (cz.l0 l0 st.length [] 0 0).bind fun (d,f1,f2)=>(aJ.f l0 f1 f2 6).bind fun (u,_,_)=>some (st,d,wrap64 (u-1)) else none
theorem cz.calls {k:Nat} {A0:Option Addr} {c0:Nat} {l0:List Int} {r1:List iK} {r2:List Bool} {r3:Int} {w:World} (eT:Kd.C (Kd.int .u8) w A0 l0.length l0) (fE:l0.length≤c0) (h:cz.f k l0=some (r1,r2,r3)):
    Calls Tryz.prog 39 #[.slice A0 l0.length c0] w fun e w'=>∃v0 v1:Value,e= .returned (.tuple #[v0,v1,.int .i64 r3])∧(∃c,dD c w.heap.size w' 0 [rA zN 53 v0 r1,rA Kd.bool 4 v1 r2])∧Below w.heap.size w w':=by
 have mX:=Tryz.underlying27
 have Fl:=Tryz.underlying53
 have ado:=Tryz.underlying89
 have fB:=ak eT;have jD:=ak fE
 clear eT fE
 unfold cz.f at h
 have HS:=Sep.nil w
 replace h:=bS h;obtain ⟨⟨x,st⟩,T0,h⟩:=h
 replace h:=bS h;obtain ⟨⟨n,d,q⟩,T1,h⟩:=h
 dsimp only at h
 go_enter Tryz.func39,Tryz.ntmps39
 have HQ:=fB
 go_upto_region 4 with (first|(go_at_call 31;have dj:=fM.calls k _ _ l0 x st _ (Kd.aH fB.out HS.base) jD.out T0.out;refine dj.mono ?_;clear dj;rintro e W_ ⟨v0,v1,rfl,Ri,Rh,bn⟩;replace HS:=HS.news bn (C8 Ri Rh);clear Ri Rh bn;dsimp only [fH,List.cons_append,List.nil_append] at HS;obtain ⟨Ak,ck,rfl⟩:=HS.lJ 0;obtain ⟨As,cs,rfl⟩:=HS.lJ 1)|((with_reducible refine ax (N:=18) rfl ?_);refine cm 18 #[.slice A0 l0.length c0,.int .i64 0,.int .u64 0] 89 ?_;intro b18 cg W_ bQ bn;replace HS:=HS.box cg bQ bn;clear cg bQ bn;have o3:=cA (HS.bf 0))|(go_at_call 16;have dj:=cC.calls (HS.jb 1).2.2 (HS.jb 1).2.1 (HS.jb 2).2.2 (HS.jb 2).2.1 T1.out;refine dj.mono ?_;clear dj;rintro e W_ ⟨e0,e1,e2,e3,pd,rfl,nu,bn⟩;replace HS:=HS.news bn nu;clear nu bn;dsimp only [fH,List.cons_append,List.nil_append] at HS;obtain ⟨B0,d0,rfl⟩:=HS.lJ 0;obtain ⟨B1,d1,rfl⟩:=HS.jZ 1;obtain ⟨B2,d2,rfl⟩:=HS.jZ 2;obtain ⟨B3,d3,rfl⟩:=HS.jZ 3;obtain ⟨Ad,cd_,rfl⟩:=HS.lJ 4;clear o3;have o3:=cA (HS.bf 5))|((with_reducible refine ax (N:=8) rfl ?_);refine cm 8 #[.slice none 0 0,.slice none 0 0,.slice none 0 0,.slice none 0 0,.int .i64 0] 27 ?_;intro b8 cg W_ bQ bn;replace HS:=HS.box cg bQ bn;clear cg bQ bn;clear o3;have jY:=aD (HS.bf 0);clear jY;have jY:=aD (HS.bf 0);have o3:=cA (HS.bf 6)))
 clear jY o3
 obtain ⟨uI,iW,iZ⟩:=(((((HS.dg 0 0 (.slice B0 n.ks.length d0) #[.slice B0 n.ks.length d0,.slice none 0 0,.slice none 0 0,.slice none 0 0,.int .i64 0]).dg 0 1 (.slice B1 n.ps.length d1) #[.slice B0 n.ks.length d0,.slice B1 n.ps.length d1,.slice none 0 0,.slice none 0 0,.int .i64 0]).dg 0 2 (.slice B2 n.ss.length d2) #[.slice B0 n.ks.length d0,.slice B1 n.ps.length d1,.slice B2 n.ss.length d2,.slice none 0 0,.int .i64 0]).dg 0 3 (.slice B3 n.ib.length d3) #[.slice B0 n.ks.length d0,.slice B1 n.ps.length d1,.slice B2 n.ss.length d2,.slice B3 n.ib.length d3,.int .i64 0]).dg 0 4 (.int .i64 n.sd) #[.slice B0 n.ks.length d0,.slice B1 n.ps.length d1,.slice B2 n.ss.length d2,.slice B3 n.ib.length d3,.int .i64 n.sd]).gen
 rw [iW]
 clear HS iW
 have HS:=iZ
 clear iZ
 have o3:=cA (HS.bf 6)
 cases q with
 |false=>
  rw [if_neg (by decide)] at h
  replace h:=cZ h;obtain ⟨LL_,h⟩:=h
  have LL:=ak LL_;clear LL_
  replace h:=bS h;obtain ⟨⟨dd,g1,g2⟩,H',h⟩:=h
  dsimp only at h
  replace h:=bS h;obtain ⟨⟨u,y1,y2⟩,T3,h⟩:=h
  dsimp only at h
  obtain ⟨h1,h2⟩:=(Prod.mk.injEq _ _ _ _).mp (Option.some.inj h)
  obtain ⟨h2,h3⟩:=(Prod.mk.injEq _ _ _ _).mp h2
  clear h
  subst h1 h2 h3
  go_wp2
  clear o3
  replace HS:=HS.qq Kd.bool 4
  go_loopg [9,30] st.length (fun kq v9 v30 w'=>∃(j:Nat) (d:List Bool) (f1 f2:Int) (A:Option Addr) (c:Nat),v30= .int .i64 (j:Int)∧Aside0 (cz.l0 l0 (st.length-j) d f1 f2=some (dd,g1,g2))∧j≤st.length∧st.length-j≤kq∧d.length=j∧Aside0 (Kd.C (Kd.int .u8) w A l0.length l0)∧Sep w w' (rA Kd.bool 4 v9 d::bA b18 #[.slice A l0.length c,.int .i64 f1,.int .u64 f2] 89::rA zN 53 (.slice As st.length cs) st::[]))
  case atStart=>exact ⟨0,[],0,0,_,_,rfl,H',Nat.zero_le _,Nat.le_refl _,rfl,HQ,LD (HS.fr9.fr8.mN)⟩
  case round=>
   clear HS H' HQ
   obtain ⟨j,d,f1,f2,A,c,rfl,HA,j1,j2,Kv,HQ,HS⟩:=hrel
   have h:=HA.out;clear HA
   have HD:=ak Kv;clear Kv
   obtain ⟨Ax,cx,rfl⟩:=HS.lJ 0
   by_cases hj:j<st.length
   ·have Fs:decide ((j:Int)<(st.length:Int))=true:=decide_eq_true (by omega)
    obtain ⟨m,hm⟩:∃m,st.length-j=m+1:=⟨st.length-j-1,by omega⟩
    rw [hm] at h
    simp only [cz.l0] at h
    replace h:=bS h;obtain ⟨⟨b,y1,y2⟩,T2,h⟩:=h
    dsimp only at h
    have hm1:m=st.length-(j+1):=by omega
    have H2:=ak (hm1▸h)
    clear h hm hm1
    have o3:=cA (HS.bf 1)
    go_wp2_with (first|(go_at_call 77;have dj:=dR.calls b18 l0 f1 f2 2 b y1 y2 w _ (au.AJ (HS.bf 1).out (HS.ge 1) HQ.out) HS.base T2.out;refine dj.mono ?_;clear dj;rintro e W_ ⟨rfl,PF,bn,Kt⟩;obtain ⟨A9,c9,bQ,cg,N2⟩:=PF;replace HS:=(HS.m7).Fg bn Kt bQ;replace HQ:=ak N2;clear bn Kt bQ cg N2;clear o3;have o3:=cA (HS.bf 0))|((with_reducible refine ax (N:=35) rfl ?_);refine Kd.gy Kd.bool _ 4 ?hg (N:=35) ?hd (xs:=([b]:List Bool)) (inner:=[.bool b]) (ok:=fun _=>True) (okp:=fun _=>True) ?hr ?hp (fun _ hk=>hk) trivial (Below.refl _ _) (Nat.le_refl _) (by simp) ?_;(case hd=>rfl);(case hg=>rfl);(case hr=>first|(go_simp;done)|(go_simp;rfl));(case hp=>exact (bN.one (show Kd.M Kd.bool _ _ _ b [.bool b] from rfl) (bN.none _ _)));intro xp W_ bQ bn _ _;replace HS:=HS.new (A:=rA Kd.bool 4 xp ([b])) bn bQ;clear bQ bn;obtain ⟨A8,c8,rfl⟩:=HS.lJ 0;clear o3;have o3:=cA (HS.bf 1))|((with_reducible refine cr (b:= .append) (xs:= #[.tmp 32,.tmp 35]) rfl ?_);at_builtin;have HU:=(HS.jb 0).2.2;replace HS:=HS.mN;refine Sep.uj Kd.bool rfl (.tmp 32) (.tmp 35) 36 4 (.bool false) 1 rfl Tryz.underlying36 tq rfl (by decide) (by omega) (.slice Ax d.length cx) d [b] A8 1 c8 rfl rfl HS HU (fun _ _ _ _ h=>h) (by have:=LL.out;have:=HD.out;omega) ?_;clear HS HU;intro v9' W_ HS;clear o3;have o3:=cA (HS.bf 2)))
    replace HS:=HS.m7.tail
    go_roundg (st.length-(j+1))
    case measure=>omega
    case rel=>exact ⟨j+1,_,_,_,_,_,gm hj LL.out,H2,hj,Nat.le_refl _,by rw [List.length_append,HD.out];rfl,HQ,HS⟩
   ·rw [show st.length-j=0 by omega] at h
    simp only [cz.l0] at h
    obtain ⟨h1,h2⟩:=(Prod.mk.injEq _ _ _ _).mp (Option.some.inj h)
    obtain ⟨h2,h3⟩:=(Prod.mk.injEq _ _ _ _).mp h2
    clear h
    subst h1 h2 h3
    have Fs:decide ((j:Int)<(st.length:Int))=false:=decide_eq_false (by omega)
    have o3:=cA (HS.bf 1)
    go_wp2_with (first|(go_at_call 78;have dj:=aJ.calls b18 l0 f1 f2 6 u y1 y2 w _ (au.AJ (HS.bf 1).out (HS.ge 1) HQ.out) HS.base T3.out;refine dj.mono ?_;clear dj;rintro e W_ ⟨rfl,PF,bn,Kt⟩;obtain ⟨A9,c9,bQ,cg,N2⟩:=PF;replace HS:=(HS.m7).Fg bn Kt bQ;replace HQ:=ak N2;clear bn Kt bQ cg N2;clear o3;have o3:=cA (HS.bf 0)))
    replace HS:=HS.m7.mN
    go_ret3
    exact ⟨_,_,er,LB HS,HS.base⟩
 |true=>
  rw [if_pos rfl] at h
  replace h:=bS h;obtain ⟨⟨u,y1,y2⟩,T3,h⟩:=h
  dsimp only at h
  obtain ⟨h1,h2⟩:=(Prod.mk.injEq _ _ _ _).mp (Option.some.inj h)
  obtain ⟨h2,h3⟩:=(Prod.mk.injEq _ _ _ _).mp h2
  clear h
  subst h1 h2 h3
  go_wp2_with (first|(go_at_call 78;have dj:=aJ.calls b18 l0 0 0 6 u y1 y2 w _ (au.AJ (HS.bf 6).out (HS.ge 6) HQ.out) HS.base T3.out;refine dj.mono ?_;clear dj;rintro e W_ ⟨rfl,PF,bn,Kt⟩;obtain ⟨A9,c9,bQ,cg,N2⟩:=PF;replace HS:=(HS.kG).Fg bn Kt bQ;replace HQ:=ak N2;clear bn Kt bQ cg N2;clear o3;have o3:=cA (HS.bf 0)))
  replace HS:=HS.kG.fr8
  go_ret3
  exact ⟨_,_,er,LB HS,HS.base⟩
mutual
def aU.j0:Nat→List (iK)→List Bool→Int→Bool→Option (List ByteArray×Bool)
  |0,_,_,_,_=>none
  |k+1,x0,x1,x2,x25=>if x25=true then (some (([]:List ByteArray),false)) else (aU.l0 k x1 x2 ([]:List ByteArray) x0 (x0.length:Int) 0)
def aU.l0:Nat→List Bool→Int→List ByteArray→List (iK)→Int→Int→Option (List ByteArray×Bool)
  |0,_,_,_,_,_,_=>none
  |k+1,x1,x2,x8,QD,Gs,Cu=>if Cu<Gs then (if 0≤Cu then (if Cu<(QD.length:Int) then (if Cu<(x1.length:Int) then (if aV false x1 Cu=true then (if ((cw QD Cu).f0)=1 then (if ((cw QD Cu).f1)=x2 then (if x8.length<8796093022208 then (aU.l0 k x1 x2 (x8++[(cw QD Cu).f2]) QD Gs (wrap64 (Cu+1))) else (none)) else (aU.l0 k x1 x2 x8 QD Gs (wrap64 (Cu+1)))) else (aU.l0 k x1 x2 x8 QD Gs (wrap64 (Cu+1)))) else (aU.l0 k x1 x2 x8 QD Gs (wrap64 (Cu+1)))) else (none)) else (none)) else (none)) else (some (x8,true))
end
def aU.f (k:Nat) (l0:List (iK)) (l1:List Bool) (a2:Int):Option (List ByteArray×Bool):=if (l0.length:Int)>60 then (aU.j0 k l0 l1 a2 true) else (if (l0.length:Int)=(l1.length:Int) then ((bD.f a2 0 3).bind fun IW=>(aU.j0 k l0 l1 a2 (!IW))) else (aU.j0 k l0 l1 a2 true))
theorem aU.calls (k:Nat) (A0:Option Addr) (c0:Nat) (l0:List (iK)) (A1:Option Addr) (c1:Nat) (l1:List Bool) (a2:Int) (r1:List ByteArray) (r2:Bool) (w:World) (eT:Kd.C zN w A0 l0.length l0) (fE:l0.length≤c0) (nY:Kd.C Kd.bool w A1 l1.length l1) (mY:l1.length≤c1) (h:aU.f k l0 l1 a2=some (r1,r2)):
  Calls Tryz.prog 40 #[.slice A0 l0.length c0,.slice A1 l1.length c1,.int .i64 a2] w fun e w'=>∃kV:Value,e= .returned (.tuple #[kV,.bool r2])∧Kd.R Kd.string 9 w' w.heap.size (fun _=>True) kV r1∧Below w.heap.size w w':=by
 have Fl:=Tryz.underlying53
 have fB:=ak eT;have jD:=ak fE;clear eT fE;have pX:=ak nY;have Ed:=ak mY;clear nY mY
 have HB:=ak (Below.refl w.heap.size w)
 have H:(if (l0.length:Int)>60 then (aU.j0 k l0 l1 a2 true) else (if (l0.length:Int)=(l1.length:Int) then ((bD.f a2 0 3).bind fun IW=>(aU.j0 k l0 l1 a2 (!IW))) else (aU.j0 k l0 l1 a2 true)))=some (r1,r2):=h
 clear h;have Gf:=ak H;clear H
 go_enter Tryz.func40,Tryz.ntmps40
 go_upto_region 1 with (fail)
 go_cut [25] (fun v25 wc=>∃(kq:Nat) (sX:Bool),v25= .bool sX∧Aside0 (aU.j0 kq l0 l1 a2 sX=some (r1,r2))∧Aside0 (kq≤k)∧Aside0 (Below w.heap.size w wc))
 case first=>
  have H:=Gf.out;clear Gf
  by_cases c5:(l0.length:Int)>60
  ·rw [if_pos c5] at H
   have jg:=H6 c5
   have BZ:decide (60<l0.length)=true:=decide_eq_true (by omega)
   clear c5
   (first|rw [jg]|(simp only [bX,cL];rw [jg])|skip)
   have H':=ak H
   clear H;go_wp2
   go_meet
   case rel=>exact ⟨_,(true),er,H',⟨by first|omega|exact Nat.le_refl _⟩,⟨ai HB⟩⟩
  ·rw [if_neg c5] at H
   have jg:=H7 c5
   have BZ:decide (60<l0.length)=false:=decide_eq_false (by omega)
   clear c5
   (first|rw [jg]|(simp only [bX,cL];rw [jg])|skip)
   by_cases c6:(l0.length:Int)=(l1.length:Int)
   ·rw [if_pos c6] at H
    have jz:=kI c6
    have qz:=kH c6
    have J0:(l0.length==l1.length)=true:=by first|simpa using c6|(simp at c6⊢;omega)
    clear c6;replace H:=bS H;obtain ⟨IW,A7,H⟩:=H
    have H':=ak H
    clear H
    go_wp2_with (first|(go_at_call 79;(with_reducible refine (bD.calls a2 0 3 IW _ A7.out).mono ?_);rintro e w' ⟨rfl,⟨nd,rfl⟩⟩))
    go_meet
    case rel=>exact ⟨_,(!IW),er,H',⟨by first|omega|exact Nat.le_refl _⟩,⟨ai HB⟩⟩
   ·rw [if_neg c6] at H
    have jz:=jV c6
    have qz:=jU c6
    have J0:(l0.length==l1.length)=false:=by first|simpa using c6|(simp at c6⊢;omega)
    have H':=ak H
    clear H;go_wp2
    go_meet
    case rel=>exact ⟨_,(true),er,H',⟨by first|omega|exact Nat.le_refl _⟩,⟨ai HB⟩⟩
 case rest=>
  clear Gf;(try clear c1)
  obtain ⟨kq,sX,rfl,HA,vn,HB⟩:=hcut
  cases kq with
  |zero=>exact absurd HA.out (by simp [aU.j0])
  |succ Ea=>
   have H:=HA.out;clear HA
   simp only [aU.j0] at H
   by_cases c8:sX=true
   ·subst c8
    have H1:(some (([]:List ByteArray),false))=some (r1,r2):=by rw [if_pos rfl] at H;exact H
    clear H
    have H:=H1
    clear H1
    simp only [Option.some.injEq,Prod.mk.injEq] at H
    obtain ⟨rfl,rfl⟩:=H;go_wp2
    go_ret2
    exact ⟨_,jT,AQ,ai HB⟩
   ·replace c8:=Bool.eq_false_iff.mpr c8
    subst c8
    have H1:(aU.l0 Ea l1 a2 ([]:List ByteArray) l0 (l0.length:Int) 0)=some (r1,r2):=by rw [if_neg (show¬(false=true) by decide)] at H;exact H
    clear H
    have H:=H1
    clear H1
    have H':=ak H
    clear H;go_wp2
    go_loopg [8,28] Ea (fun kq v8 v28 w'=>∃(gG:List ByteArray) (dr:Int),v28= .int .i64 dr∧Aside0 (aU.l0 kq l1 a2 gG l0 (l0.length:Int) dr=some (r1,r2))∧Aside0 (kq≤Ea)∧Aside0 (Kd.R Kd.string 9 w' w.heap.size (fun _=>True) v8 gG)∧Aside0 (Below w.heap.size w w'))
    case atStart=>exact ⟨(([]:List ByteArray)),(0),er,H',⟨Nat.le_refl _⟩,⟨AQ⟩,⟨ai HB⟩⟩
    case round=>
     clear H'
     (try clear c8)
     obtain ⟨gG,dr,rfl,HA,jj,gU,HB⟩:=hrel
     cases gk with
     |zero=>exact absurd HA.out (by simp [aU.l0])
     |succ k2=>
      have H:=HA.out;clear HA
      simp only [aU.l0] at H
      by_cases c9:dr<(l0.length:Int)
      ·rw [if_pos c9] at H
       have lQ:=decide_eq_true c9
       clear c9;replace H:=cZ H;obtain ⟨gu,H⟩:=H;have kC:=decide_eq_true gu;clear gu;replace H:=cZ H;obtain ⟨lp,H⟩:=H;have lW:=decide_eq_true lp;clear lp;replace H:=cZ H;obtain ⟨nL,H⟩:=H;have pU:=decide_eq_true nL;clear nL
       obtain ⟨ZH,Mx⟩:∃b_:Bool,b_=(aV false l1 dr):=⟨_,rfl⟩
       replace H:(if ZH=true then (if ((cw l0 dr).f0)=1 then (if ((cw l0 dr).f1)=a2 then (if gG.length<8796093022208 then (aU.l0 k2 l1 a2 (gG++[(cw l0 dr).f2]) l0 (l0.length:Int) (wrap64 (dr+1))) else (none)) else (aU.l0 k2 l1 a2 gG l0 (l0.length:Int) (wrap64 (dr+1)))) else (aU.l0 k2 l1 a2 gG l0 (l0.length:Int) (wrap64 (dr+1)))) else (aU.l0 k2 l1 a2 gG l0 (l0.length:Int) (wrap64 (dr+1))))=some (r1,r2):=by rw [←Mx] at H;exact H
       have Iu:=ak Mx;clear Mx
       by_cases nv:ZH=true
       ·subst nv
        have H1:(if ((cw l0 dr).f0)=1 then (if ((cw l0 dr).f1)=a2 then (if gG.length<8796093022208 then (aU.l0 k2 l1 a2 (gG++[(cw l0 dr).f2]) l0 (l0.length:Int) (wrap64 (dr+1))) else (none)) else (aU.l0 k2 l1 a2 gG l0 (l0.length:Int) (wrap64 (dr+1)))) else (aU.l0 k2 l1 a2 gG l0 (l0.length:Int) (wrap64 (dr+1))))=some (r1,r2):=by rw [if_pos rfl] at H;exact H
        clear H
        have H:=H1
        clear H1
        by_cases rB:((cw l0 dr).f0)=1
        ·rw [if_pos rB] at H
         have ue:=kI rB
         have yj:=kH rB
         clear rB
         by_cases zl:((cw l0 dr).f1)=a2
         ·rw [if_pos zl] at H
          have DL:=kI zl
          have Ij:=kH zl
          clear zl;replace H:=cZ H;obtain ⟨CA,H⟩:=H;have aaW:=ak CA;clear CA
          obtain ⟨Wn,eZ⟩:∃y_:List ByteArray,y_=(gG++[(cw l0 dr).f2]):=⟨_,rfl⟩
          replace H:(aU.l0 k2 l1 a2 Wn l0 (l0.length:Int) (wrap64 (dr+1)))=some (r1,r2):=yH
          have aaq:=ak eZ;clear eZ
          have H':=ak H
          clear H
          have sD:0≤(dr:Int):=da
          have su:dr<(l0.length:Int):=da
          obtain ⟨Na,FO,ju,jt,js⟩:=oz fB.out dr sD su
          cases FO
          replace ju:=(HB.out.cell (World.block_lt_of_cell? w _ ju)).trans ju
          replace jt:=(HB.out.cell (World.block_lt_of_cell? w _ jt)).trans jt
          replace js:=(HB.out.cell (World.block_lt_of_cell? w _ js)).trans js
          replace sD:=eq_true sD;replace su:=eq_true su
          go_wp2_with (first|((with_reducible refine ax (N:=10) rfl ?_);(try (refine gj (by rfl) ?_;dsimp only));refine jG ?hg (N:=10) ?hd (cs:= #[.int .i64 0,.int .i64 0,.string (⟨#[]⟩:ByteArray)]) (t:=53) ?hr ?_;(case hd=>rfl);(case hg=>rfl);(case hr=>exact qg);intro iU hg NZ dO hb;replace gU:=ak (Kd.ey (fy gU) hb);have om:=ak (dO);have nH:=ak (lT hg (ai HB));have uA:=ak (lT hg (ai HB));replace HB:=ak (aE (ai HB) hb);clear hb dO hg;have abV:=cA om;have sC:0≤(dr:Int):=da;have sr:dr<(l1.length:Int):=da;obtain ⟨ny,FN,cD⟩:=Kd.kP pX.out dr sC sr;(try rw [←Iu.out] at cD);cases FN;have gM:ny.block≠iU:=Nat.ne_of_lt (Nat.lt_of_lt_of_le (by have:=World.block_lt_of_cell? _ _ cD;first|rwa [aX] at this|exact this) nH.out);have gL:ny.block≠iU:=Nat.ne_of_lt (Nat.lt_of_lt_of_le (by have:=World.block_lt_of_cell? _ _ cD;first|rwa [aX] at this|exact this) nH.out);have gK:ny.block≠iU:=Nat.ne_of_lt (Nat.lt_of_lt_of_le (by have:=World.block_lt_of_cell? _ _ cD;first|rwa [aX] at this|exact this) nH.out);replace cD:=(HB.out.cell (World.block_lt_of_cell? w _ cD)).trans cD;replace cD:=(cell_far (p:=⟨iU,0,none⟩) (by first|(rw [aX];exact gM)|(show (Addr.add _ _).block≠_;rw [aX];exact gM)|exact gM) (.int .i64 ((cw l0 dr).f0))).trans cD;replace cD:=(cell_far (p:=⟨iU,1,none⟩) (by first|(rw [aX];exact gL)|(show (Addr.add _ _).block≠_;rw [aX];exact gL)|exact gL) (.int .i64 ((cw l0 dr).f1))).trans cD;replace cD:=(cell_far (p:=⟨iU,2,none⟩) (by first|(rw [aX];exact gK)|(show (Addr.add _ _).block≠_;rw [aX];exact gK)|exact gK) (.string ((cw l0 dr).f2))).trans cD;clear gM;clear gL;clear gK;replace sC:=eq_true sC;replace sr:=eq_true sr)|((with_reducible refine cr (b:= .append) (xs:= #[.tmp 48,.tmp 51]) rfl ?_);(try (refine gj (by rfl) ?_;dsimp only));at_builtin;refine Kd.lS Kd.string (w0:=w) w.heap.size rfl (.tmp 48) (.tmp 51) 62 9 (.string ⟨#[]⟩) 16 rfl Tryz.underlying62 mK rfl (by decide) (by omega) u8 gG ((cw l0 dr).f2) [.string ((cw l0 dr).f2)] (fun _=>True) (fun _=>False) rfl (by first|(go_simp;done)|(go_simp;rfl)) ?aP (fun _ hk=>hk.elim) ?aF ?aO ?aB ?aS ?aL ?_;(case aP=>exact rfl);(case aB=>exact (aT HB uA));(case aF=>exact (fun _ _=>trivial));(case aO=>exact (by (with_reducible repeat (first|apply Kd.cu|apply Kd.ct|apply Kd.cy));exact Kd.bF (mO (Kd.jB gU.out om.out (by decide))) (fun _ hk=>trivial)));(case aS=>exact (bC (aT HB uA)));(case aL=>have:=aaW.out;omega);intro ags w20 ho hb hg gV;rw [←aaq.out] at ho;replace om:=ak (lq (g:=iU) (o:= .cells #[.int .i64 ((cw l0 dr).f0),.int .i64 ((cw l0 dr).f1),.string ((cw l0 dr).f2)] 53 (0,0)) (by (with_reducible repeat (first|refine dL ?_ _|refine ee ?_|refine dM ?_ _));refine fF (cs:= #[.int .i64 ((cw l0 dr).f0),.int .i64 ((cw l0 dr).f1),.string (⟨#[]⟩:ByteArray)]) ?_ 2 _ rfl;(with_reducible repeat (first|refine dL ?_ _|refine ee ?_|refine dM ?_ _));refine fF (cs:= #[.int .i64 ((cw l0 dr).f0),.int .i64 0,.string (⟨#[]⟩:ByteArray)]) ?_ 1 _ rfl;(with_reducible repeat (first|refine dL ?_ _|refine ee ?_|refine dM ?_ _));refine fF (cs:= #[.int .i64 0,.int .i64 0,.string (⟨#[]⟩:ByteArray)]) ?_ 0 _ rfl;(with_reducible repeat (first|refine dL ?_ _|refine ee ?_|refine dM ?_ _));exact om.out) hg (Kd.F9 gU.out om.out (by decide)));replace HB:=ak (hb);have aa2:=ak (ho);clear gU;clear ho hb hg gV))
          go_roundg k2
          case measure=>have:=vn.out;have:=jj.out;omega
          case rel=>exact ⟨(Wn),(wrap64 (dr+1)),er,H',⟨by have:=vn.out;have:=jj.out;omega⟩,⟨fy aa2⟩,⟨aT HB uA⟩⟩
         ·rw [if_neg zl] at H
          have DL:=jV zl
          have Ij:=jU zl
          have H':=ak H
          clear H
          have sD:0≤(dr:Int):=da
          have su:dr<(l0.length:Int):=da
          obtain ⟨Na,FO,ju,jt,js⟩:=oz fB.out dr sD su
          cases FO
          replace ju:=(HB.out.cell (World.block_lt_of_cell? w _ ju)).trans ju
          replace jt:=(HB.out.cell (World.block_lt_of_cell? w _ jt)).trans jt
          replace js:=(HB.out.cell (World.block_lt_of_cell? w _ js)).trans js
          replace sD:=eq_true sD;replace su:=eq_true su
          go_wp2_with (first|((with_reducible refine ax (N:=10) rfl ?_);(try (refine gj (by rfl) ?_;dsimp only));refine jG ?hg (N:=10) ?hd (cs:= #[.int .i64 0,.int .i64 0,.string (⟨#[]⟩:ByteArray)]) (t:=53) ?hr ?_;(case hd=>rfl);(case hg=>rfl);(case hr=>exact qg);intro iU hg w21 dO hb;replace gU:=ak (Kd.ey (fy gU) hb);have om:=ak (dO);have nH:=ak (lT hg (ai HB));have uA:=ak (lT hg (ai HB));replace HB:=ak (aE (ai HB) hb);clear hb dO hg;have agp:=cA om;have sC:0≤(dr:Int):=da;have sr:dr<(l1.length:Int):=da;obtain ⟨ny,FN,cD⟩:=Kd.kP pX.out dr sC sr;(try rw [←Iu.out] at cD);cases FN;have gM:ny.block≠iU:=Nat.ne_of_lt (Nat.lt_of_lt_of_le (by have:=World.block_lt_of_cell? _ _ cD;first|rwa [aX] at this|exact this) nH.out);have gL:ny.block≠iU:=Nat.ne_of_lt (Nat.lt_of_lt_of_le (by have:=World.block_lt_of_cell? _ _ cD;first|rwa [aX] at this|exact this) nH.out);have gK:ny.block≠iU:=Nat.ne_of_lt (Nat.lt_of_lt_of_le (by have:=World.block_lt_of_cell? _ _ cD;first|rwa [aX] at this|exact this) nH.out);replace cD:=(HB.out.cell (World.block_lt_of_cell? w _ cD)).trans cD;replace cD:=(cell_far (p:=⟨iU,0,none⟩) (by first|(rw [aX];exact gM)|(show (Addr.add _ _).block≠_;rw [aX];exact gM)|exact gM) (.int .i64 ((cw l0 dr).f0))).trans cD;replace cD:=(cell_far (p:=⟨iU,1,none⟩) (by first|(rw [aX];exact gL)|(show (Addr.add _ _).block≠_;rw [aX];exact gL)|exact gL) (.int .i64 ((cw l0 dr).f1))).trans cD;replace cD:=(cell_far (p:=⟨iU,2,none⟩) (by first|(rw [aX];exact gK)|(show (Addr.add _ _).block≠_;rw [aX];exact gK)|exact gK) (.string ((cw l0 dr).f2))).trans cD;clear gM;clear gL;clear gK;replace sC:=eq_true sC;replace sr:=eq_true sr))
          go_roundg k2
          case measure=>have:=vn.out;have:=jj.out;omega
          case rel=>exact ⟨(gG),(wrap64 (dr+1)),er,H',⟨by have:=vn.out;have:=jj.out;omega⟩,⟨by (with_reducible repeat (first|apply Kd.cu|apply Kd.ct|apply Kd.cy));exact Kd.bF (mO (Kd.jB gU.out om.out (by decide))) (fun _ hk=>trivial)⟩,⟨aT HB uA⟩⟩
        ·rw [if_neg rB] at H
         have ue:=jV rB
         have yj:=jU rB
         have H':=ak H
         clear H
         have sD:0≤(dr:Int):=da
         have su:dr<(l0.length:Int):=da
         obtain ⟨Na,FO,ju,jt,js⟩:=oz fB.out dr sD su
         cases FO
         replace ju:=(HB.out.cell (World.block_lt_of_cell? w _ ju)).trans ju
         replace jt:=(HB.out.cell (World.block_lt_of_cell? w _ jt)).trans jt
         replace js:=(HB.out.cell (World.block_lt_of_cell? w _ js)).trans js
         replace sD:=eq_true sD;replace su:=eq_true su
         go_wp2_with (first|((with_reducible refine ax (N:=10) rfl ?_);(try (refine gj (by rfl) ?_;dsimp only));refine jG ?hg (N:=10) ?hd (cs:= #[.int .i64 0,.int .i64 0,.string (⟨#[]⟩:ByteArray)]) (t:=53) ?hr ?_;(case hd=>rfl);(case hg=>rfl);(case hr=>exact qg);intro iU hg w23 dO hb;replace gU:=ak (Kd.ey (fy gU) hb);have om:=ak (dO);have nH:=ak (lT hg (ai HB));have uA:=ak (lT hg (ai HB));replace HB:=ak (aE (ai HB) hb);clear hb dO hg;have WY:=cA om;have sC:0≤(dr:Int):=da;have sr:dr<(l1.length:Int):=da;obtain ⟨ny,FN,cD⟩:=Kd.kP pX.out dr sC sr;(try rw [←Iu.out] at cD);cases FN;have gM:ny.block≠iU:=Nat.ne_of_lt (Nat.lt_of_lt_of_le (by have:=World.block_lt_of_cell? _ _ cD;first|rwa [aX] at this|exact this) nH.out);have gL:ny.block≠iU:=Nat.ne_of_lt (Nat.lt_of_lt_of_le (by have:=World.block_lt_of_cell? _ _ cD;first|rwa [aX] at this|exact this) nH.out);have gK:ny.block≠iU:=Nat.ne_of_lt (Nat.lt_of_lt_of_le (by have:=World.block_lt_of_cell? _ _ cD;first|rwa [aX] at this|exact this) nH.out);replace cD:=(HB.out.cell (World.block_lt_of_cell? w _ cD)).trans cD;replace cD:=(cell_far (p:=⟨iU,0,none⟩) (by first|(rw [aX];exact gM)|(show (Addr.add _ _).block≠_;rw [aX];exact gM)|exact gM) (.int .i64 ((cw l0 dr).f0))).trans cD;replace cD:=(cell_far (p:=⟨iU,1,none⟩) (by first|(rw [aX];exact gL)|(show (Addr.add _ _).block≠_;rw [aX];exact gL)|exact gL) (.int .i64 ((cw l0 dr).f1))).trans cD;replace cD:=(cell_far (p:=⟨iU,2,none⟩) (by first|(rw [aX];exact gK)|(show (Addr.add _ _).block≠_;rw [aX];exact gK)|exact gK) (.string ((cw l0 dr).f2))).trans cD;clear gM;clear gL;clear gK;replace sC:=eq_true sC;replace sr:=eq_true sr))
         go_roundg k2
         case measure=>have:=vn.out;have:=jj.out;omega
         case rel=>exact ⟨(gG),(wrap64 (dr+1)),er,H',⟨by have:=vn.out;have:=jj.out;omega⟩,⟨by (with_reducible repeat (first|apply Kd.cu|apply Kd.ct|apply Kd.cy));exact Kd.bF (mO (Kd.jB gU.out om.out (by decide))) (fun _ hk=>trivial)⟩,⟨aT HB uA⟩⟩
       ·replace nv:=Bool.eq_false_iff.mpr nv
        subst nv
        have H1:(aU.l0 k2 l1 a2 gG l0 (l0.length:Int) (wrap64 (dr+1)))=some (r1,r2):=by rw [if_neg (show¬(false=true) by decide)] at H;exact H
        clear H
        have H:=H1
        clear H1
        have H':=ak H
        clear H
        have sD:0≤(dr:Int):=da
        have su:dr<(l0.length:Int):=da
        obtain ⟨Na,FO,ju,jt,js⟩:=oz fB.out dr sD su
        cases FO
        replace ju:=(HB.out.cell (World.block_lt_of_cell? w _ ju)).trans ju
        replace jt:=(HB.out.cell (World.block_lt_of_cell? w _ jt)).trans jt
        replace js:=(HB.out.cell (World.block_lt_of_cell? w _ js)).trans js
        replace sD:=eq_true sD;replace su:=eq_true su
        go_wp2_with (first|((with_reducible refine ax (N:=10) rfl ?_);(try (refine gj (by rfl) ?_;dsimp only));refine jG ?hg (N:=10) ?hd (cs:= #[.int .i64 0,.int .i64 0,.string (⟨#[]⟩:ByteArray)]) (t:=53) ?hr ?_;(case hd=>rfl);(case hg=>rfl);(case hr=>exact qg);intro iU hg w25 dO hb;replace gU:=ak (Kd.ey (fy gU) hb);have om:=ak (dO);have nH:=ak (lT hg (ai HB));have uA:=ak (lT hg (ai HB));replace HB:=ak (aE (ai HB) hb);clear hb dO hg;have abU:=cA om;have sC:0≤(dr:Int):=da;have sr:dr<(l1.length:Int):=da;obtain ⟨ny,FN,cD⟩:=Kd.kP pX.out dr sC sr;(try rw [←Iu.out] at cD);cases FN;have gM:ny.block≠iU:=Nat.ne_of_lt (Nat.lt_of_lt_of_le (by have:=World.block_lt_of_cell? _ _ cD;first|rwa [aX] at this|exact this) nH.out);have gL:ny.block≠iU:=Nat.ne_of_lt (Nat.lt_of_lt_of_le (by have:=World.block_lt_of_cell? _ _ cD;first|rwa [aX] at this|exact this) nH.out);have gK:ny.block≠iU:=Nat.ne_of_lt (Nat.lt_of_lt_of_le (by have:=World.block_lt_of_cell? _ _ cD;first|rwa [aX] at this|exact this) nH.out);replace cD:=(HB.out.cell (World.block_lt_of_cell? w _ cD)).trans cD;replace cD:=(cell_far (p:=⟨iU,0,none⟩) (by first|(rw [aX];exact gM)|(show (Addr.add _ _).block≠_;rw [aX];exact gM)|exact gM) (.int .i64 ((cw l0 dr).f0))).trans cD;replace cD:=(cell_far (p:=⟨iU,1,none⟩) (by first|(rw [aX];exact gL)|(show (Addr.add _ _).block≠_;rw [aX];exact gL)|exact gL) (.int .i64 ((cw l0 dr).f1))).trans cD;replace cD:=(cell_far (p:=⟨iU,2,none⟩) (by first|(rw [aX];exact gK)|(show (Addr.add _ _).block≠_;rw [aX];exact gK)|exact gK) (.string ((cw l0 dr).f2))).trans cD;clear gM;clear gL;clear gK;replace sC:=eq_true sC;replace sr:=eq_true sr))
        go_roundg k2
        case measure=>have:=vn.out;have:=jj.out;omega
        case rel=>exact ⟨(gG),(wrap64 (dr+1)),er,H',⟨by have:=vn.out;have:=jj.out;omega⟩,⟨by (with_reducible repeat (first|apply Kd.cu|apply Kd.ct|apply Kd.cy));exact Kd.bF (mO (Kd.jB gU.out om.out (by decide))) (fun _ hk=>trivial)⟩,⟨aT HB uA⟩⟩
      ·rw [if_neg c9] at H
       have lQ:=decide_eq_false c9
       clear c9
       simp only [Option.some.injEq,Prod.mk.injEq] at H
       obtain ⟨rfl,rfl⟩:=H;go_wp2
       go_ret2
       exact ⟨_,jT,by (with_reducible repeat (first|apply Kd.cu|apply Kd.ct|apply Kd.cy));exact gU.out,ai HB⟩
end Go.Proofs.YtihekdlcfohkkaaGreatDoor.QFnNet
