-- printed by this session's own program (wip/tools/pp.py: the kit's print.py with changes); Lean checks it
import Derived.Test.YtihekdlcfohkkaaGreatDoorQFnNetsx0
import Derived.Test.YtihekdlcfohkkaaGreatDoorQFnNetsx3
import Derived.Test.YtihekdlcfohkkaaGreatDoorQFnNetsx4
import Derived.Test.YtihekdlcfohkkaaGreatDoorQFnNetsx9
import Derived.Test.YtihekdlcfohkkaaGreatDoorQFnNetsx11
namespace Go.Proofs.YtihekdlcfohkkaaGreatDoor.QFnNets
open Go.RowKit Go.Proofs.YtihekdlcfohkkaaGreatDoorW.PrintWords Go.Proofs.YtihekdlcfohkkaaGreatDoorW.PrintLast Go.Proofs.YtihekdlcfohkkaaGreatDoorW.PrintMore
attribute [local go_sem] max2_int min2_int max_two min_two max_three min_three max_four min_four strLss strGtr strLeq strGeq
set_option linter.unusedVariables false
set_option linter.unusedSimpArgs false
set_option maxHeartbeats 16000000
set_option maxRecDepth 100000
mutual
def ai.l0:Nat→List ByteArray→Int→Int→Int→Int→Option (List ByteArray)
  |0,_,_,_,_,_=>none
  |k+1,x0,x1,x6,x7,x8=>if x8≤x1 then ((af.f k x0 x7 x8).bind fun QU=>(ai.l0 k QU x1 x6 x8 (wrap64 (x8+x6)))) else ((af.f k x0 x7 x1).bind fun QT=>(ai.l1 k QT x1 x6))
def ai.l1:Nat→List ByteArray→Int→Int→Option (List ByteArray)
  |0,_,_,_=>none
  |k+1,x0,x1,x6=>if x6<x1 then (ai.l2 k x0 x1 x6 0 (wrap64 (2*x6))) else (some x0)
def ai.l2:Nat→List ByteArray→Int→Int→Int→Int→Option (List ByteArray)
  |0,_,_,_,_,_=>none
  |k+1,x0,x1,x6,x7,x8=>if x8≤x1 then ((aa.f k x0 x7 (wrap64 (x7+x6)) x8).bind fun QS=>(ai.l2 k QS x1 x6 x8 (wrap64 (x8+(wrap64 (2*x6)))))) else (if (wrap64 (x7+x6))<x1 then ((aa.f k x0 x7 (wrap64 (x7+x6)) x1).bind fun QO=>(ai.l1 k QO x1 (wrap64 (x6*2)))) else (ai.l1 k x0 x1 (wrap64 (x6*2))))
end
def ai.f (k:Nat) (l0:List ByteArray) (a1:Int):Option (List ByteArray):=ai.l0 k l0 a1 20 0 20
theorem ai.calls (k:Nat) (iZ:Nat→Prop) (eF:Value) (l0:List ByteArray) (a1:Int) (r:List ByteArray) (w0 w:World) (hB:Below w0.heap.size w0 w) (xh:Kd.R Kd.string 9 w w0.heap.size iZ eF l0) (h:ai.f k l0 a1=some r):
  Calls Tryz.prog 120 #[eF,.int .i64 a1,.func (.func 107) #[] #[]] w fun e w'=>e= .returned (.tuple #[])∧Kd.R Kd.string 9 w' w0.heap.size (fun k_=>(iZ k_∨w.heap.size≤k_)) eF r∧Below w0.heap.size w0 w'∧Kept w w' (fun k_=>iZ k_):=by
 have DS:=ak (show Kd.R Kd.string 9 w w0.heap.size (fun k_=>(iZ k_∨w.heap.size≤k_)) eF l0 from Kd.bJ xh (fun k_ hk=>(.inl hk)))
 have HK:=ak (Kept.refl w (fun k_=>iZ k_))
 have JW:=ak hB.size
 have HB:=ak hB;clear hB
 have H:(ai.l0 k l0 a1 20 0 20)=some r:=h
 clear h
 have H':=ak H
 clear H
 go_enter Tryz.func120,Tryz.ntmps120
 go_wp2
 go_loopg [7,8] k (fun kq v7 v8 w'=>∃(ia:List ByteArray) (dD:Int) (cX:Int),v7= .int .i64 dD∧v8= .int .i64 cX∧Aside0 (ai.l0 kq ia a1 20 dD cX=some r)∧Aside0 (kq≤k)∧Aside0 (Kd.R Kd.string 9 w' w0.heap.size (fun k_=>(iZ k_∨w.heap.size≤k_)) eF ia)∧Aside0 (Kept w w' (fun k_=>iZ k_))∧Aside0 (Below w0.heap.size w0 w'))
 case atStart=>exact ⟨(l0),(0),(20),er,er,H',⟨Nat.le_refl _⟩,⟨dH DS⟩,⟨lI HK⟩,⟨aq HB⟩⟩
 case round=>
  clear H'
  obtain ⟨ia,dD,cX,rfl,rfl,HA,gf,bH,HK,HB⟩:=hrel
  cases gk with
  |zero=>exact absurd HA.out (by simp [ai.l0])
  |succ k1=>
   have H:=HA.out;clear HA
   simp only [ai.l0] at H
   by_cases c4:cX≤a1
   ·rw [if_pos c4] at H
    have jn:=decide_eq_true c4
    clear c4;replace H:=bS H;obtain ⟨QU,A5,H⟩:=H
    have H':=ak H
    clear H
    obtain ⟨Ao6,co6,eo6⟩:=Kd.de bH.out
    subst eo6
    go_wp2_with (first|(go_at_call 135;(with_reducible refine (af.calls k1 (fun k_=>some k_=(.slice Ao6 ia.length co6:Value).ownBlock) (.slice Ao6 ia.length co6) ia dD cX QU w0 _ ?side1 ?side2 A5.out).mono ?_);(case side1=>exact aq HB);(case side2=>exact Kd.iN rfl bH.out);rintro e w7 ⟨rfl,nV,hb,ov⟩;replace HK:=ak (Kept.mN (S:=(fun k_=>iZ k_)) (lI HK) ov (fun k_ nx=>(fun e_=>(bH.out.1 k_ e_.symm)) nx));replace bH:=ak (Kd.lD rfl nV (fun k_ e_=>bH.out.1 k_ e_));replace HB:=ak (hb);(try clear hb);(try clear ov);(try clear nV)))
    go_roundg k1
    case measure=>have:=gf.out;omega
    case rel=>exact ⟨(QU),(cX),(wrap64 (cX+20)),er,er,H',⟨by have:=gf.out;omega⟩,⟨dH bH⟩,⟨lI HK⟩,⟨aq HB⟩⟩
   ·rw [if_neg c4] at H
    have jn:=decide_eq_false c4
    clear c4;replace H:=bS H;obtain ⟨QT,A8,H⟩:=H
    have H':=ak H
    clear H
    obtain ⟨U8,TX,eo9⟩:=Kd.de bH.out
    subst eo9
    go_wp2_with (first|(go_at_call 135;(with_reducible refine (af.calls k1 (fun k_=>some k_=(.slice U8 ia.length TX:Value).ownBlock) (.slice U8 ia.length TX) ia dD a1 QT w0 _ ?side1 ?side2 A8.out).mono ?_);(case side1=>exact aq HB);(case side2=>exact Kd.iN rfl bH.out);rintro e w10 ⟨rfl,nV,hb,ov⟩;replace HK:=ak (Kept.mN (S:=(fun k_=>iZ k_)) (lI HK) ov (fun k_ nx=>(fun e_=>(bH.out.1 k_ e_.symm)) nx));replace bH:=ak (Kd.lD rfl nV (fun k_ e_=>bH.out.1 k_ e_));replace HB:=ak (hb);(try clear hb);(try clear ov);(try clear nV)))
    (try simp only [Act.put,List.setIfInBounds_toArray,List.set_cons_zero,List.set_cons_succ])
    go_loopg [6] k1 (fun kq v6 w'=>∃(eV:List ByteArray) (bU:Int),v6= .int .i64 bU∧Aside0 (ai.l1 kq eV a1 bU=some r)∧Aside0 (kq≤k1)∧Aside0 (Kd.R Kd.string 9 w' w0.heap.size (fun k_=>(iZ k_∨w.heap.size≤k_)) (.slice U8 ia.length TX) eV)∧Aside0 (Kept w w' (fun k_=>iZ k_))∧Aside0 (Below w0.heap.size w0 w'))
    case atStart=>exact ⟨(QT),(20),er,H',⟨Nat.le_refl _⟩,⟨dH bH⟩,⟨lI HK⟩,⟨aq HB⟩⟩
    case round=>
     clear H'
     (try clear jn)
     obtain ⟨eV,bU,rfl,HA,kg,bH,HK,HB⟩:=hrel
     have uv:=(Kd.aJ bH.out).1
     rw [uv] at bH
     (try simp only [uv])
     cases gk with
     |zero=>exact absurd HA.out (by simp [ai.l1])
     |succ k2=>
      have H:=HA.out;clear HA
      simp only [ai.l1] at H
      by_cases mY:bU<a1
      ·rw [if_pos mY] at H
       have nM:=decide_eq_true mY
       clear mY
       have H':=ak H
       clear H;go_wp2
       go_loopg [7,8] k2 (fun kq v7 v8 w'=>∃(Ao:List ByteArray) (D9:Int) (FR:Int),v7= .int .i64 D9∧v8= .int .i64 FR∧Aside0 (ai.l2 kq Ao a1 bU D9 FR=some r)∧Aside0 (kq≤k2)∧Aside0 (Kd.R Kd.string 9 w' w0.heap.size (fun k_=>(iZ k_∨w.heap.size≤k_)) (.slice U8 eV.length TX) Ao)∧Aside0 (Kept w w' (fun k_=>iZ k_))∧Aside0 (Below w0.heap.size w0 w'))
       case atStart=>exact ⟨(eV),(0),(wrap64 (2*bU)),er,er,H',⟨Nat.le_refl _⟩,⟨by (try simp only [uv]);(with_reducible repeat (first|apply Kd.cz|apply Kd.cy|apply Kd.cD));exact bH.out⟩,⟨lI HK⟩,⟨aq HB⟩⟩
       case round=>
        clear H'
        (try clear nM)
        obtain ⟨Ao,D9,FR,rfl,rfl,HA,yd,bH,HK,HB⟩:=hrel
        have wG:=(Kd.aJ bH.out).1
        rw [wG] at bH
        (try simp only [wG])
        cases gk with
        |zero=>exact absurd HA.out (by simp [ai.l2])
        |succ k3=>
         have H:=HA.out;clear HA
         simp only [ai.l2] at H
         by_cases nW:FR≤a1
         ·rw [if_pos nW] at H
          have sN:=decide_eq_true nW
          clear nW;replace H:=bS H;obtain ⟨QS,sn,H⟩:=H
          have H':=ak H
          clear H
          go_wp2_with (first|(go_at_call 136;(with_reducible refine (aa.calls k3 (fun k_=>some k_=(.slice U8 Ao.length TX:Value).ownBlock) (.slice U8 Ao.length TX) Ao D9 (wrap64 (D9+bU)) FR QS w0 _ ?side1 ?side2 sn.out).mono ?_);(case side1=>exact aq HB);(case side2=>exact Kd.iN rfl bH.out);rintro e w14 ⟨rfl,nV,hb,ov⟩;replace HK:=ak (Kept.mN (S:=(fun k_=>iZ k_)) (lI HK) ov (fun k_ nx=>(fun e_=>(bH.out.1 k_ e_.symm)) nx));replace bH:=ak (Kd.lD rfl nV (fun k_ e_=>bH.out.1 k_ e_));replace HB:=ak (hb);(try clear hb);(try clear ov);(try clear nV)))
          (try simp only [←wG])
          go_roundg k3
          case measure=>have:=gf.out;have:=kg.out;have:=yd.out;omega
          case rel=>exact ⟨(QS),(FR),(wrap64 (FR+(wrap64 (2*bU)))),er,er,H',⟨by have:=gf.out;have:=kg.out;have:=yd.out;omega⟩,⟨by (try simp only [uv]);(try simp only [wG]);(with_reducible repeat (first|apply Kd.cz|apply Kd.cy|apply Kd.cD));exact bH.out⟩,⟨lI HK⟩,⟨aq HB⟩⟩
         ·rw [if_neg nW] at H
          have sN:=decide_eq_false nW
          clear nW
          by_cases wP:(wrap64 (D9+bU))<a1
          ·rw [if_pos wP] at H
           have zx:=decide_eq_true wP
           clear wP;replace H:=bS H;obtain ⟨QO,A16,H⟩:=H
           have H':=ak H
           clear H
           go_wp2_with (first|(go_at_call 136;(with_reducible refine (aa.calls k3 (fun k_=>some k_=(.slice U8 Ao.length TX:Value).ownBlock) (.slice U8 Ao.length TX) Ao D9 (wrap64 (D9+bU)) a1 QO w0 _ ?side1 ?side2 A16.out).mono ?_);(case side1=>exact aq HB);(case side2=>exact Kd.iN rfl bH.out);rintro e L6 ⟨rfl,nV,hb,ov⟩;replace HK:=ak (Kept.mN (S:=(fun k_=>iZ k_)) (lI HK) ov (fun k_ nx=>(fun e_=>(bH.out.1 k_ e_.symm)) nx));replace bH:=ak (Kd.lD rfl nV (fun k_ e_=>bH.out.1 k_ e_));replace HB:=ak (hb);(try clear hb);(try clear ov);(try clear nV)))
           (try simp only [←uv,←wG])
           go_roundg k3
           case measure=>have:=gf.out;have:=kg.out;have:=yd.out;omega
           case rel=>exact ⟨(QO),(wrap64 (bU*2)),er,H',⟨by have:=gf.out;have:=kg.out;have:=yd.out;omega⟩,⟨by (try simp only [uv]);(try simp only [wG]);(with_reducible repeat (first|apply Kd.cz|apply Kd.cy|apply Kd.cD));exact bH.out⟩,⟨lI HK⟩,⟨aq HB⟩⟩
          ·rw [if_neg wP] at H
           have zx:=decide_eq_false wP
           clear wP
           have H':=ak H
           clear H;go_wp2
           (try simp only [←uv,←wG])
           go_roundg k3
           case measure=>have:=gf.out;have:=kg.out;have:=yd.out;omega
           case rel=>exact ⟨(Ao),(wrap64 (bU*2)),er,H',⟨by have:=gf.out;have:=kg.out;have:=yd.out;omega⟩,⟨by (try simp only [uv]);(try simp only [wG]);(with_reducible repeat (first|apply Kd.cz|apply Kd.cy|apply Kd.cD));exact bH.out⟩,⟨lI HK⟩,⟨aq HB⟩⟩
      ·rw [if_neg mY] at H
       have nM:=decide_eq_false mY
       clear mY
       obtain rfl:=Option.some.inj H
       go_wp2
       first|go_end0|((try simp only [Exit.inBlock,Exit.then]);refine bodyPost_ret (results_none rfl _ _ _) rfl ?_)
       exact ⟨kK,(by first|exact (dH bH)|(simp only [uv];exact (dH bH))),aq HB,lI HK⟩
def dj.f (k:Nat) (l0:List ByteArray):Option (List ByteArray):=(ai.f k l0 (l0.length:Int)).bind fun ME=>(some ME)
theorem dj.calls (k:Nat) (iZ:Nat→Prop) (eF:Value) (l0:List ByteArray) (r:List ByteArray) (w0 w:World) (hB:Below w0.heap.size w0 w) (xh:Kd.R Kd.string 9 w w0.heap.size iZ eF l0) (h:dj.f k l0=some r):
  Calls Tryz.prog 106 #[eF,.func (.func 107) #[] #[]] w fun e w'=>e= .returned (.tuple #[])∧Kd.R Kd.string 9 w' w0.heap.size (fun k_=>(iZ k_∨w.heap.size≤k_)) eF r∧Below w0.heap.size w0 w'∧Kept w w' (fun k_=>iZ k_):=by
 have DS:=ak (show Kd.R Kd.string 9 w w0.heap.size (fun k_=>(iZ k_∨w.heap.size≤k_)) eF l0 from Kd.bJ xh (fun k_ hk=>(.inl hk)))
 have HK:=ak (Kept.refl w (fun k_=>iZ k_))
 have JW:=ak hB.size
 have HB:=ak hB;clear hB
 have H:((ai.f k l0 (l0.length:Int)).bind fun ME=>(some ME))=some r:=h
 clear h;replace H:=bS H;obtain ⟨ME,A3,H⟩:=H
 obtain rfl:=Option.some.inj H
 obtain ⟨Ao4,co4,eo4⟩:=Kd.de DS.out
 subst eo4
 go_enter Tryz.func106,Tryz.ntmps106
 go_wp2_with (first|(go_at_call 120;(with_reducible refine (ai.calls k (fun k_=>some k_=(.slice Ao4 l0.length co4:Value).ownBlock) (.slice Ao4 l0.length co4) l0 (l0.length:Int) ME w0 _ ?side1 ?side2 A3.out).mono ?_);(case side1=>exact aq HB);(case side2=>exact Kd.iN rfl DS.out);rintro e w5 ⟨rfl,nV,hb,ov⟩;replace HK:=ak (Kept.mN (S:=(fun k_=>iZ k_)) (lI HK) ov (fun k_ nx=>(fun e_=>(DS.out.1 k_ e_.symm)) nx));replace DS:=ak (Kd.lD rfl nV (fun k_ e_=>DS.out.1 k_ e_));replace HB:=ak (hb);(try clear hb);(try clear ov);(try clear nV)))
 first|go_end0|((try simp only [Exit.inBlock,Exit.then]);refine bodyPost_ret (results_none rfl _ _ _) rfl ?_)
 exact ⟨kK,by (with_reducible repeat (first|apply Kd.cz|apply Kd.cy|apply Kd.cD));exact DS.out,aq HB,lI HK⟩
def dc.l0:Nat→List ByteArray→Int→Int→Option (List ByteArray)
  |0,_,_,_=>none
  |k+1,x5,Kf,u9=>if u9<Kf then (if 0≤u9 then (if u9<(x5.length:Int) then (if 1≤((aQ ByteArray.empty x5 u9).size:Int) then (dc.l0 k (x5.set (u9:Int).toNat ((aQ ByteArray.empty x5 u9).extract 1 (aQ ByteArray.empty x5 u9).size)) Kf (wrap64 (u9+1))) else (none)) else (none)) else (none)) else (some x5)
def dc.f (k:Nat) (bn:List Int) (aU:List (List ByteArray)) (bu:List (List ByteArray)) (aM:List (List ByteArray)) (bR:Int) (a1:Int):Option (List ByteArray):=if 0≤a1 then (if a1<(aM.length:Int) then ((bG.f (aN aM a1)).bind fun tN=>((dj.f k tN).bind fun Ks=>(dc.l0 k Ks (tN.length:Int) 0))) else (none)) else (none)
theorem dc.calls (k:Nat) (fV:Option Addr) (fT:Nat) (bn:List Int) (gv:Option Addr) (fS:Nat) (aU:List (List ByteArray)) (fU:Option Addr) (fR:Nat) (bu:List (List ByteArray)) (gB:Option Addr) (fQ:Nat) (aM:List (List ByteArray)) (bR:Int) (a1:Int) (r:List ByteArray) (w:World) (jE:Kd.C (Kd.int .i64) w fV bn.length bn) (jI:bn.length≤fT) (jD:Kd.C (Kd.slice 9 Kd.string) w gv aU.length aU) (jH:aU.length≤fS) (jC:Kd.C (Kd.slice 9 Kd.string) w fU bu.length bu) (jG:bu.length≤fR) (jB:Kd.C (Kd.slice 9 Kd.string) w gB aM.length aM) (jF:aM.length≤fQ) (h:dc.f k bn aU bu aM bR a1=some r):
  Calls Tryz.prog 76 #[.agg #[.slice fV bn.length fT,.slice gv aU.length fS,.slice fU bu.length fR,.slice gB aM.length fQ,.int .i64 bR],.int .i64 a1] w fun e w'=>∃lG:Value,e= .returned (lG)∧Kd.R Kd.string 9 w' w.heap.size (fun _=>True) lG r∧Below w.heap.size w w':=by
 have lg:=Tryz.underlying27
 have gE:=ak jE;have gF:=ak jI;clear jE jI;have iM:=ak jD;have jx:=ak jH;clear jD jH;have iy:=ak jC;have jK:=ak jG;clear jC jG;have iL:=ak jB;have jY:=ak jF;clear jB jF
 have HB:=ak (Below.refl w.heap.size w)
 have H:(if 0≤a1 then (if a1<(aM.length:Int) then ((bG.f (aN aM a1)).bind fun tN=>((dj.f k tN).bind fun Ks=>(dc.l0 k Ks (tN.length:Int) 0))) else (none)) else (none))=some r:=h
 clear h;replace H:=dy H;obtain ⟨c3,H⟩:=H;have jX:=decide_eq_true c3;clear c3;replace H:=dy H;obtain ⟨c4,H⟩:=H;have jn:=decide_eq_true c4;clear c4;replace H:=bS H;obtain ⟨tN,A5,H⟩:=H
 replace H:=bS H;obtain ⟨Ks,A6,H⟩:=H
 have H':=ak H
 clear H
 go_enter Tryz.func76,Tryz.ntmps76
 go_wp2_with (first|((with_reducible refine av (N:=2) rfl ?_);refine bN 2 #[.slice fV bn.length fT,.slice gv aU.length fS,.slice fU bu.length fR,.slice gB aM.length fQ,.int .i64 bR] 27 ?_;intro abj hg w7 eI hb;have o9:=ak (eI);have aiW:=ak (mX hg (aq HB));have BZ:=ak (mX hg (aq HB));replace HB:=ak (aH (aq HB) hb);clear hb eI hg;obtain ⟨Oj,Oi,Oh,W6,W5,WE,Od,Oc,WD,WC⟩:=an o9;have Rh:0≤(a1:Int):=da;have Q7:a1<(aM.length:Int):=da;obtain ⟨acy,ahZ,ahz,ag1,xL,Jc,Jq⟩:=ke iL.out a1 Rh Q7;cases ag1;replace xL:=(HB.out.cell (World.block_lt_of_cell? w _ xL)).trans xL;have SM:=ak Jq;have SU:=ak Jc;clear Jq Jc;replace Rh:=eq_true Rh;replace Q7:=eq_true Q7)|(go_at_call 105;(with_reducible refine (bG.calls _ _ (aN aM a1) tN _ ?side1 ?side2 A5.out).mono ?_);(case side1=>exact cd (Kd.aD SM.out HB.out));(case side2=>exact SU.out);rintro e w9 ⟨ajk,rfl,xh,hb⟩;have BX:=ak (Kd.dz xh (aX (az HB BZ)));replace o9:=ak (cW (dm o9) hb);replace HB:=ak (aH (az HB BZ) hb);(try clear hb);(try clear xh);obtain ⟨Y5,Sy,agT⟩:=Kd.de BX.out;subst agT)|(go_at_call 106;(with_reducible refine (dj.calls k (fun k_=>some k_=(.slice Y5 tN.length Sy:Value).ownBlock) (.slice Y5 tN.length Sy) tN Ks w _ ?side1 ?side2 A6.out).mono ?_);(case side1=>repeat (first|(with_reducible first|exact HB.out|apply dQ|apply ek|apply cO|refine ew ?_ BZ.out)|exact HB.out));(case side2=>exact Kd.iN rfl BX.out);rintro e Vh ⟨rfl,nV,hb,ov⟩;replace o9:=ak (Fu (dm o9) ov (fun nx=>(fun e_=>(Kd.mS BX.out o9.out (by decide)) e_) nx));replace BX:=ak (Kd.lD rfl nV (fun k_ e_=>BX.out.1 k_ e_));replace HB:=ak (hb);(try clear hb);(try clear ov);(try clear nV)))
 go_loopg [18] k (fun kq v18 w'=>∃(dM:List ByteArray) (k8:Int),v18= .int .i64 k8∧Aside0 (dc.l0 kq dM (tN.length:Int) k8=some r)∧Aside0 (kq≤k)∧Aside0 (Kd.R Kd.string 9 w' w.heap.size (fun _=>True) (.slice Y5 tN.length Sy) dM)∧Aside0 (w'.heap[abj]? =some (.cells #[(.slice fV bn.length fT),(.slice gv aU.length fS),(.slice fU bu.length fR),(.slice (some acy) aM.length fQ),.int .i64 bR] 27 (0,0)))∧Aside0 (Below w.heap.size w w'))
 case atStart=>exact ⟨(Ks),(0),er,H',⟨Nat.le_refl _⟩,⟨dH BX⟩,⟨dm o9⟩,⟨az HB BZ⟩⟩
 case round=>
  clear H'
  (try clear jX);(try clear jn);(try clear Oj);(try clear Oi);(try clear Oh);(try clear W6);(try clear W5);(try clear WE);(try clear Od);(try clear Oc);(try clear WD);(try clear WC);(try clear xL);(try clear Rh);(try clear Q7)
  obtain ⟨dM,k8,rfl,HA,gf,AO,o9,HB⟩:=hrel
  have y7:=(Kd.aJ AO.out).1
  rw [y7] at AO
  (try simp only [y7])
  (try simp only [y7] at o9)
  cases gk with
  |zero=>exact absurd HA.out (by simp [dc.l0])
  |succ k1=>
   have H:=HA.out;clear HA
   simp only [dc.l0] at H
   by_cases nW:k8<(tN.length:Int)
   ·rw [if_pos nW] at H
    have sN:=decide_eq_true nW
    clear nW;replace H:=dy H;obtain ⟨oA,H⟩:=H;have BL:=decide_eq_true oA;clear oA;replace H:=dy H;obtain ⟨oI,H⟩:=H;have JL:=decide_eq_true oI;clear oI;replace H:=dy H;obtain ⟨wP,H⟩:=H;have zx:=eq_true wP
    have Fl:decide (1≤((aQ ByteArray.empty dM k8).size:Int))=true:=decide_eq_true wP
    clear wP
    obtain ⟨Vc,ez⟩:∃y_:List ByteArray,y_=(dM.set (k8:Int).toNat ((aQ ByteArray.empty dM k8).extract 1 (aQ ByteArray.empty dM k8).size)):=⟨_,rfl⟩
    replace H:(dc.l0 k1 Vc (tN.length:Int) (wrap64 (k8+1)))=some r:=yH
    have ade:=ak ez;clear ez
    have H':=ak H
    clear H
    obtain ⟨ajJ,ajx,aiI,ag0,RC⟩:=ng (Kd.bq (Kd.aJ AO.out).2.2 k8)
    cases ag0
    have p16:0≤(k8:Int):=da
    have q16:(k8:Int)<((dM.length:Int):Int):=da
    obtain ⟨Sp,OL,xo,abn,agC,aki,ad3⟩:=Kd.zS AO.out (by omega)
    (first|cases xo|(injection xo with xR Mc Sr;(first|subst xR|(injection xR with xR;subst xR));subst Sr;clear Mc))
    have ahR:=Aside0.mk abn;have akl:=ak ad3;clear abn agC ad3
    (first|simp only [add_plain] at RC|skip)
    obtain ⟨af2,agm⟩:=Kd.nw (⟨#[]⟩:ByteArray) AO.out (k8:Int) p16 q16
    replace p16:=eq_true p16;replace q16:=eq_true q16
    have Ik:=Kd.Yr AO.out (k8:Int) ((aQ ByteArray.empty dM k8).extract 1 (aQ ByteArray.empty dM k8).size)
    go_wp2_with (first|((with_reducible refine p7 (t:=9) (p:=27) rfl ?_);refine n9 (t:=9) (p:=27) (v:= ?vo_w18) (w1:=(wr.setCell ⟨Sp,(k8:Int).toNat,none⟩ (.string ((aQ ByteArray.empty dM k8).extract 1 (aQ ByteArray.empty dM k8).size)))) ?hg ?ho ?hn ?hr ?_;(case ho=>rfl);(case hg=>rfl);(case hn=>rfl);(case hr=>exact rZ);intro QA hw;have hg:wr.grownBy QA (some Sp):=(by rw [hw];exact Ik.2);have hp_:Kd.R Kd.string 9 QA w.heap.size (fun _=>True) (.slice (some ⟨Sp,0,none⟩) dM.length Sy) Vc:=(by rw [hw,ade.out];exact Ik.1);clear Ik;replace o9:=ak (ej (dm o9) hg (Kd.mS AO.out o9.out (by decide)));replace AO:=ak (hp_);replace HB:=ak ((by rw [hw];exact ew (HB.out) ahR.out:Below w.heap.size w QA));clear hg hw hp_))
    (try simp only [←y7])
    (first|go_roundg k1|((try rw [←add_plain Sp (k8:Int).toNat]);go_roundg k1))
    case measure=>have:=gf.out;omega
    case rel=>exact ⟨(Vc),(wrap64 (k8+1)),er,H',⟨by have:=gf.out;omega⟩,⟨by (try simp only [y7]);(with_reducible repeat (first|apply Kd.cz|apply Kd.cy|apply Kd.cD));exact AO.out⟩,⟨by (try simp only [y7]);(with_reducible repeat (first|refine fB ?_ _|refine fG ?_|refine fC ?_ _));exact o9.out⟩,⟨az HB BZ⟩⟩
   ·rw [if_neg nW] at H
    have sN:=decide_eq_false nW
    have Yf:=sN
    (try simp only [y7] at Yf)
    clear nW
    obtain rfl:=Option.some.inj H
    go_wp2
    go_ret
    exact ⟨_,kK,by (with_reducible repeat (first|apply Kd.cz|apply Kd.cy|apply Kd.cD));exact AO.out,az HB BZ⟩
def jQ.f (k:Nat) (bn:List Int) (aU:List (List ByteArray)) (bu:List (List ByteArray)) (aM:List (List ByteArray)) (bR:Int) (a1:Int):Option (List ByteArray×Bool):=(ax.f k bn aU bu aM bR).bind fun MD=>(if MD=true then ((bk.f a1 0 3).bind fun F0=>(if F0=true then ((dc.f k bn aU bu aM bR a1).bind fun Cj=>(some (Cj,true))) else (some (([]:List ByteArray),false)))) else (some (([]:List ByteArray),false)))
theorem jQ.calls (k:Nat) (fV:Option Addr) (fT:Nat) (bn:List Int) (gv:Option Addr) (fS:Nat) (aU:List (List ByteArray)) (fU:Option Addr) (fR:Nat) (bu:List (List ByteArray)) (gB:Option Addr) (fQ:Nat) (aM:List (List ByteArray)) (bR:Int) (a1:Int) (r1:List ByteArray) (r2:Bool) (w:World) (jE:Kd.C (Kd.int .i64) w fV bn.length bn) (jI:bn.length≤fT) (jD:Kd.C (Kd.slice 9 Kd.string) w gv aU.length aU) (jH:aU.length≤fS) (jC:Kd.C (Kd.slice 9 Kd.string) w fU bu.length bu) (jG:bu.length≤fR) (jB:Kd.C (Kd.slice 9 Kd.string) w gB aM.length aM) (jF:aM.length≤fQ) (h:jQ.f k bn aU bu aM bR a1=some (r1,r2)):
  Calls Tryz.prog 36 #[.agg #[.slice fV bn.length fT,.slice gv aU.length fS,.slice fU bu.length fR,.slice gB aM.length fQ,.int .i64 bR],.int .i64 a1] w fun e w'=>∃lG:Value,e= .returned (.tuple #[lG,.bool r2])∧Kd.R Kd.string 9 w' w.heap.size (fun _=>True) lG r1∧Below w.heap.size w w':=by
 have lg:=Tryz.underlying27
 have gE:=ak jE;have gF:=ak jI;clear jE jI;have iM:=ak jD;have jx:=ak jH;clear jD jH;have iy:=ak jC;have jK:=ak jG;clear jC jG;have iL:=ak jB;have jY:=ak jF;clear jB jF
 have HB:=ak (Below.refl w.heap.size w)
 have H:((ax.f k bn aU bu aM bR).bind fun MD=>(if MD=true then ((bk.f a1 0 3).bind fun F0=>(if F0=true then ((dc.f k bn aU bu aM bR a1).bind fun Cj=>(some (Cj,true))) else (some (([]:List ByteArray),false)))) else (some (([]:List ByteArray),false))))=some (r1,r2):=h
 clear h;replace H:=bS H;obtain ⟨MD,A3,H⟩:=H
 by_cases c4:MD=true
 ·subst c4
  have H1:((bk.f a1 0 3).bind fun F0=>(if F0=true then ((dc.f k bn aU bu aM bR a1).bind fun Cj=>(some (Cj,true))) else (some (([]:List ByteArray),false))))=some (r1,r2):=by rw [if_pos rfl] at H;exact H
  clear H
  have H:=H1
  clear H1;replace H:=bS H;obtain ⟨F0,A5,H⟩:=H
  by_cases c6:F0=true
  ·subst c6
   have H1:((dc.f k bn aU bu aM bR a1).bind fun Cj=>(some (Cj,true)))=some (r1,r2):=by rw [if_pos rfl] at H;exact H
   clear H
   have H:=H1
   clear H1;replace H:=bS H;obtain ⟨Cj,A7,H⟩:=H
   simp only [Option.some.injEq,Prod.mk.injEq] at H
   obtain ⟨rfl,rfl⟩:=H
   go_enter Tryz.func36,Tryz.ntmps36
   go_wp2_with (first|((with_reducible refine av (N:=2) rfl ?_);refine bN 2 #[.slice fV bn.length fT,.slice gv aU.length fS,.slice fU bu.length fR,.slice gB aM.length fQ,.int .i64 bR] 27 ?_;intro TU hg w8 eI hb;have oD:=ak (eI);have U6:=ak (mX hg (aq HB));have oC:=ak (mX hg (aq HB));replace HB:=ak (aH (aq HB) hb);clear hb eI hg;have rQ:=an oD)|(go_at_call 35;(with_reducible refine (ax.calls k _ _ bn _ _ aU _ _ bu _ _ aM bR true _ ?side1 ?side2 ?side3 ?side4 ?side5 ?side6 ?side7 ?side8 A3.out).mono ?_);(case side1=>exact cd (Kd.aD gE.out HB.out));(case side2=>exact gF.out);(case side3=>exact cd (Kd.aD iM.out HB.out));(case side4=>exact jx.out);(case side5=>exact cd (Kd.aD iy.out HB.out));(case side6=>exact jK.out);(case side7=>exact cd (Kd.aD iL.out HB.out));(case side8=>exact jY.out);rintro e w10 ⟨rfl,hb⟩;replace oD:=ak (cW (dm oD) hb);replace HB:=ak (aH (az HB oC) hb);(try clear hb))|(go_at_call 70;(with_reducible refine (bk.calls a1 0 3 true _ A5.out).mono ?_);rintro e w' ⟨rfl,⟨nd,rfl⟩⟩;have gR:=an oD)|(go_at_call 76;(with_reducible refine (dc.calls k _ _ bn _ _ aU _ _ bu _ _ aM bR a1 Cj _ ?side1 ?side2 ?side3 ?side4 ?side5 ?side6 ?side7 ?side8 A7.out).mono ?_);(case side1=>exact cd (Kd.aD gE.out (az HB oC)));(case side2=>exact gF.out);(case side3=>exact cd (Kd.aD iM.out (az HB oC)));(case side4=>exact jx.out);(case side5=>exact cd (Kd.aD iy.out (az HB oC)));(case side6=>exact jK.out);(case side7=>exact cd (Kd.aD iL.out (az HB oC)));(case side8=>exact jY.out);rintro e w12 ⟨ajj,rfl,xh,hb⟩;have adR:=ak (Kd.dz xh (aX (az HB oC)));replace oD:=ak (cW (dm oD) hb);replace HB:=ak (aH (az HB oC) hb);(try clear hb);(try clear xh)))
   go_ret2
   exact ⟨_,kK,by (with_reducible repeat (first|apply Kd.cz|apply Kd.cy|apply Kd.cD));exact adR.out,az HB oC⟩
  ·replace c6:=Bool.eq_false_iff.mpr c6
   subst c6
   have H1:(some (([]:List ByteArray),false))=some (r1,r2):=by rw [if_neg (show¬(false=true) by decide)] at H;exact H
   clear H
   have H:=H1
   clear H1
   simp only [Option.some.injEq,Prod.mk.injEq] at H
   obtain ⟨rfl,rfl⟩:=H
   go_enter Tryz.func36,Tryz.ntmps36
   go_wp2_with (first|((with_reducible refine av (N:=2) rfl ?_);refine bN 2 #[.slice fV bn.length fT,.slice gv aU.length fS,.slice fU bu.length fR,.slice gB aM.length fQ,.int .i64 bR] 27 ?_;intro TU hg w13 eI hb;have oD:=ak (eI);have U6:=ak (mX hg (aq HB));have oC:=ak (mX hg (aq HB));replace HB:=ak (aH (aq HB) hb);clear hb eI hg;have Vg:=an oD)|(go_at_call 35;(with_reducible refine (ax.calls k _ _ bn _ _ aU _ _ bu _ _ aM bR true _ ?side1 ?side2 ?side3 ?side4 ?side5 ?side6 ?side7 ?side8 A3.out).mono ?_);(case side1=>exact cd (Kd.aD gE.out HB.out));(case side2=>exact gF.out);(case side3=>exact cd (Kd.aD iM.out HB.out));(case side4=>exact jx.out);(case side5=>exact cd (Kd.aD iy.out HB.out));(case side6=>exact jK.out);(case side7=>exact cd (Kd.aD iL.out HB.out));(case side8=>exact jY.out);rintro e Ti ⟨rfl,hb⟩;replace oD:=ak (cW (dm oD) hb);replace HB:=ak (aH (az HB oC) hb);(try clear hb))|(go_at_call 70;(with_reducible refine (bk.calls a1 0 3 false _ A5.out).mono ?_);rintro e w' ⟨rfl,⟨nd,rfl⟩⟩))
   go_ret2
   exact ⟨_,kK,CD,az HB oC⟩
 ·replace c4:=Bool.eq_false_iff.mpr c4
  subst c4
  have H1:(some (([]:List ByteArray),false))=some (r1,r2):=by rw [if_neg (show¬(false=true) by decide)] at H;exact H
  clear H
  have H:=H1
  clear H1
  simp only [Option.some.injEq,Prod.mk.injEq] at H
  obtain ⟨rfl,rfl⟩:=H
  go_enter Tryz.func36,Tryz.ntmps36
  go_wp2_with (first|((with_reducible refine av (N:=2) rfl ?_);refine bN 2 #[.slice fV bn.length fT,.slice gv aU.length fS,.slice fU bu.length fR,.slice gB aM.length fQ,.int .i64 bR] 27 ?_;intro TU hg Ml eI hb;have oD:=ak (eI);have U6:=ak (mX hg (aq HB));have oC:=ak (mX hg (aq HB));replace HB:=ak (aH (aq HB) hb);clear hb eI hg;have nX:=an oD)|(go_at_call 35;(with_reducible refine (ax.calls k _ _ bn _ _ aU _ _ bu _ _ aM bR false _ ?side1 ?side2 ?side3 ?side4 ?side5 ?side6 ?side7 ?side8 A3.out).mono ?_);(case side1=>exact cd (Kd.aD gE.out HB.out));(case side2=>exact gF.out);(case side3=>exact cd (Kd.aD iM.out HB.out));(case side4=>exact jx.out);(case side5=>exact cd (Kd.aD iy.out HB.out));(case side6=>exact jK.out);(case side7=>exact cd (Kd.aD iL.out HB.out));(case side8=>exact jY.out);rintro e QA ⟨rfl,hb⟩;replace oD:=ak (cW (dm oD) hb);replace HB:=ak (aH (az HB oC) hb);(try clear hb)))
  go_ret2
  exact ⟨_,kK,CD,az HB oC⟩
def ay (w0 W:World) (g:Nat) (f0:List Int) (f1:Int) (f2:Int):Prop:=∃A0 c0,W.heap[g]? =some (.cells #[.slice A0 f0.length c0,.int .i64 f1,.int .u64 f2] 89 (0,0))∧w0.heap.size≤g∧Kd.C (Kd.int .u8) w0 A0 f0.length f0
theorem ay.grown {w0 W:World} {g:Nat} {f0:List Int} {f1:Int} {f2:Int} {W1:World} {row:Option Nat} (h:ay w0 W g f0 f1 f2) (hw:W.grownBy W1 row) (iP:some g≠row):ay w0 W1 g f0 f1 f2:=by
 obtain ⟨A0,c0,hb,hg,ff⟩:=h
 exact ⟨A0,c0,ej hb hw iP,hg,ff⟩
theorem ay.fresh {w0 W:World} {g:Nat} {f0:List Int} {f1:Int} {f2:Int} (h:ay w0 W g f0 f1 f2):∀k,W.heap.size≤k→k≠g:=by
 obtain ⟨A0,c0,hb,hg,ff⟩:=h
 exact Kd.Hy hb
theorem ay.kept {w0 W:World} {g:Nat} {f0:List Int} {f1:Int} {f2:Int} {W1:World} {S:Nat→Prop} (h:ay w0 W g f0 f1 f2) (hk:Kept W W1 S) (iP:¬S g):ay w0 W1 g f0 f1 f2:=by
 obtain ⟨A0,c0,hb,hg,ff⟩:=h
 exact ⟨A0,c0,Fu hb hk iP,hg,ff⟩
theorem ay.below {w0 W:World} {g:Nat} {f0:List Int} {f1:Int} {f2:Int} {W1:World} (h:ay w0 W g f0 f1 f2) (hw:Below W.heap.size W W1):ay w0 W1 g f0 f1 f2:=h.grown (qY hw none) (by simp)
theorem ay.alloc {w0 W:World} {g:Nat} {f0:List Int} {f1:Int} {f2:Int} (h:ay w0 W g f0 f1 f2) (o:Obj):ay w0 (W.alloc o) g f0 f1 f2:=h.below (dQ (Below.refl _ _) o)
theorem ay.drewN {w0 W:World} {g:Nat} {f0:List Int} {f1:Int} {f2:Int} (h:ay w0 W g f0 f1 f2) (m:Nat):ay w0 (W.drewN m) g f0 f1 f2:=h
theorem ay.drew {w0 W:World} {g:Nat} {f0:List Int} {f1:Int} {f2:Int} (h:ay w0 W g f0 f1 f2):ay w0 W.drew g f0 f1 f2:=h
theorem ay.at_ {w0 W:World} {g:Nat} {f0:List Int} {f1:Int} {f2:Int} {w':World} {m:Nat} (hq:W.drewN m=w') (h:ay w0 W g f0 f1 f2):ay w0 w' g f0 f1 f2:=by subst hq;exact ay.drewN h m
theorem ay.apart {w0 W:World} {g:Nat} {f0:List Int} {f1:Int} {f2:Int} {α:Type} {d:Kd α} {e:Nat} {base:Nat} {ok:Nat→Prop} {v:Value} {xs:List α} (h:ay w0 W g f0 f1 f2) (ho:d.R e W base ok v xs) (ht:∀q,q∈e::d.E→q≠89):d.R e W base (fun k=>ok k∧k≠g) v xs:=by
 obtain ⟨A0,c0,hb,hg,ff⟩:=h
 exact Kd.qa ho hb ht
theorem ay.lX {w0 W:World} {g:Nat} {f0:List Int} {f1:Int} {f2:Int} {α:Type} {d:Kd α} {e:Nat} {base:Nat} {ok:Nat→Prop} {v:Value} {xs:List α} (h:ay w0 W g f0 f1 f2) (ho:d.R e W base ok v xs) (ht:e≠89):some g≠v.ownBlock:=by
 obtain ⟨A0,c0,hb,hg,ff⟩:=h
 exact Kd.mS ho hb ht
theorem ay.vG {w0 W:World} {g:Nat} {f0:List Int} {f1:Int} {f2:Int} {A0:Option Addr} {c0:Nat} (hb:W.heap[g]? =some (.cells #[.slice A0 f0.length c0,.int .i64 f1,.int .u64 f2] 89 (0,0))) (hg:w0.heap.size≤g) (ff:Kd.C (Kd.int .u8) w0 A0 f0.length f0):ay w0 W g f0 f1 f2:=⟨A0,c0,hb,hg,ff⟩
theorem ay.lt {w0 W:World} {g:Nat} {f0:List Int} {f1:Int} {f2:Int} (h:ay w0 W g f0 f1 f2):g<W.heap.size:=by
 obtain ⟨A0,c0,hb,hg,ff⟩:=h
 exact iR hb
theorem ay.ge {w0 W:World} {g:Nat} {f0:List Int} {f1:Int} {f2:Int} (h:ay w0 W g f0 f1 f2):w0.heap.size≤g:=by
 obtain ⟨A0,c0,hb,hg,ff⟩:=h
 exact hg
theorem ay.Ow {w0 W:World} {g:Nat} {f0:List Int} {f1:Int} {f2:Int} {p:Addr} (h:ay w0 W g f0 f1 f2) (iP:g≠p.block) (u:Value):ay w0 (W.setCell p u) g f0 f1 f2:=by
 obtain ⟨A0,c0,hb,hg,ff⟩:=h
 exact ⟨A0,c0,SC hb iP u,hg,ff⟩
theorem sj {W:World} {g:Nat} {A0:Option Addr} {c0:Nat} {f0:List Int} {f1:Int} {f2:Int} (h:W.heap[g]? =some (.cells #[.slice A0 f0.length c0,.int .i64 f1,.int .u64 f2] 89 (0,0))):W.cell? ⟨g,0,none⟩=some (.slice A0 f0.length c0):=(iH h 0).trans rfl
theorem si {W:World} {g:Nat} {A0:Option Addr} {c0:Nat} {f0:List Int} {f1:Int} {f2:Int} (h:W.heap[g]? =some (.cells #[.slice A0 f0.length c0,.int .i64 f1,.int .u64 f2] 89 (0,0))):W.cell? ⟨g,1,none⟩=some (.int .i64 f1):=(iH h 1).trans rfl
theorem ay.Tm {w0 W:World} {g:Nat} {f0:List Int} {f1:Int} {f2:Int} (h:ay w0 W g f0 f1 f2) (x:Int):ay w0 (W.setCell ⟨g,1,none⟩ (.int .i64 x)) g f0 x f2:=by
 obtain ⟨A0,c0,hb,hg,ff⟩:=h
 exact ⟨A0,c0,by simpa using xT hb 1 (.int .i64 x),hg,ff⟩
theorem sg {W:World} {g:Nat} {A0:Option Addr} {c0:Nat} {f0:List Int} {f1:Int} {f2:Int} (h:W.heap[g]? =some (.cells #[.slice A0 f0.length c0,.int .i64 f1,.int .u64 f2] 89 (0,0))):W.cell? ⟨g,2,none⟩=some (.int .u64 f2):=(iH h 2).trans rfl
theorem ay.Tl {w0 W:World} {g:Nat} {f0:List Int} {f1:Int} {f2:Int} (h:ay w0 W g f0 f1 f2) (x:Int):ay w0 (W.setCell ⟨g,2,none⟩ (.int .u64 x)) g f0 f1 x:=by
 obtain ⟨A0,c0,hb,hg,ff⟩:=h
 exact ⟨A0,c0,by simpa using xT hb 2 (.int .u64 x),hg,ff⟩
theorem ay.d {p q:Prop} (h:Aside0 p) (hw:p→q:=by intro h_;repeat (first|(with_reducible first|exact h_|apply ay.alloc|apply ay.drewN|apply ay.drew|apply ay.Tm|apply ay.Tl)|exact h_)):q:=hw h.out
theorem ay.df {p q r:Prop} (h:Aside0 p) (k:Aside0 r) (hw:p→r→q:=by intro h_ k_;repeat (first|(with_reducible first|exact h_|apply ay.alloc|apply ay.drewN|apply ay.drew|apply ay.Tm|apply ay.Tl|refine ay.Ow ?_ k_ _)|exact h_)):q:=hw h.out k.out
theorem ay.b {p q r:Prop} (h:Aside0 p) (s:Aside0 r) (hw:p→r→q:=by intro h_ s_;repeat (first|(with_reducible first|exact h_|apply dQ|apply ek|apply cO|refine ew ?_ (ay.ge s_))|exact h_)):q:=hw h.out s.out
theorem ay.bg {p q r u:Prop} (h:Aside0 p) (s:Aside0 r) (k:Aside0 u) (hw:p→r→u→q:=by intro h_ s_ k_;repeat (first|(with_reducible first|exact h_|apply dQ|apply ek|apply cO|refine ew ?_ (ay.ge s_)|refine ew ?_ k_)|exact h_)):q:=hw h.out s.out k.out
theorem ay.new (w0 W:World) (A0:Option Addr) (c0:Nat) (f0:List Int) (f1:Int) (f2:Int) (hB:Below w0.heap.size w0 W) (ff:Kd.C (Kd.int .u8) w0 A0 f0.length f0):ay w0 (W.alloc (.cells #[.slice A0 f0.length c0,.int .i64 f1,.int .u64 f2] 89)) W.heap.size f0 f1 f2:=⟨A0,c0,by simpa using heap_alloc_new W _,hB.size,ff⟩
def fe.f (bV:List Int) (eK:Int) (fI:Int):Option (Int×Int×Int):=if eK<(bV.length:Int) then (if 0≤eK then (if (wrap64 (eK+1))≤(bV.length:Int) then (some (wrap64 (rd bV eK),wrap64 (eK+1),IntKind.u64.wrap ((IntKind.u64.wrap ((IntKind.u64.wrap (fI*6364136223846793005))+(IntKind.u64.wrap (wrap64 (rd bV eK)))))+1442695040888963407))) else (some (wrap64 (Go.bits .and .u64 ((IntKind.u64.wrap ((IntKind.u64.wrap ((IntKind.u64.wrap (fI*6364136223846793005))+(IntKind.u64.wrap (wrap64 (rd bV eK)))))+1442695040888963407))/1099511627776) 255),wrap64 (eK+1),IntKind.u64.wrap ((IntKind.u64.wrap ((IntKind.u64.wrap (fI*6364136223846793005))+(IntKind.u64.wrap (wrap64 (rd bV eK)))))+1442695040888963407)))) else (none)) else (if (wrap64 (eK+1))≤(bV.length:Int) then (some (0,wrap64 (eK+1),IntKind.u64.wrap ((IntKind.u64.wrap ((IntKind.u64.wrap (fI*6364136223846793005))))+1442695040888963407))) else (some (wrap64 (Go.bits .and .u64 ((IntKind.u64.wrap ((IntKind.u64.wrap ((IntKind.u64.wrap (fI*6364136223846793005))))+1442695040888963407))/1099511627776) 255),wrap64 (eK+1),IntKind.u64.wrap ((IntKind.u64.wrap ((IntKind.u64.wrap (fI*6364136223846793005))))+1442695040888963407))))
theorem fe.calls (g:Nat) (bV:List Int) (eK:Int) (fI:Int) (r1:Int) (r2:Int) (r3:Int) (w0 w:World) (hI:ay w0 w g bV eK fI) (hB:Below w0.heap.size w0 w) (h:fe.f bV eK fI=some (r1,r2,r3)):
  Calls Tryz.prog 108 #[.pointer (some ⟨g,0,none⟩)] w fun e w'=>e= .returned (.int .i64 r1)∧ay w0 w' g bV r2 r3∧Below w0.heap.size w0 w'∧aZ w w' g none:=by
 have dS:=ak hI
 have HK:=ak (aZ.refl w g none)
 have HL:=ak hB.size
 clear hI
 have JW:=ak hB.size
 have HB:=ak hB;clear hB
 have H:(if eK<(bV.length:Int) then (if 0≤eK then (if (wrap64 (eK+1))≤(bV.length:Int) then (some (wrap64 (rd bV eK),wrap64 (eK+1),IntKind.u64.wrap ((IntKind.u64.wrap ((IntKind.u64.wrap (fI*6364136223846793005))+(IntKind.u64.wrap (wrap64 (rd bV eK)))))+1442695040888963407))) else (some (wrap64 (Go.bits .and .u64 ((IntKind.u64.wrap ((IntKind.u64.wrap ((IntKind.u64.wrap (fI*6364136223846793005))+(IntKind.u64.wrap (wrap64 (rd bV eK)))))+1442695040888963407))/1099511627776) 255),wrap64 (eK+1),IntKind.u64.wrap ((IntKind.u64.wrap ((IntKind.u64.wrap (fI*6364136223846793005))+(IntKind.u64.wrap (wrap64 (rd bV eK)))))+1442695040888963407)))) else (none)) else (if (wrap64 (eK+1))≤(bV.length:Int) then (some (0,wrap64 (eK+1),IntKind.u64.wrap ((IntKind.u64.wrap ((IntKind.u64.wrap (fI*6364136223846793005))))+1442695040888963407))) else (some (wrap64 (Go.bits .and .u64 ((IntKind.u64.wrap ((IntKind.u64.wrap ((IntKind.u64.wrap (fI*6364136223846793005))))+1442695040888963407))/1099511627776) 255),wrap64 (eK+1),IntKind.u64.wrap ((IntKind.u64.wrap ((IntKind.u64.wrap (fI*6364136223846793005))))+1442695040888963407)))))=some (r1,r2,r3):=h
 clear h
 by_cases c2:eK<(bV.length:Int)
 ·rw [if_pos c2] at H
  have o5:=decide_eq_true c2
  clear c2;replace H:=dy H;obtain ⟨c3,H⟩:=H;have jX:=decide_eq_true c3;clear c3
  by_cases c4:(wrap64 (eK+1))≤(bV.length:Int)
  ·rw [if_pos c4] at H
   have jn:=decide_eq_true c4
   clear c4
   simp only [Option.some.injEq,Prod.mk.injEq] at H
   obtain ⟨rfl,rfl,rfl⟩:=H
   obtain ⟨ahW,ahv,LR,agh,Yz⟩:=dS.out
   have Om:=sj LR
   have Ol:=si LR
   have Ok:=sg LR
   have Of:=eN LR 1
   have Oe:=eN LR 2
   clear LR agh
   have Gt:0≤(eK:Int):=da
   have Gd:eK<(bV.length:Int):=da
   obtain ⟨acw,Xu,uc⟩:=Kd.jS Yz eK Gt Gd
   cases Xu
   replace uc:=k9 HB.out uc
   replace Gt:=eq_true Gt;replace Gd:=eq_true Gd
   go_enter Tryz.func108,Tryz.ntmps108
   go_wp2
   repeat (go_quiet (fail);try go_wp2)
   go_ret
   exact ⟨kK,ay.d dS,ay.b HB dS,mO HK⟩
  ·rw [if_neg c4] at H
   have jn:=decide_eq_false c4
   clear c4
   simp only [Option.some.injEq,Prod.mk.injEq] at H
   obtain ⟨rfl,rfl,rfl⟩:=H
   obtain ⟨ahV,ahu,LQ,agf,Yy⟩:=dS.out
   have agt:=sj LQ
   have ags:=si LQ
   have agr:=sg LQ
   have agl:=eN LQ 1
   have agk:=eN LQ 2
   clear LQ agf
   have Gt:0≤(eK:Int):=da
   have Gd:eK<(bV.length:Int):=da
   obtain ⟨acw,Xu,uc⟩:=Kd.jS Yy eK Gt Gd
   cases Xu
   replace uc:=k9 HB.out uc
   replace Gt:=eq_true Gt;replace Gd:=eq_true Gd
   go_enter Tryz.func108,Tryz.ntmps108
   go_wp2
   repeat (go_quiet (fail);try go_wp2)
   go_ret
   exact ⟨kK,ay.d dS,ay.b HB dS,mO HK⟩
 ·rw [if_neg c2] at H
  have o5:=decide_eq_false c2
  clear c2
  by_cases c7:(wrap64 (eK+1))≤(bV.length:Int)
  ·rw [if_pos c7] at H
   have tw:=decide_eq_true c7
   clear c7
   simp only [Option.some.injEq,Prod.mk.injEq] at H
   obtain ⟨rfl,rfl,rfl⟩:=H
   obtain ⟨ahU,aht,LP,age,ahM⟩:=dS.out
   have Oj:=sj LP
   have Oi:=si LP
   have Oh:=sg LP
   have Od:=eN LP 1
   have Oc:=eN LP 2
   clear LP age
   go_enter Tryz.func108,Tryz.ntmps108
   go_wp2
   repeat (go_quiet (fail);try go_wp2)
   go_ret
   exact ⟨kK,ay.d dS,ay.b HB dS,mO HK⟩
  ·rw [if_neg c7] at H
   have tw:=decide_eq_false c7
   clear c7
   simp only [Option.some.injEq,Prod.mk.injEq] at H
   obtain ⟨rfl,rfl,rfl⟩:=H
   obtain ⟨ahT,ahs,LM,agd,ahL⟩:=dS.out
   have agq:=sj LM
   have agp:=si LM
   have ago:=sg LM
   have agj:=eN LM 1
   have agi:=eN LM 2
   clear LM agd
   go_enter Tryz.func108,Tryz.ntmps108
   go_wp2
   repeat (go_quiet (fail);try go_wp2)
   go_ret
   exact ⟨kK,ay.d dS,ay.b HB dS,mO HK⟩
def aY.f (bV:List Int) (eK:Int) (fI:Int) (a1:Int):Option (Int×Int×Int):=if a1≤1 then (some (0,eK,fI)) else ((fe.f bV eK fI).bind fun o7=>(if a1>200 then ((fe.f bV o7.2.1 o7.2.2).bind fun zG=>(if a1=0 then (none) else (some (Int.tmod (wrap64 ((wrap64 (o7.1*256))+zG.1)) a1,zG.2.1,zG.2.2)))) else (if a1=0 then (none) else (some (Int.tmod o7.1 a1,o7.2.1,o7.2.2)))))
theorem aY.calls (g:Nat) (bV:List Int) (eK:Int) (fI:Int) (a1:Int) (r1:Int) (r2:Int) (r3:Int) (w0 w:World) (hI:ay w0 w g bV eK fI) (hB:Below w0.heap.size w0 w) (h:aY.f bV eK fI a1=some (r1,r2,r3)):
  Calls Tryz.prog 78 #[.pointer (some ⟨g,0,none⟩),.int .i64 a1] w fun e w'=>e= .returned (.int .i64 r1)∧ay w0 w' g bV r2 r3∧Below w0.heap.size w0 w'∧aZ w w' g none:=by
 have dS:=ak hI
 have HK:=ak (aZ.refl w g none)
 have HL:=ak hB.size
 clear hI
 have JW:=ak hB.size
 have HB:=ak hB;clear hB
 have H:(if a1≤1 then (some (0,eK,fI)) else ((fe.f bV eK fI).bind fun o7=>(if a1>200 then ((fe.f bV o7.2.1 o7.2.2).bind fun zG=>(if a1=0 then (none) else (some (Int.tmod (wrap64 ((wrap64 (o7.1*256))+zG.1)) a1,zG.2.1,zG.2.2)))) else (if a1=0 then (none) else (some (Int.tmod o7.1 a1,o7.2.1,o7.2.2))))))=some (r1,r2,r3):=h
 clear h
 by_cases c3:a1≤1
 ·rw [if_pos c3] at H
  have jX:=decide_eq_true c3
  clear c3
  simp only [Option.some.injEq,Prod.mk.injEq] at H
  obtain ⟨rfl,rfl,rfl⟩:=H
  go_enter Tryz.func78,Tryz.ntmps78
  go_wp2
  go_ret
  exact ⟨kK,ay.d dS,ay.b HB dS,mO HK⟩
 ·rw [if_neg c3] at H
  have jX:=decide_eq_false c3
  clear c3;replace H:=bS H;obtain ⟨⟨aaH,Vs,Vr⟩,A4,H⟩:=H
  dsimp only at H
  by_cases c5:a1>200
  ·rw [if_pos c5] at H
   have mh:=Ma c5
   clear c5;replace H:=bS H;obtain ⟨⟨afd,afc,afb⟩,A6,H⟩:=H
   dsimp only at H
   by_cases c7:a1=0
   ·rw [if_pos c7] at H
    exact absurd H (by simp)
   ·rw [if_neg c7] at H
    have tw:=lq c7
    have Sz:=mj c7
    simp only [Option.some.injEq,Prod.mk.injEq] at H
    obtain ⟨rfl,rfl,rfl⟩:=H
    go_enter Tryz.func78,Tryz.ntmps78
    go_wp2_with (first|((with_reducible refine eW (f:=108) rfl ?_);refine l7 (some 9) rfl Tryz.func108 #[.pointer (some ⟨g,0,none⟩)] rfl ?_;(with_reducible refine (fe.calls g bV eK fI aaH Vs Vr w0 _ ?side1 ?side2 A4.out).mono ?_);(case side1=>exact ay.d dS);(case side2=>exact ay.b HB dS);rintro e w8 ⟨rfl,hi,hb,hk⟩;refine ⟨_,rfl,?_⟩;replace HK:=ak (aZ.trans (mO HK) hk (.inl rfl));replace HB:=ak (hb);replace dS:=ak (hi);(try clear hb);(try clear hk);(try clear hi))|((with_reducible refine eW (f:=108) rfl ?_);refine l7 (some 15) rfl Tryz.func108 #[.pointer (some ⟨g,0,none⟩)] rfl ?_;(with_reducible refine (fe.calls g bV Vs Vr afd afc afb w0 _ ?side1 ?side2 A6.out).mono ?_);(case side1=>exact ay.d dS);(case side2=>exact ay.b HB dS);rintro e w9 ⟨rfl,hi,hb,hk⟩;refine ⟨_,rfl,?_⟩;replace HK:=ak (aZ.trans (mO HK) hk (.inl rfl));replace HB:=ak (hb);replace dS:=ak (hi);(try clear hb);(try clear hk);(try clear hi)))
    go_ret
    exact ⟨kK,ay.d dS,ay.b HB dS,mO HK⟩
  ·rw [if_neg c5] at H
   have mh:=Mb c5
   clear c5
   by_cases gW:a1=0
   ·rw [if_pos gW] at H
    exact absurd H (by simp)
   ·rw [if_neg gW] at H
    have kY:=lq gW
    have JN:=mj gW
    simp only [Option.some.injEq,Prod.mk.injEq] at H
    obtain ⟨rfl,rfl,rfl⟩:=H
    go_enter Tryz.func78,Tryz.ntmps78
    go_wp2_with (first|(go_at_call 108;(with_reducible refine (fe.calls g bV eK fI aaH Vs Vr w0 _ ?side1 ?side2 A4.out).mono ?_);(case side1=>exact ay.d dS);(case side2=>exact ay.b HB dS);rintro e Vh ⟨rfl,hi,hb,hk⟩;replace HK:=ak (aZ.trans (mO HK) hk (.inl rfl));replace HB:=ak (hb);replace dS:=ak (hi);(try clear hb);(try clear hk);(try clear hi)))
    go_ret
    exact ⟨kK,ay.d dS,ay.b HB dS,mO HK⟩
def eS.f (bV:List Int) (eK:Int) (fI:Int) (a1:Int):Option (Bool×Int×Int):=(aY.f bV eK fI a1).bind fun zF=>(some ((zF.1==0),zF.2.1,zF.2.2))
theorem eS.calls (g:Nat) (bV:List Int) (eK:Int) (fI:Int) (a1:Int) (r1:Bool) (r2:Int) (r3:Int) (w0 w:World) (hI:ay w0 w g bV eK fI) (hB:Below w0.heap.size w0 w) (h:eS.f bV eK fI a1=some (r1,r2,r3)):
  Calls Tryz.prog 77 #[.pointer (some ⟨g,0,none⟩),.int .i64 a1] w fun e w'=>e= .returned (.bool r1)∧ay w0 w' g bV r2 r3∧Below w0.heap.size w0 w'∧aZ w w' g none:=by
 have dS:=ak hI
 have HK:=ak (aZ.refl w g none)
 have HL:=ak hB.size
 clear hI
 have JW:=ak hB.size
 have HB:=ak hB;clear hB
 have H:((aY.f bV eK fI a1).bind fun zF=>(some ((zF.1==0),zF.2.1,zF.2.2)))=some (r1,r2,r3):=h
 clear h;replace H:=bS H;obtain ⟨⟨afa,ae9,ae8⟩,A3,H⟩:=H
 dsimp only at H
 simp only [Option.some.injEq,Prod.mk.injEq] at H
 obtain ⟨rfl,rfl,rfl⟩:=H
 go_enter Tryz.func77,Tryz.ntmps77
 go_wp2_with (first|(go_at_call 78;(with_reducible refine (aY.calls g bV eK fI a1 afa ae9 ae8 w0 _ ?side1 ?side2 A3.out).mono ?_);(case side1=>exact ay.d dS);(case side2=>exact ay.b HB dS);rintro e w4 ⟨rfl,hi,hb,hk⟩;replace HK:=ak (aZ.trans (mO HK) hk (.inl rfl));replace HB:=ak (hb);replace dS:=ak (hi);(try clear hb);(try clear hk);(try clear hi)))
 go_ret
 exact ⟨kK,ay.d dS,ay.b HB dS,mO HK⟩
def cB.f (bV:List Int) (eK:Int) (fI:Int) (l1:List Int):Option (Int×Int×Int):=(aY.f bV eK fI (l1.length:Int)).bind fun rB=>(if 0≤rB.1 then (if rB.1<(l1.length:Int) then (some (rd l1 rB.1,rB.2.1,rB.2.2)) else (none)) else (none))
theorem cB.calls (g:Nat) (bV:List Int) (eK:Int) (fI:Int) (A1:Option Addr) (c1:Nat) (l1:List Int) (r1:Int) (r2:Int) (r3:Int) (w0 w:World) (hI:ay w0 w g bV eK fI) (hB:Below w0.heap.size w0 w) (sH:Kd.C (Kd.int .i64) w A1 l1.length l1) (qA:l1.length≤c1) (FM:∀ad,A1=some ad→0<l1.length→ad.block≠g) (h:cB.f bV eK fI l1=some (r1,r2,r3)):
  Calls Tryz.prog 100 #[.pointer (some ⟨g,0,none⟩),.slice A1 l1.length c1] w fun e w'=>e= .returned (.int .i64 r1)∧ay w0 w' g bV r2 r3∧Below w0.heap.size w0 w'∧aZ w w' g none:=by
 have yc:=ak sH;have LS:=ak qA;clear sH qA;have dS:=ak hI
 have HK:=ak (aZ.refl w g none)
 have HL:=ak hB.size
 clear hI
 have JW:=ak hB.size
 have HB:=ak hB;clear hB
 have H:((aY.f bV eK fI (l1.length:Int)).bind fun rB=>(if 0≤rB.1 then (if rB.1<(l1.length:Int) then (some (rd l1 rB.1,rB.2.1,rB.2.2)) else (none)) else (none)))=some (r1,r2,r3):=h
 clear h;replace H:=bS H;obtain ⟨⟨QN,ae7,ae6⟩,A3,H⟩:=H
 dsimp only at H
 replace H:=dy H;obtain ⟨c4,H⟩:=H;have jn:=decide_eq_true c4;clear c4;replace H:=dy H;obtain ⟨c5,H⟩:=H;have mh:=decide_eq_true c5;clear c5
 simp only [Option.some.injEq,Prod.mk.injEq] at H
 obtain ⟨rfl,rfl,rfl⟩:=H
 go_enter Tryz.func100,Tryz.ntmps100
 go_wp2_with (first|(go_at_call 78;(with_reducible refine (aY.calls g bV eK fI (l1.length:Int) QN ae7 ae6 w0 _ ?side1 ?side2 A3.out).mono ?_);(case side1=>exact ay.d dS);(case side2=>exact ay.b HB dS);rintro e w6 ⟨rfl,hi,hb,hk⟩;replace HK:=ak (aZ.trans (mO HK) hk (.inl rfl));replace HB:=ak (hb);replace dS:=ak (hi);(try clear hb);(try clear hk);(try clear hi);have VU:0≤(QN:Int):=da;have VG:QN<(l1.length:Int):=da;obtain ⟨acv,agZ,I5⟩:=Kd.jS yc.out QN VU VG;cases agZ;replace I5:=rX HK.out I5 (by first|(rw [sk];exact FM _ rfl (by omega))|exact FM _ rfl (by omega)|exact FM acv rfl (by omega));replace VU:=eq_true VU;replace VG:=eq_true VG))
 go_ret
 exact ⟨kK,ay.d dS,ay.b HB dS,mO HK⟩
def eL.f (bV:List Int) (eK:Int) (fI:Int) (l1:List ByteArray):Option (ByteArray×Int×Int):=(aY.f bV eK fI (l1.length:Int)).bind fun rz=>(if 0≤rz.1 then (if rz.1<(l1.length:Int) then (some (aQ ByteArray.empty l1 rz.1,rz.2.1,rz.2.2)) else (none)) else (none))
theorem eL.calls (g:Nat) (bV:List Int) (eK:Int) (fI:Int) (A1:Option Addr) (c1:Nat) (l1:List ByteArray) (r1:ByteArray) (r2:Int) (r3:Int) (w0 w:World) (hI:ay w0 w g bV eK fI) (hB:Below w0.heap.size w0 w) (sH:Kd.C Kd.string w A1 l1.length l1) (qA:l1.length≤c1) (FM:∀ad,A1=some ad→0<l1.length→ad.block≠g) (h:eL.f bV eK fI l1=some (r1,r2,r3)):
  Calls Tryz.prog 101 #[.pointer (some ⟨g,0,none⟩),.slice A1 l1.length c1] w fun e w'=>e= .returned (.string r1)∧ay w0 w' g bV r2 r3∧Below w0.heap.size w0 w'∧aZ w w' g none:=by
 have yc:=ak sH;have LS:=ak qA;clear sH qA;have dS:=ak hI
 have HK:=ak (aZ.refl w g none)
 have HL:=ak hB.size
 clear hI
 have JW:=ak hB.size
 have HB:=ak hB;clear hB
 have H:((aY.f bV eK fI (l1.length:Int)).bind fun rz=>(if 0≤rz.1 then (if rz.1<(l1.length:Int) then (some (aQ ByteArray.empty l1 rz.1,rz.2.1,rz.2.2)) else (none)) else (none)))=some (r1,r2,r3):=h
 clear h;replace H:=bS H;obtain ⟨⟨QM,ae5,ae4⟩,A3,H⟩:=H
 dsimp only at H
 replace H:=dy H;obtain ⟨c4,H⟩:=H;have jn:=decide_eq_true c4;clear c4;replace H:=dy H;obtain ⟨c5,H⟩:=H;have mh:=decide_eq_true c5;clear c5
 simp only [Option.some.injEq,Prod.mk.injEq] at H
 obtain ⟨rfl,rfl,rfl⟩:=H
 go_enter Tryz.func101,Tryz.ntmps101
 go_wp2_with (first|(go_at_call 78;(with_reducible refine (aY.calls g bV eK fI (l1.length:Int) QM ae5 ae4 w0 _ ?side1 ?side2 A3.out).mono ?_);(case side1=>exact ay.d dS);(case side2=>exact ay.b HB dS);rintro e w6 ⟨rfl,hi,hb,hk⟩;replace HK:=ak (aZ.trans (mO HK) hk (.inl rfl));replace HB:=ak (hb);replace dS:=ak (hi);(try clear hb);(try clear hk);(try clear hi);have VT:0≤(QM:Int):=da;have VF:QM<(l1.length:Int):=da;obtain ⟨acu,agY,I3⟩:=Kd.bq yc.out QM VT VF;cases agY;replace I3:=rX HK.out I3 (by first|(rw [sk];exact FM _ rfl (by omega))|exact FM _ rfl (by omega)|exact FM acu rfl (by omega));replace VT:=eq_true VT;replace VF:=eq_true VF))
 go_ret
 exact ⟨kK,ay.d dS,ay.b HB dS,mO HK⟩
mutual
def aG.j0:Nat→List (mK)→Int→List Int→Int→Int→Option ((List (mK))×Int×Int)
  |0,_,_,_,_,_=>none
  |k+1,x3,x4,lT,tM,tL=>aG.l0 k x3 x4 lT tM tL
def aG.l0:Nat→List (mK)→Int→List Int→Int→Int→Option ((List (mK))×Int×Int)
  |0,_,_,_,_,_=>none
  |k+1,x3,x4,lT,tM,tL=>if x4>0 then ((cB.f lT tM tL (([1,1,1,2,2,2,3]:List Int))).bind fun rq=>((aY.f lT rq.2.1 rq.2.2 4).bind fun o6=>(if rq.1=1 then ((eL.f lT o6.2.1 o6.2.2 (([(⟨#[97]⟩:ByteArray),(⟨#[98]⟩:ByteArray),(⟨#[]⟩:ByteArray),(⟨#[104,101,108,108,111]⟩:ByteArray),(⟨#[102,111,117,114,116,101,101,110,32,98,121,116,101,115]⟩:ByteArray),(⟨#[102,105,102,116,101,101,110,32,98,121,116,101,115,46,46]⟩:ByteArray),(⟨#[128]⟩:ByteArray)]:List ByteArray))).bind fun rm=>(aG.j2 k x3 x4 lT rm.2.1 rm.2.2 rq.1 o6.1 rm.1)) else (aG.j2 k x3 x4 lT o6.2.1 o6.2.2 rq.1 o6.1 (⟨#[]⟩:ByteArray))))) else (some (x3,tM,tL))
def aG.j2:Nat→List (mK)→Int→List Int→Int→Int→Int→Int→ByteArray→Option ((List (mK))×Int×Int)
  |0,_,_,_,_,_,_,_,_=>none
  |k+1,x3,x4,lT,tM,tL,Qx,Qw,Qv=>(eS.f lT tM tL 40).bind fun Fs=>(if Fs.1=true then ((aY.f lT Fs.2.1 Fs.2.2 5).bind fun zD=>((cB.f lT zD.2.1 zD.2.2 (([(-1),0,4,60]:List Int))).bind fun rj=>((eL.f lT rj.2.1 rj.2.2 (([(⟨#[]⟩:ByteArray),(⟨#[120]⟩:ByteArray)]:List ByteArray))).bind fun nO=>(if x3.length<4398046511104 then (aG.l0 k (x3++[(⟨zD.1,rj.1,nO.1⟩:mK)]) (wrap64 (x4-1)) lT nO.2.1 nO.2.2) else (none))))) else (if x3.length<4398046511104 then (aG.l0 k (x3++[(⟨Qx,Qw,Qv⟩:mK)]) (wrap64 (x4-1)) lT Fs.2.1 Fs.2.2) else (none)))
end
def aG.f (k:Nat) (bV:List Int) (eK:Int) (fI:Int):Option ((List (mK))×Int×Int):=(aY.f bV eK fI 24).bind fun zE=>((eS.f bV zE.2.1 zE.2.2 20).bind fun ry=>(if ry.1=true then ((aY.f bV ry.2.1 ry.2.2 3).bind fun ru=>(aG.j0 k ([]:List (mK)) (wrap64 (59+ru.1)) bV ru.2.1 ru.2.2)) else (aG.j0 k ([]:List (mK)) zE.1 bV ry.2.1 ry.2.2)))
theorem aG.calls (k:Nat) (g:Nat) (bV:List Int) (eK:Int) (fI:Int) (r1:List (mK)) (r2:Int) (r3:Int) (w0 w:World) (hI:ay w0 w g bV eK fI) (hB:Below w0.heap.size w0 w) (h:aG.f k bV eK fI=some (r1,r2,r3)):
  Calls Tryz.prog 66 #[.pointer (some ⟨g,0,none⟩)] w fun e w'=>∃lG:Value,e= .returned (lG)∧Kd.R K7 53 w' w.heap.size (fun _=>True) lG r1∧ay w0 w' g bV r2 r3∧Below w0.heap.size w0 w'∧aZ w w' g none:=by
 have GX:=Tryz.underlying53
 have dS:=ak hI
 have HK:=ak (aZ.refl w g none)
 have HL:=ak hB.size
 clear hI
 have JW:=ak hB.size
 have HB:=ak hB;clear hB
 have H:((aY.f bV eK fI 24).bind fun zE=>((eS.f bV zE.2.1 zE.2.2 20).bind fun ry=>(if ry.1=true then ((aY.f bV ry.2.1 ry.2.2 3).bind fun ru=>(aG.j0 k ([]:List (mK)) (wrap64 (59+ru.1)) bV ru.2.1 ru.2.2)) else (aG.j0 k ([]:List (mK)) zE.1 bV ry.2.1 ry.2.2))))=some (r1,r2,r3):=h
 clear h;replace H:=bS H;obtain ⟨⟨Vq,aaG,aaF⟩,A2,H⟩:=H
 dsimp only at H
 replace H:=bS H;obtain ⟨⟨aaE,MC,MB⟩,A3,H⟩:=H
 dsimp only at H
 have YP:=ak H;clear H
 go_enter Tryz.func66,Tryz.ntmps66
 go_upto_if 9 with (first|(go_at_call 78;(with_reducible refine (aY.calls g bV eK fI 24 Vq aaG aaF w0 _ ?side1 ?side2 A2.out).mono ?_);(case side1=>exact ay.d dS);(case side2=>exact ay.b HB dS);rintro e w5 ⟨rfl,hi,hb,hk⟩;replace HK:=ak (aZ.trans (mO HK) hk (.inl rfl));replace HB:=ak (hb);replace dS:=ak (hi);(try clear hb);(try clear hk);(try clear hi))|(go_at_call 77;(with_reducible refine (eS.calls g bV aaG aaF 20 aaE MC MB w0 _ ?side1 ?side2 A3.out).mono ?_);(case side1=>exact ay.d dS);(case side2=>exact ay.b HB dS);rintro e w6 ⟨rfl,hi,hb,hk⟩;replace HK:=ak (aZ.trans (mO HK) hk (.inl rfl));replace HB:=ak (hb);replace dS:=ak (hi);(try clear hb);(try clear hk);(try clear hi)))
 (try simp only [Act.put,List.setIfInBounds_toArray,List.set_cons_zero,List.set_cons_succ])
 go_cut [4] (fun v4 wc=>∃(kq:Nat) (Qu:Int) (xG:Int) (xF:Int),v4= .int .i64 Qu∧Aside0 (aG.j0 kq ([]:List (mK)) Qu bV xG xF=some (r1,r2,r3))∧Aside0 (kq≤k)∧Aside0 (Kd.R K7 53 wc w.heap.size (fun _=>True) (.slice none 0 0) ([]:List (mK)))∧Aside0 (ay w0 wc g bV xG xF)∧Aside0 (aZ w wc g none)∧Aside0 (Below w0.heap.size w0 wc))
 case first=>
  have H:=YP.out;clear YP
  by_cases c7:aaE=true
  ·subst c7
   have H1:((aY.f bV MC MB 3).bind fun ru=>(aG.j0 k ([]:List (mK)) (wrap64 (59+ru.1)) bV ru.2.1 ru.2.2))=some (r1,r2,r3):=by rw [if_pos rfl] at H;exact H
   clear H
   have H:=H1
   clear H1;replace H:=bS H;obtain ⟨⟨aaD,aaC,aaB⟩,A8,H⟩:=H
   dsimp only at H
   have H':=ak H
   clear H
   go_wp2_with (first|(go_at_call 78;(with_reducible refine (aY.calls g bV MC MB 3 aaD aaC aaB w0 _ ?side1 ?side2 A8.out).mono ?_);(case side1=>exact ay.d dS);(case side2=>exact ay.b HB dS);rintro e w9 ⟨rfl,hi,hb,hk⟩;replace HK:=ak (aZ.trans (mO HK) hk (.inl rfl));replace HB:=ak (hb);replace dS:=ak (hi);(try clear hb);(try clear hk);(try clear hi)))
   go_meet
   case rel=>exact ⟨_,(wrap64 (59+aaD)),(aaC),(aaB),er,H',⟨by first|omega|exact Nat.le_refl _⟩,⟨CD⟩,⟨ay.d dS⟩,⟨mO HK⟩,⟨ay.b HB dS⟩⟩
  ·replace c7:=Bool.eq_false_iff.mpr c7
   subst c7
   have H1:(aG.j0 k ([]:List (mK)) Vq bV MC MB)=some (r1,r2,r3):=by rw [if_neg (show¬(false=true) by decide)] at H;exact H
   clear H
   have H:=H1
   clear H1
   have H':=ak H
   clear H;go_wp2
   go_meet
   case rel=>exact ⟨_,(Vq),(MC),(MB),er,H',⟨by first|omega|exact Nat.le_refl _⟩,⟨CD⟩,⟨ay.d dS⟩,⟨mO HK⟩,⟨ay.b HB dS⟩⟩
 case rest=>
  clear YP
  obtain ⟨kq,Qu,xG,xF,rfl,HA,SR,eT,dS,HK,HB⟩:=hcut
  cases kq with
  |zero=>exact absurd HA.out (by simp [aG.j0])
  |succ We=>
   have H:=HA.out;clear HA
   simp only [aG.j0] at H
   have H':=ak H
   clear H;go_wp2
   go_loopg [3,4] We (fun kq v3 v4 w'=>∃(oL:List (mK)) (sq:Int) (pq:Int) (pg:Int),v4= .int .i64 sq∧Aside0 (aG.l0 kq oL sq bV pq pg=some (r1,r2,r3))∧Aside0 (kq≤We)∧Aside0 (Kd.R K7 53 w' w.heap.size (fun _=>True) v3 oL)∧Aside0 (ay w0 w' g bV pq pg)∧Aside0 (aZ w w' g none)∧Aside0 (Below w0.heap.size w0 w'))
   case atStart=>exact ⟨(([]:List (mK))),(Qu),(xG),(xF),er,H',⟨Nat.le_refl _⟩,⟨dH eT⟩,⟨ay.d dS⟩,⟨mO HK⟩,⟨ay.b HB dS⟩⟩
   case round=>
    clear H'
    obtain ⟨oL,sq,pq,pg,rfl,HA,kg,eT,dS,HK,HB⟩:=hrel
    cases gk with
    |zero=>exact absurd HA.out (by simp [aG.l0])
    |succ k2=>
     have H:=HA.out;clear HA
     simp only [aG.l0] at H
     by_cases gW:sq>0
     ·rw [if_pos gW] at H
      have kY:=Ma gW
      clear gW
      obtain ⟨ZQ,ez⟩:∃y_:List Int,y_=(([1,1,1,2,2,2,3]:List Int)):=⟨_,rfl⟩
      replace H:((cB.f bV pq pg ZQ).bind fun rq=>((aY.f bV rq.2.1 rq.2.2 4).bind fun o6=>(if rq.1=1 then ((eL.f bV o6.2.1 o6.2.2 (([(⟨#[97]⟩:ByteArray),(⟨#[98]⟩:ByteArray),(⟨#[]⟩:ByteArray),(⟨#[104,101,108,108,111]⟩:ByteArray),(⟨#[102,111,117,114,116,101,101,110,32,98,121,116,101,115]⟩:ByteArray),(⟨#[102,105,102,116,101,101,110,32,98,121,116,101,115,46,46]⟩:ByteArray),(⟨#[128]⟩:ByteArray)]:List ByteArray))).bind fun rm=>(aG.j2 k2 oL sq bV rm.2.1 rm.2.2 rq.1 o6.1 rm.1)) else (aG.j2 k2 oL sq bV o6.2.1 o6.2.2 rq.1 o6.1 (⟨#[]⟩:ByteArray)))))=some (r1,r2,r3):=yH
      have Ux:=ak ez;clear ez;replace H:=bS H;obtain ⟨⟨oN,QL,QK⟩,Qn,H⟩:=H
      dsimp only at H
      replace H:=bS H;obtain ⟨⟨pF,Ay,Aw⟩,L5,H⟩:=H
      dsimp only at H
      have YR:=ak H;clear H
      go_upto_if 25 with (first|((with_reducible refine av (N:=18) rfl ?_);refine Kd.gD (Kd.int .i64) _ 3 ?hg (N:=18) ?hd (xs:=([1,1,1,2,2,2,3]:List Int)) (inner:=[.int .i64 1,.int .i64 1,.int .i64 1,.int .i64 2,.int .i64 2,.int .i64 2,.int .i64 3]) (ok:=fun _=>True) (okp:=fun _=>True) ?hr ?hp (fun _ hk=>hk) trivial (Below.refl _ _) (Nat.le_refl _) (by simp) ?_;(case hd=>rfl);(case hg=>rfl);(case hr=>exact rZ);(case hp=>exact (bT.one (show Kd.M (Kd.int .i64) _ _ _ 1 [.int .i64 1] from rfl) (bT.one (show Kd.M (Kd.int .i64) _ _ _ 1 [.int .i64 1] from rfl) (bT.one (show Kd.M (Kd.int .i64) _ _ _ 1 [.int .i64 1] from rfl) (bT.one (show Kd.M (Kd.int .i64) _ _ _ 2 [.int .i64 2] from rfl) (bT.one (show Kd.M (Kd.int .i64) _ _ _ 2 [.int .i64 2] from rfl) (bT.one (show Kd.M (Kd.int .i64) _ _ _ 2 [.int .i64 2] from rfl) (bT.one (show Kd.M (Kd.int .i64) _ _ _ 3 [.int .i64 3] from rfl) (bT.none _ _)))))))));intro aji w14 xg hb bK dP;clear bK dP;(first|rw [←Ux.out] at xg|(simp only [Int.reduceToNat] at xg;rw [←Ux.out] at xg));replace eT:=ak (Kd.fF (dH eT) hb);have oB:=ak (Kd.dz xg (iT (w:=w) (g:=g) (row:=none) (mO HK)));replace HK:=ak (aZ.trans (mO HK) (aZ.lY hb g none) (.inl rfl));replace HB:=ak (aH (ay.b HB dS) hb);replace dS:=ak (ay.below (ay.d dS) hb);clear hb xg;obtain ⟨Tc,OL,xo⟩:=Kd.de oB.out;subst xo)|(go_at_call 100;(with_reducible refine (cB.calls g bV pq pg _ _ ZQ oN QL QK w0 _ ?side1 ?side2 ?side3 ?side4 ?side5 Qn.out).mono ?_);(case side1=>exact ay.d dS);(case side2=>exact ay.b HB dS);(case side3=>exact cd (Kd.aJ oB.out).2.2);(case side4=>exact (Kd.aJ oB.out).2.1);(case side5=>exact nC (ay.lX dS.out oB.out (by decide)));rintro e L6 ⟨rfl,hi,hb,hk⟩;replace eT:=ak (Kd.bJ (Kd.jj (ay.apart (show ay w0 _ g bV pq pg from ay.d dS) (dH eT) (by decide)) hk (fun _ h=>h.2)) (fun _ h=>h.1));replace oB:=ak (Kd.bJ (Kd.jj (ay.apart (show ay w0 _ g bV pq pg from ay.d dS) (dH oB) (by decide)) hk (fun _ h=>h.2)) (fun _ h=>h.1));replace HK:=ak (aZ.trans (mO HK) hk (.inl rfl));replace HB:=ak (hb);replace dS:=ak (hi);(try clear hb);(try clear hk);(try clear hi))|(go_at_call 78;(with_reducible refine (aY.calls g bV QL QK 4 pF Ay Aw w0 _ ?side1 ?side2 L5.out).mono ?_);(case side1=>exact ay.d dS);(case side2=>exact ay.b HB dS);rintro e QA ⟨rfl,hi,hb,hk⟩;replace eT:=ak (Kd.bJ (Kd.jj (ay.apart (show ay w0 _ g bV QL QK from ay.d dS) (dH eT) (by decide)) hk (fun _ h=>h.2)) (fun _ h=>h.1));replace oB:=ak (Kd.bJ (Kd.jj (ay.apart (show ay w0 _ g bV QL QK from ay.d dS) (dH oB) (by decide)) hk (fun _ h=>h.2)) (fun _ h=>h.1));replace HK:=ak (aZ.trans (mO HK) hk (.inl rfl));replace HB:=ak (hb);replace dS:=ak (hi);(try clear hb);(try clear hk);(try clear hi))|((with_reducible refine av (N:=5) rfl ?_);refine BM ?hg (N:=5) ?hd (cs:= #[.int .i64 0,.int .i64 0,.string (⟨#[]⟩:ByteArray)]) (t:=53) ?hr ?_;(case hd=>rfl);(case hg=>rfl);(case hr=>exact rZ);intro iW hg w19 eI hb;replace eT:=ak (Kd.fF (Kd.Pr (dH eT) iW (Nat.le_of_eq hg.symm)) hb);replace oB:=ak (Kd.fF (dH oB) hb);replace HB:=ak (aH (ay.b HB dS) hb);have hO:=ak (eI);have lN:=ak ((by rw [hg];exact (iT (w:=w) (g:=g) (row:=none) (mO HK)):w.heap.size≤iW));have nU:=ak ((Nat.le_trans JW.out (by rw [hg];exact (iT (w:=w) (g:=g) (row:=none) (mO HK)):w.heap.size≤iW):w0.heap.size≤iW));replace HK:=ak (aZ.trans (mO HK) (aZ.lY hb g none) (.inl rfl));have fk:=ak ((by rw [hg];exact Nat.ne_of_lt (ay.lt (show ay w0 _ g bV Ay Aw from ay.d dS)):g≠iW));have mL:=ak ((by rw [hg];exact Nat.ne_of_gt (ay.lt (show ay w0 _ g bV Ay Aw from ay.d dS)):iW≠g));replace dS:=ak (ay.below (ay.d dS) hb);clear hb eI hg;have aii:=mL.out;have aia:=fk.out;obtain ⟨Sh,Sg,Sf,R7,R6,R5⟩:=ck hO))
      (try simp only [Act.put,List.setIfInBounds_toArray,List.set_cons_zero,List.set_cons_succ])
      go_cut [] (fun wc=>∃(kq:Nat) (nE:Int) (nD:Int) (gh:ByteArray),Aside0 (aG.j2 kq oL sq bV nE nD oN pF gh=some (r1,r2,r3))∧Aside0 (kq≤k2)∧Aside0 (Kd.R K7 53 wc w.heap.size (fun k_=>k_≠iW) u3 oL)∧Aside0 (wc.heap[iW]? =some (.cells #[.int .i64 oN,.int .i64 pF,.string gh] 53 (0,0)))∧Aside0 (ay w0 wc g bV nE nD)∧Aside0 (aZ w wc g none)∧Aside0 (Below w0.heap.size w0 wc))
      case first=>
       have H:=YR.out;clear YR
       by_cases DH:oN=1
       ·rw [if_pos DH] at H
        have sM:=lO DH
        have acg:=mR DH
        clear DH
        (first|rw [sM]|(simp only [bW,cA];rw [sM])|skip)
        obtain ⟨ZP,ez⟩:∃y_:List ByteArray,y_=(([(⟨#[97]⟩:ByteArray),(⟨#[98]⟩:ByteArray),(⟨#[]⟩:ByteArray),(⟨#[104,101,108,108,111]⟩:ByteArray),(⟨#[102,111,117,114,116,101,101,110,32,98,121,116,101,115]⟩:ByteArray),(⟨#[102,105,102,116,101,101,110,32,98,121,116,101,115,46,46]⟩:ByteArray),(⟨#[128]⟩:ByteArray)]:List ByteArray)):=⟨_,rfl⟩
        replace H:((eL.f bV Ay Aw ZP).bind fun rm=>(aG.j2 k2 oL sq bV rm.2.1 rm.2.2 oN pF rm.1))=some (r1,r2,r3):=yH
        have Uw:=ak ez;clear ez;replace H:=bS H;obtain ⟨⟨Vp,aaA,aaz⟩,A23,H⟩:=H
        dsimp only at H
        have H':=ak H
        clear H
        go_wp2_with (first|((with_reducible refine av (N:=27) rfl ?_);refine Kd.gD Kd.string _ 9 ?hg (N:=27) ?hd (xs:=([(⟨#[97]⟩:ByteArray),(⟨#[98]⟩:ByteArray),(⟨#[]⟩:ByteArray),(⟨#[104,101,108,108,111]⟩:ByteArray),(⟨#[102,111,117,114,116,101,101,110,32,98,121,116,101,115]⟩:ByteArray),(⟨#[102,105,102,116,101,101,110,32,98,121,116,101,115,46,46]⟩:ByteArray),(⟨#[128]⟩:ByteArray)]:List ByteArray)) (inner:=[.string (⟨#[97]⟩:ByteArray),.string (⟨#[98]⟩:ByteArray),.string (⟨#[]⟩:ByteArray),.string (⟨#[104,101,108,108,111]⟩:ByteArray),.string (⟨#[102,111,117,114,116,101,101,110,32,98,121,116,101,115]⟩:ByteArray),.string (⟨#[102,105,102,116,101,101,110,32,98,121,116,101,115,46,46]⟩:ByteArray),.string (⟨#[128]⟩:ByteArray)]) (ok:=fun _=>True) (okp:=fun _=>True) ?hr ?hp (fun _ hk=>hk) trivial (Below.refl _ _) (Nat.le_refl _) (by simp) ?_;(case hd=>rfl);(case hg=>rfl);(case hr=>exact rZ);(case hp=>exact (bT.one (show Kd.M Kd.string _ _ _ (⟨#[97]⟩:ByteArray) [.string (⟨#[97]⟩:ByteArray)] from rfl) (bT.one (show Kd.M Kd.string _ _ _ (⟨#[98]⟩:ByteArray) [.string (⟨#[98]⟩:ByteArray)] from rfl) (bT.one (show Kd.M Kd.string _ _ _ (⟨#[]⟩:ByteArray) [.string (⟨#[]⟩:ByteArray)] from rfl) (bT.one (show Kd.M Kd.string _ _ _ (⟨#[104,101,108,108,111]⟩:ByteArray) [.string (⟨#[104,101,108,108,111]⟩:ByteArray)] from rfl) (bT.one (show Kd.M Kd.string _ _ _ (⟨#[102,111,117,114,116,101,101,110,32,98,121,116,101,115]⟩:ByteArray) [.string (⟨#[102,111,117,114,116,101,101,110,32,98,121,116,101,115]⟩:ByteArray)] from rfl) (bT.one (show Kd.M Kd.string _ _ _ (⟨#[102,105,102,116,101,101,110,32,98,121,116,101,115,46,46]⟩:ByteArray) [.string (⟨#[102,105,102,116,101,101,110,32,98,121,116,101,115,46,46]⟩:ByteArray)] from rfl) (bT.one (show Kd.M Kd.string _ _ _ (⟨#[128]⟩:ByteArray) [.string (⟨#[128]⟩:ByteArray)] from rfl) (bT.none _ _)))))))));intro ajh w24 N4 hb bK dP;clear bK dP;(first|rw [←Uw.out] at N4|(simp only [Int.reduceToNat] at N4;rw [←Uw.out] at N4));replace eT:=ak (Kd.fF (by (with_reducible repeat (first|apply Kd.cz|apply Kd.cy|apply Kd.cD));exact (Kd.bJ (wL (Kd.bJ eT.out (fun k_ hk=>(⟨hk,hk.2⟩:_∧k_≠iW)))) (fun _ h_=>h_.1))) hb);replace oB:=ak (Kd.fF (by (with_reducible repeat (first|apply Kd.cz|apply Kd.cy|apply Kd.cD));exact (Kd.bJ (wL (Kd.qa oB.out hO.out (by decide))) (fun _ h_=>h_.1))) hb);have BW:=ak (Kd.dz N4 (iT (w:=w) (g:=g) (row:=none) (oS HK lN)));replace hO:=ak (cW (g:=iW) (o:= .cells #[.int .i64 oN,.int .i64 pF,.string (⟨#[]⟩:ByteArray)] 53 (0,0)) (by (with_reducible repeat (first|refine fB ?_ _|refine fG ?_|refine fC ?_ _));refine hJ (cs:= #[.int .i64 oN,.int .i64 pF,.string (⟨#[]⟩:ByteArray)]) ?_ 2 _ rfl;(with_reducible repeat (first|refine fB ?_ _|refine fG ?_|refine fC ?_ _));refine hJ (cs:= #[.int .i64 oN,.int .i64 0,.string (⟨#[]⟩:ByteArray)]) ?_ 1 _ rfl;(with_reducible repeat (first|refine fB ?_ _|refine fG ?_|refine fC ?_ _));refine hJ (cs:= #[.int .i64 0,.int .i64 0,.string (⟨#[]⟩:ByteArray)]) ?_ 0 _ rfl;(with_reducible repeat (first|refine fB ?_ _|refine fG ?_|refine fC ?_ _));exact hO.out) hb);replace HK:=ak (aZ.trans (oS HK lN) (aZ.lY hb g none) (.inl rfl));replace HB:=ak (aH (ay.bg HB dS nU) hb);replace dS:=ak (ay.below (show ay w0 (((w19.setCell ⟨iW,0,none⟩ (.int .i64 oN)).setCell ⟨iW,1,none⟩ (.int .i64 pF)).setCell ⟨iW,2,none⟩ (.string (⟨#[]⟩:ByteArray))) g bV Ay Aw from ay.df dS fk) hb);clear hb N4;obtain ⟨ahS,ahp,Xs⟩:=Kd.de BW.out;subst Xs)|(go_at_call 101;(with_reducible refine (eL.calls g bV Ay Aw _ _ ZP Vp aaA aaz w0 _ ?side1 ?side2 ?side3 ?side4 ?side5 A23.out).mono ?_);(case side1=>exact ay.df dS fk);(case side2=>exact ay.bg HB dS nU);(case side3=>exact cd (Kd.aJ BW.out).2.2);(case side4=>exact (Kd.aJ BW.out).2.1);(case side5=>exact nC (ay.lX dS.out BW.out (by decide)));rintro e w27 ⟨rfl,hi,hb,hk⟩;replace eT:=ak (Kd.bJ (Kd.jj (ay.apart (show ay w0 _ g bV Ay Aw from ay.df dS fk) (dH eT) (by decide)) hk (fun _ h=>h.2)) (fun _ h=>h.1));replace oB:=ak (Kd.bJ (Kd.jj (ay.apart (show ay w0 _ g bV Ay Aw from ay.df dS fk) (dH oB) (by decide)) hk (fun _ h=>h.2)) (fun _ h=>h.1));replace hO:=ak (aZ.aI hk (g':=iW) (o:= .cells #[.int .i64 oN,.int .i64 pF,.string (⟨#[]⟩:ByteArray)] 53 (0,0)) (dm hO) mL.out (by simp));replace BW:=ak (Kd.bJ (Kd.jj (ay.apart (show ay w0 _ g bV Ay Aw from ay.df dS fk) (dH BW) (by decide)) hk (fun _ h=>h.2)) (fun _ h=>h.1));replace HK:=ak (aZ.trans (oS HK lN) hk (.inl rfl));replace HB:=ak (hb);replace dS:=ak (hi);(try clear hb);(try clear hk);(try clear hi);have aa3:=mL.out;have aa2:=fk.out;have aeJ:=ck hO))
        go_meet
        case rel=>exact ⟨_,(aaA),(aaz),(Vp),H',⟨by have:=SR.out;have:=kg.out;first|omega|exact Nat.le_refl _⟩,⟨by (with_reducible repeat (first|apply Kd.cz|apply Kd.cy|apply Kd.cD));exact Kd.bJ (Kd.ac6 (p:=⟨iW,2,none⟩) (Kd.bJ eT.out (fun k_ hk=>(⟨hk,hk.2⟩:_∧k_≠iW))) (fun _ hk=>hk.2) (.string Vp)) (fun _ hk=>hk.1.2)⟩,⟨by (with_reducible repeat (first|refine fB ?_ _|refine fG ?_|refine fC ?_ _));refine hJ (cs:= #[.int .i64 oN,.int .i64 pF,.string (⟨#[]⟩:ByteArray)]) ?_ 2 _ rfl;(with_reducible repeat (first|refine fB ?_ _|refine fG ?_|refine fC ?_ _));exact hO.out⟩,⟨ay.df dS fk⟩,⟨oS HK lN⟩,⟨ay.bg HB dS nU⟩⟩
       ·rw [if_neg DH] at H
        have sM:=lq DH
        have acg:=mj DH
        (first|rw [sM]|(simp only [bW,cA];rw [sM])|skip)
        have H':=ak H
        clear H;go_wp2
        go_meet
        case rel=>exact ⟨_,(Ay),(Aw),((⟨#[]⟩:ByteArray)),H',⟨by have:=SR.out;have:=kg.out;first|omega|exact Nat.le_refl _⟩,⟨by (with_reducible repeat (first|apply Kd.cz|apply Kd.cy|apply Kd.cD));exact Kd.bJ (wL (Kd.bJ eT.out (fun k_ hk=>(⟨hk,hk.2⟩:_∧k_≠iW)))) (fun _ hk=>hk.1.2)⟩,⟨by (with_reducible repeat (first|refine fB ?_ _|refine fG ?_|refine fC ?_ _));refine hJ (cs:= #[.int .i64 oN,.int .i64 pF,.string (⟨#[]⟩:ByteArray)]) ?_ 2 _ rfl;(with_reducible repeat (first|refine fB ?_ _|refine fG ?_|refine fC ?_ _));refine hJ (cs:= #[.int .i64 oN,.int .i64 0,.string (⟨#[]⟩:ByteArray)]) ?_ 1 _ rfl;(with_reducible repeat (first|refine fB ?_ _|refine fG ?_|refine fC ?_ _));refine hJ (cs:= #[.int .i64 0,.int .i64 0,.string (⟨#[]⟩:ByteArray)]) ?_ 0 _ rfl;(with_reducible repeat (first|refine fB ?_ _|refine fG ?_|refine fC ?_ _));exact hO.out⟩,⟨ay.df dS fk⟩,⟨oS HK lN⟩,⟨ay.bg HB dS nU⟩⟩
      case rest=>
       clear YR;(try clear kY);(try clear Sh);(try clear Sg);(try clear Sf);(try clear R7);(try clear R6);(try clear R5)
       obtain ⟨kq,nE,nD,gh,HA,SS,eT,hO,dS,HK,HB⟩:=hcut
       cases kq with
       |zero=>exact absurd HA.out (by simp [aG.j2])
       |succ EK=>
        have H:=HA.out;clear HA
        simp only [aG.j2] at H
        replace H:=bS H;obtain ⟨⟨ae3,Ei,Eh⟩,A30,H⟩:=H
        dsimp only at H
        by_cases zv:ae3=true
        ·subst zv
         have H1:((aY.f bV Ei Eh 5).bind fun zD=>((cB.f bV zD.2.1 zD.2.2 (([(-1),0,4,60]:List Int))).bind fun rj=>((eL.f bV rj.2.1 rj.2.2 (([(⟨#[]⟩:ByteArray),(⟨#[120]⟩:ByteArray)]:List ByteArray))).bind fun nO=>(if oL.length<4398046511104 then (aG.l0 EK (oL++[(⟨zD.1,rj.1,nO.1⟩:mK)]) (wrap64 (sq-1)) bV nO.2.1 nO.2.2) else (none)))))=some (r1,r2,r3):=by rw [if_pos rfl] at H;exact H
         clear H
         have H:=H1
         clear H1;replace H:=bS H;obtain ⟨⟨vt,MA,Mz⟩,A32,H⟩:=H
         dsimp only at H
         obtain ⟨ZO,ez⟩:∃y_:List Int,y_=(([(-1),0,4,60]:List Int)):=⟨_,rfl⟩
         replace H:((cB.f bV MA Mz ZO).bind fun rj=>((eL.f bV rj.2.1 rj.2.2 (([(⟨#[]⟩:ByteArray),(⟨#[120]⟩:ByteArray)]:List ByteArray))).bind fun nO=>(if oL.length<4398046511104 then (aG.l0 EK (oL++[(⟨vt,rj.1,nO.1⟩:mK)]) (wrap64 (sq-1)) bV nO.2.1 nO.2.2) else (none))))=some (r1,r2,r3):=yH
         have Uv:=ak ez;clear ez;replace H:=bS H;obtain ⟨⟨Av,Kr,Kq⟩,A33,H⟩:=H
         dsimp only at H
         obtain ⟨ZN,ez⟩:∃y_:List ByteArray,y_=(([(⟨#[]⟩:ByteArray),(⟨#[120]⟩:ByteArray)]:List ByteArray)):=⟨_,rfl⟩
         replace H:((eL.f bV Kr Kq ZN).bind fun nO=>(if oL.length<4398046511104 then (aG.l0 EK (oL++[(⟨vt,Av,nO.1⟩:mK)]) (wrap64 (sq-1)) bV nO.2.1 nO.2.2) else (none)))=some (r1,r2,r3):=yH
         have Uu:=ak ez;clear ez;replace H:=bS H;obtain ⟨⟨FZ,QJ,QI⟩,A34,H⟩:=H
         dsimp only at H
         replace H:=dy H;obtain ⟨c35,H⟩:=H;have adz:=ak c35;clear c35
         obtain ⟨ZM,ez⟩:∃y_:List (mK),y_=(oL++[(⟨vt,Av,FZ⟩:mK)]):=⟨_,rfl⟩
         replace H:(aG.l0 EK ZM (wrap64 (sq-1)) bV QJ QI)=some (r1,r2,r3):=yH
         have adb:=ak ez;clear ez
         have H':=ak H
         clear H
         go_wp2_with (first|(go_at_call 77;(with_reducible refine (eS.calls g bV nE nD 40 true Ei Eh w0 _ ?side1 ?side2 A30.out).mono ?_);(case side1=>exact ay.df dS fk);(case side2=>exact ay.bg HB dS nU);rintro e w36 ⟨rfl,hi,hb,hk⟩;replace eT:=ak (Kd.bJ (Kd.jj (ay.apart (show ay w0 _ g bV nE nD from ay.df dS fk) (dH eT) (by decide)) hk (fun _ h=>h.2)) (fun _ h=>h.1));replace hO:=ak (aZ.aI hk (g':=iW) (dm hO) mL.out (by simp));replace HK:=ak (aZ.trans (oS HK lN) hk (.inl rfl));replace HB:=ak (hb);replace dS:=ak (hi);(try clear hb);(try clear hk);(try clear hi))|(go_at_call 78;(with_reducible refine (aY.calls g bV Ei Eh 5 vt MA Mz w0 _ ?side1 ?side2 A32.out).mono ?_);(case side1=>exact ay.df dS fk);(case side2=>exact ay.bg HB dS nU);rintro e w37 ⟨rfl,hi,hb,hk⟩;replace eT:=ak (Kd.bJ (Kd.jj (ay.apart (show ay w0 _ g bV Ei Eh from ay.df dS fk) (dH eT) (by decide)) hk (fun _ h=>h.2)) (fun _ h=>h.1));replace hO:=ak (aZ.aI hk (g':=iW) (dm hO) mL.out (by simp));replace HK:=ak (aZ.trans (oS HK lN) hk (.inl rfl));replace HB:=ak (hb);replace dS:=ak (hi);(try clear hb);(try clear hk);(try clear hi))|((with_reducible refine av (N:=35) rfl ?_);refine Kd.gD (Kd.int .i64) _ 3 ?hg (N:=35) ?hd (xs:=([(-1),0,4,60]:List Int)) (inner:=[.int .i64 (-1),.int .i64 0,.int .i64 4,.int .i64 60]) (ok:=fun _=>True) (okp:=fun _=>True) ?hr ?hp (fun _ hk=>hk) trivial (Below.refl _ _) (Nat.le_refl _) (by simp) ?_;(case hd=>rfl);(case hg=>rfl);(case hr=>exact rZ);(case hp=>exact (bT.one (show Kd.M (Kd.int .i64) _ _ _ (-1) [.int .i64 (-1)] from rfl) (bT.one (show Kd.M (Kd.int .i64) _ _ _ 0 [.int .i64 0] from rfl) (bT.one (show Kd.M (Kd.int .i64) _ _ _ 4 [.int .i64 4] from rfl) (bT.one (show Kd.M (Kd.int .i64) _ _ _ 60 [.int .i64 60] from rfl) (bT.none _ _))))));intro ajg Zg N1 hb bK dP;clear bK dP;(first|rw [←Uv.out] at N1|(simp only [Int.reduceToNat] at N1;rw [←Uv.out] at N1));replace eT:=ak (Kd.fF (dH eT) hb);have qp:=ak (Kd.dz N1 (iT (w:=w) (g:=g) (row:=none) (oS HK lN)));replace hO:=ak (cW (dm hO) hb);replace HK:=ak (aZ.trans (oS HK lN) (aZ.lY hb g none) (.inl rfl));replace HB:=ak (aH (ay.bg HB dS nU) hb);replace dS:=ak (ay.below (ay.df dS fk) hb);clear hb N1;obtain ⟨aks,akb,agP⟩:=Kd.de qp.out;subst agP)|(go_at_call 100;(with_reducible refine (cB.calls g bV MA Mz _ _ ZO Av Kr Kq w0 _ ?side1 ?side2 ?side3 ?side4 ?side5 A33.out).mono ?_);(case side1=>exact ay.df dS fk);(case side2=>exact ay.bg HB dS nU);(case side3=>exact cd (Kd.aJ qp.out).2.2);(case side4=>exact (Kd.aJ qp.out).2.1);(case side5=>exact nC (ay.lX dS.out qp.out (by decide)));rintro e Qz ⟨rfl,hi,hb,hk⟩;replace eT:=ak (Kd.bJ (Kd.jj (ay.apart (show ay w0 _ g bV MA Mz from ay.df dS fk) (dH eT) (by decide)) hk (fun _ h=>h.2)) (fun _ h=>h.1));replace hO:=ak (aZ.aI hk (g':=iW) (dm hO) mL.out (by simp));replace qp:=ak (Kd.bJ (Kd.jj (ay.apart (show ay w0 _ g bV MA Mz from ay.df dS fk) (dH qp) (by decide)) hk (fun _ h=>h.2)) (fun _ h=>h.1));replace HK:=ak (aZ.trans (oS HK lN) hk (.inl rfl));replace HB:=ak (hb);replace dS:=ak (hi);(try clear hb);(try clear hk);(try clear hi))|((with_reducible refine av (N:=38) rfl ?_);refine Kd.gD Kd.string _ 9 ?hg (N:=38) ?hd (xs:=([(⟨#[]⟩:ByteArray),(⟨#[120]⟩:ByteArray)]:List ByteArray)) (inner:=[.string (⟨#[]⟩:ByteArray),.string (⟨#[120]⟩:ByteArray)]) (ok:=fun _=>True) (okp:=fun _=>True) ?hr ?hp (fun _ hk=>hk) trivial (Below.refl _ _) (Nat.le_refl _) (by simp) ?_;(case hd=>rfl);(case hg=>rfl);(case hr=>exact rZ);(case hp=>exact (bT.one (show Kd.M Kd.string _ _ _ (⟨#[]⟩:ByteArray) [.string (⟨#[]⟩:ByteArray)] from rfl) (bT.one (show Kd.M Kd.string _ _ _ (⟨#[120]⟩:ByteArray) [.string (⟨#[120]⟩:ByteArray)] from rfl) (bT.none _ _))));intro ajf w42 NZ hb bK dP;clear bK dP;(first|rw [←Uu.out] at NZ|(simp only [Int.reduceToNat] at NZ;rw [←Uu.out] at NZ));replace eT:=ak (Kd.fF (dH eT) hb);replace qp:=ak (Kd.fF (dH qp) hb);have wR:=ak (Kd.dz NZ (iT (w:=w) (g:=g) (row:=none) (oS HK lN)));replace hO:=ak (cW (dm hO) hb);replace HK:=ak (aZ.trans (oS HK lN) (aZ.lY hb g none) (.inl rfl));replace HB:=ak (aH (ay.bg HB dS nU) hb);replace dS:=ak (ay.below (ay.df dS fk) hb);clear hb NZ;obtain ⟨akp,aj8,agO⟩:=Kd.de wR.out;subst agO)|(go_at_call 101;(with_reducible refine (eL.calls g bV Kr Kq _ _ ZN FZ QJ QI w0 _ ?side1 ?side2 ?side3 ?side4 ?side5 A34.out).mono ?_);(case side1=>exact ay.df dS fk);(case side2=>exact ay.bg HB dS nU);(case side3=>exact cd (Kd.aJ wR.out).2.2);(case side4=>exact (Kd.aJ wR.out).2.1);(case side5=>exact nC (ay.lX dS.out wR.out (by decide)));rintro e w45 ⟨rfl,hi,hb,hk⟩;replace eT:=ak (Kd.bJ (Kd.jj (ay.apart (show ay w0 _ g bV Kr Kq from ay.df dS fk) (dH eT) (by decide)) hk (fun _ h=>h.2)) (fun _ h=>h.1));replace hO:=ak (aZ.aI hk (g':=iW) (dm hO) mL.out (by simp));replace qp:=ak (Kd.bJ (Kd.jj (ay.apart (show ay w0 _ g bV Kr Kq from ay.df dS fk) (dH qp) (by decide)) hk (fun _ h=>h.2)) (fun _ h=>h.1));replace wR:=ak (Kd.bJ (Kd.jj (ay.apart (show ay w0 _ g bV Kr Kq from ay.df dS fk) (dH wR) (by decide)) hk (fun _ h=>h.2)) (fun _ h=>h.1));replace HK:=ak (aZ.trans (oS HK lN) hk (.inl rfl));replace HB:=ak (hb);replace dS:=ak (hi);(try clear hb);(try clear hk);(try clear hi);have aie:=mL.out;have ah7:=fk.out;have ai1:=ck hO)|((with_reducible refine bw (b:= .append) (xs:= #[.tmp 41,.tmp 43]) rfl ?_);at_builtin;refine Kd.ig K7 w.heap.size rfl (.tmp 41) (.tmp 43) 40 53 (.agg #[(.int .i64 0),(.int .i64 0),(.string ⟨#[]⟩)]) 32 rfl Tryz.underlying40 NJ rfl (by decide) (by omega) u3 oL (⟨vt,Av,FZ⟩:mK) [.int .i64 vt,.int .i64 Av,.string FZ] (fun k_=>k_≠iW) (fun _=>False) rfl (by first|(go_simp;done)|(go_simp;rfl)) ?aP (fun _ hk=>hk.elim) ?aF ?aO (Below.refl _ _) ?aS ?aL ?_;(case aP=>exact I2 _ _ _ (⟨vt,Av,FZ⟩:mK));(case aF=>exact (fun k_ hk=>Kd.Hy (g:=iW) (o:= .cells #[.int .i64 vt,.int .i64 Av,.string FZ] 53 (0,0)) (by (with_reducible repeat (first|refine fB ?_ _|refine fG ?_|refine fC ?_ _));refine hJ (cs:= #[.int .i64 vt,.int .i64 Av,.string gh]) ?_ 2 _ rfl;(with_reducible repeat (first|refine fB ?_ _|refine fG ?_|refine fC ?_ _));refine hJ (cs:= #[.int .i64 vt,.int .i64 pF,.string gh]) ?_ 1 _ rfl;(with_reducible repeat (first|refine fB ?_ _|refine fG ?_|refine fC ?_ _));refine hJ (cs:= #[.int .i64 oN,.int .i64 pF,.string gh]) ?_ 0 _ rfl;(with_reducible repeat (first|refine fB ?_ _|refine fG ?_|refine fC ?_ _));exact hO.out) k_ hk));(case aO=>exact (by (with_reducible repeat (first|apply Kd.cz|apply Kd.cy|apply Kd.cD));exact Kd.bJ (wL (Kd.bJ eT.out (fun k_ hk=>(⟨hk,hk⟩:_∧k_≠iW)))) (fun _ hk=>hk.1)));(case aS=>exact (iT (w:=w) (g:=g) (row:=none) (oS HK lN)));(case aL=>have:=adz.out;omega);intro aje w48 ho hb hg eC;rw [←adb.out] at ho;replace qp:=ak (Kd.DN (by (with_reducible repeat (first|apply Kd.cz|apply Kd.cy|apply Kd.cD));exact (Kd.bJ (wL (Kd.qa qp.out hO.out (by decide))) (fun _ h_=>h_.1))) (Kd.xW (by (with_reducible repeat (first|apply Kd.cz|apply Kd.cy|apply Kd.cD));exact (Kd.bJ (wL (Kd.bJ eT.out (fun k_ hk=>(⟨hk,hk⟩:_∧k_≠iW)))) (fun _ h_=>h_.1)))) (by decide) hg);replace wR:=ak (Kd.DN (by (with_reducible repeat (first|apply Kd.cz|apply Kd.cy|apply Kd.cD));exact (Kd.bJ (wL (Kd.qa wR.out hO.out (by decide))) (fun _ h_=>h_.1))) (Kd.xW (by (with_reducible repeat (first|apply Kd.cz|apply Kd.cy|apply Kd.cD));exact (Kd.bJ (wL (Kd.bJ eT.out (fun k_ hk=>(⟨hk,hk⟩:_∧k_≠iW)))) (fun _ h_=>h_.1)))) (by decide) hg);replace hO:=ak (ej (g:=iW) (o:= .cells #[.int .i64 vt,.int .i64 Av,.string FZ] 53 (0,0)) (by (with_reducible repeat (first|refine fB ?_ _|refine fG ?_|refine fC ?_ _));refine hJ (cs:= #[.int .i64 vt,.int .i64 Av,.string gh]) ?_ 2 _ rfl;(with_reducible repeat (first|refine fB ?_ _|refine fG ?_|refine fC ?_ _));refine hJ (cs:= #[.int .i64 vt,.int .i64 pF,.string gh]) ?_ 1 _ rfl;(with_reducible repeat (first|refine fB ?_ _|refine fG ?_|refine fC ?_ _));refine hJ (cs:= #[.int .i64 oN,.int .i64 pF,.string gh]) ?_ 0 _ rfl;(with_reducible repeat (first|refine fB ?_ _|refine fG ?_|refine fC ?_ _));exact hO.out) hg (Kd.Pt eT.out (fun _ hk=>hk)));replace HB:=ak (nv (ay.bg HB dS nU) HL.out hb);replace dS:=ak (ay.grown (show ay w0 _ g bV QJ QI from ay.df dS fk) hg (ay.lX dS.out eT.out (by decide)));replace HK:=ak (aZ.trans (oS HK lN) (aZ.nH hg g) (Kd.xX eT.out));have adQ:=ak (ho);clear eT;clear ho hb hg eC))
         go_roundg EK
         case measure=>have:=SR.out;have:=kg.out;have:=SS.out;omega
         case rel=>exact ⟨(ZM),(wrap64 (sq-1)),(QJ),(QI),er,H',⟨by have:=SR.out;have:=kg.out;have:=SS.out;omega⟩,⟨by (with_reducible repeat (first|apply Kd.cz|apply Kd.cy|apply Kd.cD));exact Kd.bJ adQ.out (fun _ hk=>trivial)⟩,⟨ay.df dS fk⟩,⟨oS HK lN⟩,⟨ay.bg HB dS nU⟩⟩
        ·replace zv:=Bool.eq_false_iff.mpr zv
         subst zv
         have H1:(if oL.length<4398046511104 then (aG.l0 EK (oL++[(⟨oN,pF,gh⟩:mK)]) (wrap64 (sq-1)) bV Ei Eh) else (none))=some (r1,r2,r3):=by rw [if_neg (show¬(false=true) by decide)] at H;exact H
         clear H
         have H:=H1
         clear H1;replace H:=dy H;obtain ⟨c49,H⟩:=H;have ady:=ak c49;clear c49
         obtain ⟨ZL,ez⟩:∃y_:List (mK),y_=(oL++[(⟨oN,pF,gh⟩:mK)]):=⟨_,rfl⟩
         replace H:(aG.l0 EK ZL (wrap64 (sq-1)) bV Ei Eh)=some (r1,r2,r3):=yH
         have ada:=ak ez;clear ez
         have H':=ak H
         clear H
         go_wp2_with (first|(go_at_call 77;(with_reducible refine (eS.calls g bV nE nD 40 false Ei Eh w0 _ ?side1 ?side2 A30.out).mono ?_);(case side1=>exact ay.df dS fk);(case side2=>exact ay.bg HB dS nU);rintro e w50 ⟨rfl,hi,hb,hk⟩;replace eT:=ak (Kd.bJ (Kd.jj (ay.apart (show ay w0 _ g bV nE nD from ay.df dS fk) (dH eT) (by decide)) hk (fun _ h=>h.2)) (fun _ h=>h.1));replace hO:=ak (aZ.aI hk (g':=iW) (dm hO) mL.out (by simp));replace HK:=ak (aZ.trans (oS HK lN) hk (.inl rfl));replace HB:=ak (hb);replace dS:=ak (hi);(try clear hb);(try clear hk);(try clear hi);have aid:=mL.out;have ah6:=fk.out;have ai0:=ck hO)|((with_reducible refine bw (b:= .append) (xs:= #[.tmp 41,.tmp 43]) rfl ?_);at_builtin;refine Kd.ig K7 w.heap.size rfl (.tmp 41) (.tmp 43) 40 53 (.agg #[(.int .i64 0),(.int .i64 0),(.string ⟨#[]⟩)]) 32 rfl Tryz.underlying40 NJ rfl (by decide) (by omega) u3 oL (⟨oN,pF,gh⟩:mK) [.int .i64 oN,.int .i64 pF,.string gh] (fun k_=>k_≠iW) (fun _=>False) rfl rfl ?aP (fun _ hk=>hk.elim) ?aF ?aO (Below.refl _ _) ?aS ?aL ?_;(case aP=>exact I2 _ _ _ (⟨oN,pF,gh⟩:mK));(case aF=>exact (fun k_ hk=>Kd.Hy (dm hO) k_ hk));(case aO=>exact (dH eT));(case aS=>exact (iT (w:=w) (g:=g) (row:=none) (oS HK lN)));(case aL=>have:=ady.out;omega);intro ajd Ze ho hb hg eC;rw [←ada.out] at ho;replace hO:=ak (ej (dm hO) hg (Kd.Pt eT.out (fun _ hk=>hk)));replace HB:=ak (nv (ay.bg HB dS nU) HL.out hb);replace dS:=ak (ay.grown (ay.df dS fk) hg (ay.lX dS.out eT.out (by decide)));replace HK:=ak (aZ.trans (oS HK lN) (aZ.nH hg g) (Kd.xX eT.out));have adP:=ak (ho);clear eT;clear ho hb hg eC))
         go_roundg EK
         case measure=>have:=SR.out;have:=kg.out;have:=SS.out;omega
         case rel=>exact ⟨(ZL),(wrap64 (sq-1)),(Ei),(Eh),er,H',⟨by have:=SR.out;have:=kg.out;have:=SS.out;omega⟩,⟨by (with_reducible repeat (first|apply Kd.cz|apply Kd.cy|apply Kd.cD));exact Kd.bJ adP.out (fun _ hk=>trivial)⟩,⟨ay.df dS fk⟩,⟨oS HK lN⟩,⟨ay.bg HB dS nU⟩⟩
     ·rw [if_neg gW] at H
      have kY:=Mb gW
      clear gW
      simp only [Option.some.injEq,Prod.mk.injEq] at H
      obtain ⟨rfl,rfl,rfl⟩:=H;go_wp2
      go_ret
      exact ⟨_,kK,by (with_reducible repeat (first|apply Kd.cz|apply Kd.cy|apply Kd.cD));exact eT.out,ay.d dS,ay.b HB dS,mO HK⟩
end Go.Proofs.YtihekdlcfohkkaaGreatDoor.QFnNets
