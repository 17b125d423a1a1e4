-- printed by this session's own program (wip/tools/pp.py: the kit's print.py with changes); Lean checks it
import Derived.Test.YtihekdlcfohkkaaGreatDoorQFnNetx0
import Derived.Test.YtihekdlcfohkkaaGreatDoorQFnNetx1
import Derived.Test.YtihekdlcfohkkaaGreatDoorQFnNetx2
import Derived.Test.YtihekdlcfohkkaaGreatDoorQFnNetx3
import Derived.Test.YtihekdlcfohkkaaGreatDoorQFnNetx8
import Derived.Test.YtihekdlcfohkkaaGreatDoorQFnNetx10
import Derived.Test.YtihekdlcfohkkaaGreatDoorQFnNetx11
import Derived.Test.YtihekdlcfohkkaaGreatDoorQFnNetx14
namespace Go.Proofs.YtihekdlcfohkkaaGreatDoor.QFnNet
open Go.RowKit Go.Proofs.YtihekdlcfohkkaaGreatDoorW.PrintWords Go.Proofs.YtihekdlcfohkkaaGreatDoorW.PrintLast Go.Proofs.YtihekdlcfohkkaaGreatDoorW.PrintMore
attribute [local go_sem] max2_int min2_int max_two min_two max_three min_three max_four min_four strLss strGtr strLeq strGeq
set_option linter.unusedVariables false
set_option linter.unusedSimpArgs false
set_option maxHeartbeats 16000000
set_option maxRecDepth 100000
theorem OY {k:Nat} {v0 v1 v2 v3 u0 u1 u2 u3:Value} {n m:Nt} {r:Bool} {w:World} (hn:NC w v0 v1 v2 v3 n) (hm:NC w u0 u1 u2 u3 m) (h:jq.f k n.ks n.ps n.ss n.ib n.sd m.ks m.ps m.ss m.ib m.sd=some r):
    Calls Tryz.prog 33 #[.agg #[v0,v1,v2,v3,.int .i64 n.sd],.agg #[u0,u1,u2,u3,.int .i64 m.sd]] w fun e w'=>e= .returned (.bool r)∧Below w.heap.size w w':=by
  obtain ⟨A0,c0,A1,c1,A2,c2,A3,c3,⟨rfl,rfl,rfl,rfl⟩,⟨r0,l0⟩,⟨r1,l1⟩,⟨r2,l2⟩,⟨r3,l3⟩⟩:=hn
  obtain ⟨B0,d0,B1,d1,B2,d2,B3,d3,⟨rfl,rfl,rfl,rfl⟩,⟨s0,m0⟩,⟨s1,m1⟩,⟨s2,m2⟩,⟨s3,m3⟩⟩:=hm
  exact jq.calls k A0 c0 n.ks A1 c1 n.ps A2 c2 n.ss A3 c3 n.ib n.sd B0 d0 m.ks B1 d1 m.ps B2 d2 m.ss B3 d3 m.ib m.sd r w r0 l0 r1 l1 r2 l2 r3 l3 s0 m0 s1 m1 s2 m2 s3 m3 h
theorem Tm {k:Nat} {v0 v1 v2 v3:Value} {n:Nt} {r1:Int} {r2:Bool} {w:World} (hn:NC w v0 v1 v2 v3 n) (h:gZ.f k n.ks n.ps n.ss n.ib n.sd=some (r1,r2)):
    Calls Tryz.prog 34 #[.agg #[v0,v1,v2,v3,.int .i64 n.sd]] w fun e w'=>e= .returned (.tuple #[.int .i64 r1,.bool r2])∧Below w.heap.size w w':=by
  obtain ⟨A0,c0,A1,c1,A2,c2,A3,c3,⟨rfl,rfl,rfl,rfl⟩,⟨x0,y0⟩,⟨x1,y1⟩,⟨x2,y2⟩,⟨x3,y3⟩⟩:=hn
  exact gZ.calls k A0 c0 n.ks A1 c1 n.ps A2 c2 n.ss A3 c3 n.ib n.sd r1 r2 w x0 y0 x1 y1 x2 y2 x3 y3 h
theorem Tn {k:Nat} {v0 v1 v2 v3:Value} {n:Nt} {u:Int} {r1:List ByteArray} {r2:Bool} {w:World} (hn:NC w v0 v1 v2 v3 n) (h:jr.f k n.ks n.ps n.ss n.ib n.sd u=some (r1,r2)):
    Calls Tryz.prog 36 #[.agg #[v0,v1,v2,v3,.int .i64 n.sd],.int .i64 u] w fun e w'=>∃kV:Value,e= .returned (.tuple #[kV,.bool r2])∧Kd.R Kd.string 9 w' w.heap.size (fun _=>True) kV r1∧Below w.heap.size w w':=by
  obtain ⟨A0,c0,A1,c1,A2,c2,A3,c3,⟨rfl,rfl,rfl,rfl⟩,⟨x0,y0⟩,⟨x1,y1⟩,⟨x2,y2⟩,⟨x3,y3⟩⟩:=hn
  exact jr.calls k A0 c0 n.ks A1 c1 n.ps A2 c2 n.ss A3 c3 n.ib n.sd u r1 r2 w x0 y0 x1 y1 x2 y2 x3 y3 h
def dx.u (k:Nat) (s:Nt) (l:List iK) (d:List Bool) (u:Int):Option Bool:=(jr.f k s.ks s.ps s.ss s.ib s.sd u).bind fun (a,b3)=>if b3=true then (aK.f k l d u).bind fun (b,b4)=>if b4=true then cq.f k a b else none else none
def dx.m (k:Nat) (n:Nt) (l:List iK) (d:List Bool):Option Bool:=(gY.f k n).bind fun (s,one)=>if one=true then (gZ.f k s.ks s.ps s.ss s.ib s.sd).bind fun (z,two)=>if two=true∧z=0 then
 (aq.f k n.ks n.ps n.ss n.ib n.sd).bind fun e3=>if e3=true then (aq.f k s.ks s.ps s.ss s.ib s.sd).bind fun e4=>if e4=true∧dx.u k s l d 0=some true∧dx.u k s l d 1=some true∧dx.u k s l d 2=some true∧dx.u k s l d 3=some true then some true else none else none else none else none
def dx.f (k:Nat) (l0 l1:List Int):Option Bool:=
 if wrap64 ((l0.length:Int)+(l1.length:Int))>1048576 then some true else
 (fM.f k l0).bind fun (x,st)=>(eH.f k x st).bind fun (n,d,q)=>(cC.f k x st).bind fun (m,d',q')=>
 (eu.f k d d').bind fun e1=>if e1=true∧q=q' then (jq.f k n.ks n.ps n.ss n.ib n.sd m.ks m.ps m.ss m.ib m.sd).bind fun e2=>if e2=true∧(q=true→dx.m k n st d=some true) then
 (cz.f k l1).bind fun (o,dd,u)=>(aK.f k o dd u).bind fun (p,b1)=>(aU.f k o dd u).bind fun (p',b2)=>if b1=b2 then cq.f k p p' else none
 else none else none
theorem dx.calls (k:Nat) (A0:Option Addr) (c0:Nat) (l0:List Int) (A1:Option Addr) (c1:Nat) (l1:List Int) (r:Bool) (w:World) (eT:Kd.C (Kd.int .u8) w A0 l0.length l0) (fE:l0.length≤c0) (nY:Kd.C (Kd.int .u8) w A1 l1.length l1) (mY:l1.length≤c1) (h:dx.f k l0 l1=some r) (N2:r=true):
  Calls Tryz.prog 6 #[.slice A0 l0.length c0,.slice A1 l1.length c1] w fun e w'=>e= .returned (.bool r)∧Below w.heap.size w w':=by
 subst N2
 have mX:=Tryz.underlying27
 have fB:=ak eT;have jD:=ak fE;have pX:=ak nY;have Ed:=ak mY
 clear eT fE nY mY
 have HS:=Sep.nil w
 unfold dx.f at h
 by_cases rG:wrap64 ((l0.length:Int)+(l1.length:Int))>1048576
 ·have aeX:decide (1048576<wrap64 ((l0.length:Int)+(l1.length:Int)))=true:=decide_eq_true rG
  clear h rG
  go_enter Tryz.func6,Tryz.ntmps6
  go_wp2
  go_ret
  exact ⟨er,HS.base⟩
 ·rw [if_neg rG] at h
  have aeX:decide (1048576<wrap64 ((l0.length:Int)+(l1.length:Int)))=false:=decide_eq_false rG
  clear rG
  replace h:=bS h;obtain ⟨⟨x,st⟩,T0,h⟩:=h
  replace h:=bS h;obtain ⟨⟨n,d,q⟩,T1,h⟩:=h
  replace h:=bS h;obtain ⟨⟨m,d',q'⟩,T2,h⟩:=h
  dsimp only at h
  replace h:=bS h;obtain ⟨e1,T3,h⟩:=h
  replace h:=cZ h;obtain ⟨⟨rfl,rfl⟩,h⟩:=h
  replace h:=bS h;obtain ⟨e2,T4,h⟩:=h
  replace h:=cZ h;obtain ⟨⟨rfl,hM_⟩,h⟩:=h
  have HM:=ak hM_;clear hM_
  replace h:=bS h;obtain ⟨⟨o,dd,u⟩,T10,h⟩:=h
  dsimp only at h
  replace h:=bS h;obtain ⟨⟨p,b1⟩,RG,h⟩:=h
  replace h:=bS h;obtain ⟨⟨p',b2⟩,T12,h⟩:=h
  dsimp only at h
  replace h:=cZ h;obtain ⟨rfl,h⟩:=h
  have T13:=ak h;clear h
  have hq6:(q !=q)=false:=bne_self_eq_false q
  have hbb:(b1==b1)=true:=beq_self_eq_true b1
  go_enter Tryz.func6,Tryz.ntmps6
  go_upto_region 5 with (first|(go_at_call 31;have dj:=fM.calls k _ _ l0 x st _ (Kd.aH fB.out HS.base) jD.out T0.out;refine dj.mono ?_;clear dj;rintro e W_ ⟨v0,v1,rfl,Ri,Rh,bn⟩;replace HS:=HS.news bn (C8 Ri Rh);clear Ri Rh bn;dsimp only [fH,List.cons_append,List.nil_append] at HS;obtain ⟨Aky,cky,rfl⟩:=HS.lJ 0;obtain ⟨Ast,cst,rfl⟩:=HS.lJ 1)|(go_at_call 19;have dj:=eH.calls (HS.jb 0).2.2 (HS.jb 0).2.1 (HS.jb 1).2.2 (HS.jb 1).2.1 T1.out;refine dj.mono ?_;clear dj;rintro e W_ ⟨gv0,gv1,gv2,gv3,gd,rfl,nu,bn⟩;replace HS:=HS.news bn nu;clear nu bn;dsimp only [fH,List.cons_append,List.nil_append] at HS;obtain ⟨Gj,FX,rfl⟩:=HS.lJ 0;obtain ⟨Kk,JZ,rfl⟩:=HS.jZ 1;obtain ⟨NV,MP,rfl⟩:=HS.jZ 2;obtain ⟨Qz,P1,rfl⟩:=HS.jZ 3;obtain ⟨Agd,cgd,rfl⟩:=HS.lJ 4)|((with_reducible refine ax (N:=7) rfl ?_);refine cm 7 #[.slice none 0 0,.slice none 0 0,.slice none 0 0,.slice none 0 0,.int .i64 0] 27 ?_;intro b7 cg W_ bQ bn;replace HS:=HS.box cg bQ bn;clear cg bQ bn;have eV:=aD (HS.bf 0);clear eV;have eV:=aD (HS.bf 0)))
  clear eV
  obtain ⟨uI,iW,iZ⟩:=(((((HS.dg 0 0 (.slice Gj n.ks.length FX) #[.slice Gj n.ks.length FX,.slice none 0 0,.slice none 0 0,.slice none 0 0,.int .i64 0]).dg 0 1 (.slice Kk n.ps.length JZ) #[.slice Gj n.ks.length FX,.slice Kk n.ps.length JZ,.slice none 0 0,.slice none 0 0,.int .i64 0]).dg 0 2 (.slice NV n.ss.length MP) #[.slice Gj n.ks.length FX,.slice Kk n.ps.length JZ,.slice NV n.ss.length MP,.slice none 0 0,.int .i64 0]).dg 0 3 (.slice Qz n.ib.length P1) #[.slice Gj n.ks.length FX,.slice Kk n.ps.length JZ,.slice NV n.ss.length MP,.slice Qz n.ib.length P1,.int .i64 0]).dg 0 4 (.int .i64 n.sd) #[.slice Gj n.ks.length FX,.slice Kk n.ps.length JZ,.slice NV n.ss.length MP,.slice Qz n.ib.length P1,.int .i64 n.sd]).gen
  rw [iW]
  clear HS iW
  have HS:=iZ
  clear iZ
  have eV:=aD (HS.bf 0)
  go_upto_region 6 with (first|(go_at_call 16;have dj:=cC.calls (HS.jb 6).2.2 (HS.jb 6).2.1 (HS.jb 7).2.2 (HS.jb 7).2.1 T2.out;refine dj.mono ?_;clear dj;rintro e W_ ⟨wv0,wv1,wv2,wv3,wd,rfl,nu,bn⟩;replace HS:=HS.news bn nu;clear nu bn;dsimp only [fH,List.cons_append,List.nil_append] at HS;obtain ⟨Kg,JR,rfl⟩:=HS.lJ 0;obtain ⟨NT,MG,rfl⟩:=HS.jZ 1;obtain ⟨Qx,PZ,rfl⟩:=HS.jZ 2;obtain ⟨VT,U5,rfl⟩:=HS.jZ 3;obtain ⟨Awd,cwd,rfl⟩:=HS.lJ 4;clear eV;have eV:=aD (HS.bf 5))|((with_reducible refine ax (N:=10) rfl ?_);refine cm 10 #[.slice none 0 0,.slice none 0 0,.slice none 0 0,.slice none 0 0,.int .i64 0] 27 ?_;intro Cd cg W_ bQ bn;replace HS:=HS.box cg bQ bn;clear cg bQ bn;clear eV;have yY:=aD (HS.bf 0);clear yY;have yY:=aD (HS.bf 0);have eV:=aD (HS.bf 6)))
  clear yY eV
  obtain ⟨uI,iW,iZ⟩:=(((((HS.dg 0 0 (.slice Kg m.ks.length JR) #[.slice Kg m.ks.length JR,.slice none 0 0,.slice none 0 0,.slice none 0 0,.int .i64 0]).dg 0 1 (.slice NT m.ps.length MG) #[.slice Kg m.ks.length JR,.slice NT m.ps.length MG,.slice none 0 0,.slice none 0 0,.int .i64 0]).dg 0 2 (.slice Qx m.ss.length PZ) #[.slice Kg m.ks.length JR,.slice NT m.ps.length MG,.slice Qx m.ss.length PZ,.slice none 0 0,.int .i64 0]).dg 0 3 (.slice VT m.ib.length U5) #[.slice Kg m.ks.length JR,.slice NT m.ps.length MG,.slice Qx m.ss.length PZ,.slice VT m.ib.length U5,.int .i64 0]).dg 0 4 (.int .i64 m.sd) #[.slice Kg m.ks.length JR,.slice NT m.ps.length MG,.slice Qx m.ss.length PZ,.slice VT m.ib.length U5,.int .i64 m.sd]).gen
  rw [iW]
  clear HS iW
  have HS:=iZ
  clear iZ
  have yY:=aD (HS.bf 0)
  have eV:=aD (HS.bf 6)
  go_upto_region 8 with (first|(go_at_call 32;have dj:=eu.calls k _ _ d _ _ d' true _ (HS.jb 11).2.2 (HS.jb 11).2.1 (HS.jb 5).2.2 (HS.jb 5).2.1 T3.out;refine dj.mono ?_;clear dj;rintro e W_ ⟨rfl,Mq⟩;replace HS:=HS.below Mq.below;clear Mq;clear yY eV;have yY:=aD (HS.bf 0);have eV:=aD (HS.bf 6))|(go_at_call 33;have dj:=OY (n:=n) (m:=m) (rL HS 7) (rL HS 1) T4.out;refine dj.mono ?_;clear dj;rintro e W_ ⟨rfl,bn⟩;replace HS:=HS.below bn;clear bn;clear yY eV;have yY:=aD (HS.bf 0);have eV:=aD (HS.bf 6)))
  cases q with
  |false=>
   clear HM
   clear yY eV
   go_wp2_with (first|(go_at_call 39;have dj:=cz.calls (Kd.aH pX.out HS.base) Ed.out T10.out;refine dj.mono ?_;clear dj;rintro e W_ ⟨po,pd,rfl,nu,bn⟩;replace HS:=HS.news bn nu;clear nu bn;dsimp only [fH,List.cons_append,List.nil_append] at HS;obtain ⟨Apo,cpo,rfl⟩:=HS.lJ 0;obtain ⟨Apd,cpd,rfl⟩:=HS.lJ 1)|(go_at_call 37;have dj:=aK.calls k _ _ o _ _ dd u p b1 _ (HS.jb 0).2.2 (HS.jb 0).2.1 (HS.jb 1).2.2 (HS.jb 1).2.1 RG.out;refine dj.mono ?_;clear dj;rintro e W_ ⟨rp,rfl,bQ,bn⟩;replace HS:=HS.new (A:=rA Kd.string 9 rp p) bn bQ;obtain ⟨Arp,crp,rfl⟩:=HS.lJ 0;clear bQ bn)|(go_at_call 40;have dj:=aU.calls k _ _ o _ _ dd u p' b1 _ (HS.jb 1).2.2 (HS.jb 1).2.1 (HS.jb 2).2.2 (HS.jb 2).2.1 T12.out;refine dj.mono ?_;clear dj;rintro e W_ ⟨rq,rfl,bQ,bn⟩;replace HS:=HS.new (A:=rA Kd.string 9 rq p') bn bQ;obtain ⟨Arq,crq,rfl⟩:=HS.lJ 0;clear bQ bn)|(go_at_call 38;have dj:=cq.calls k _ _ p _ _ p' true _ (HS.jb 1).2.2 (HS.jb 1).2.1 (HS.jb 0).2.2 (HS.jb 0).2.1 T13.out;refine dj.mono ?_;clear dj;rintro e W_ ⟨rfl,Mq⟩;replace HS:=HS.below Mq.below;clear Mq))
   go_ret
   exact ⟨er,HS.base⟩
  |true=>
   have h:=HM.out rfl;clear HM
   unfold dx.m at h
   replace h:=bS h;obtain ⟨⟨s,one⟩,T5,h⟩:=h
   dsimp only at h
   replace h:=cZ h;obtain ⟨rfl,h⟩:=h
   replace h:=bS h;obtain ⟨⟨z,two⟩,T6,h⟩:=h
   dsimp only at h
   replace h:=cZ h;obtain ⟨⟨rfl,rfl⟩,h⟩:=h
   replace h:=bS h;obtain ⟨e3,T7,h⟩:=h
   replace h:=cZ h;obtain ⟨rfl,h⟩:=h
   replace h:=bS h;obtain ⟨e4,T8,h⟩:=h
   replace h:=cZ h;obtain ⟨⟨rfl,u0_,u1_,u2_,u3_⟩,h⟩:=h
   clear h
   have HU:=ak (show∀j:Nat,j<4→dx.u k s st d (j:Int)=some true from fun|0,_=>u0_|1,_=>u1_|2,_=>u2_|3,_=>u3_|j+4,hj=>absurd hj (by omega))
   clear u0_ u1_ u2_ u3_
   clear yY eV
   have eV:=aD (HS.bf 6)
   go_upto_region 10 with (first|(go_at_call 11;have dj:=gY.calls (n:=n) (rL HS 7) T5.out;refine dj.mono ?_;clear dj;rintro e W_ ⟨sv0,sv1,sv2,sv3,rfl,nu,bn⟩;replace HS:=HS.news bn nu;clear nu bn;dsimp only [fH,List.cons_append,List.nil_append] at HS;obtain ⟨D9,Dx,rfl⟩:=HS.lJ 0;obtain ⟨Gi,FV,rfl⟩:=HS.jZ 1;obtain ⟨Kh,JT,rfl⟩:=HS.jZ 2;obtain ⟨NU,MJ,rfl⟩:=HS.jZ 3;clear eV;have eV:=aD (HS.bf 10))|((with_reducible refine ax (N:=13) rfl ?_);refine cm 13 #[.slice none 0 0,.slice none 0 0,.slice none 0 0,.slice none 0 0,.int .i64 0] 27 ?_;intro b13 cg W_ bQ bn;replace HS:=HS.box cg bQ bn;clear cg bQ bn;clear eV;have oD:=aD (HS.bf 0);clear oD;have oD:=aD (HS.bf 0);have eV:=aD (HS.bf 11)))
   clear oD eV
   obtain ⟨uI,iW,iZ⟩:=(((((HS.dg 0 0 (.slice D9 s.ks.length Dx) #[.slice D9 s.ks.length Dx,.slice none 0 0,.slice none 0 0,.slice none 0 0,.int .i64 0]).dg 0 1 (.slice Gi s.ps.length FV) #[.slice D9 s.ks.length Dx,.slice Gi s.ps.length FV,.slice none 0 0,.slice none 0 0,.int .i64 0]).dg 0 2 (.slice Kh s.ss.length JT) #[.slice D9 s.ks.length Dx,.slice Gi s.ps.length FV,.slice Kh s.ss.length JT,.slice none 0 0,.int .i64 0]).dg 0 3 (.slice NU s.ib.length MJ) #[.slice D9 s.ks.length Dx,.slice Gi s.ps.length FV,.slice Kh s.ss.length JT,.slice NU s.ib.length MJ,.int .i64 0]).dg 0 4 (.int .i64 s.sd) #[.slice D9 s.ks.length Dx,.slice Gi s.ps.length FV,.slice Kh s.ss.length JT,.slice NU s.ib.length MJ,.int .i64 s.sd]).gen
   rw [iW]
   clear HS iW
   have HS:=iZ
   clear iZ
   have oD:=aD (HS.bf 0)
   have eV:=aD (HS.bf 11)
   go_upto_region 11 with (first|(go_at_call 34;have dj:=Tm (n:=s) (rL HS 1) T6.out;refine dj.mono ?_;clear dj;rintro e W_ ⟨rfl,bn⟩;replace HS:=HS.below bn;clear bn;clear oD eV;have oD:=aD (HS.bf 0);have eV:=aD (HS.bf 11)))
   go_upto_region 13 with (first|((with_reducible refine eG (f:=35) rfl ?_);refine kS (some 81) rfl Tryz.func35 #[.agg #[.slice Gj n.ks.length FX,.slice Kk n.ps.length JZ,.slice NV n.ss.length MP,.slice Qz n.ib.length P1,.int .i64 n.sd]] rfl ?_;have dj:=aq.net (n:=n) (rL HS 12) T7.out;refine dj.mono ?_;clear dj;rintro e W_ ⟨rfl,bn⟩;refine ⟨_,rfl,?_⟩;replace HS:=HS.below bn;clear bn;clear oD eV;have oD:=aD (HS.bf 0);have eV:=aD (HS.bf 11))|(go_at_call 35;have dj:=aq.net (n:=s) (rL HS 1) T8.out;refine dj.mono ?_;clear dj;rintro e W_ ⟨rfl,bn⟩;replace HS:=HS.below bn;clear bn;clear oD eV;have oD:=aD (HS.bf 0);have eV:=aD (HS.bf 11)))
   go_wp2
   clear oD eV
   replace HS:=HS.jI.tail
   replace HS:=HS.jI.tail
   replace HS:=HS.jI.tail
   replace HS:=HS.jI.tail
   replace HS:=HS.jI.tail
   replace HS:=HS.jI.tail
   replace HS:=HS.jI.tail
   replace HS:=HS.jI.tail
   replace HS:=HS.jI.tail
   replace HS:=HS.jI.tail
   replace HS:=HS.jI.tail
   replace HS:=HS.kG.tail
   go_loopg [17] 4 (fun kq v17 w'=>∃j:Nat,v17= .int .i64 (j:Int)∧j≤4∧4-j≤kq∧Sep w w' (rA KI 3 (.slice D9 s.ks.length Dx) s.ks::sA KT 62 (.slice Gi s.ps.length FV) s.ps::sA KT 62 (.slice Kh s.ss.length JT) s.ss::sA KT 62 (.slice NU s.ib.length MJ) s.ib::bA b13 #[.slice D9 s.ks.length Dx,.slice Gi s.ps.length FV,.slice Kh s.ss.length JT,.slice NU s.ib.length MJ,.int .i64 s.sd] 27::rA zN 53 (.slice Ast st.length cst) st::rA Kd.bool 4 (.slice Agd d.length cgd) d::[]))
   case atStart=>exact ⟨0,rfl,Nat.zero_le _,Nat.le_refl _,HS.jI.kG.mN.kG.kG.kG.kG⟩
   case round=>
    clear HS
    obtain ⟨j,rfl,j1,j2,HS⟩:=hrel
    by_cases hj:j<4
    ·have Fs:decide ((j:Int)<4)=true:=decide_eq_true (by omega)
     have h:=HU.out j hj
     unfold dx.u at h
     replace h:=bS h;obtain ⟨⟨a,b3⟩,T14,h⟩:=h
     dsimp only at h
     replace h:=cZ h;obtain ⟨rfl,h⟩:=h
     replace h:=bS h;obtain ⟨⟨b,b4⟩,T15,h⟩:=h
     dsimp only at h
     replace h:=cZ h;obtain ⟨rfl,h⟩:=h
     have T16:=ak h;clear h
     have oD:=aD (HS.bf 4)
     go_wp2_with (first|(go_at_call 36;have dj:=Tn (n:=s) (rL HS 0) T14.out;refine dj.mono ?_;clear dj;rintro e W_ ⟨ra,rfl,bQ,bn⟩;replace HS:=HS.new (A:=rA Kd.string 9 ra a) bn bQ;obtain ⟨Ara,cra,rfl⟩:=HS.lJ 0;clear bQ bn;clear oD;have oD:=aD (HS.bf 5))|(go_at_call 37;have dj:=aK.calls k _ _ st _ _ d (j:Int) b true _ (HS.jb 6).2.2 (HS.jb 6).2.1 (HS.jb 7).2.2 (HS.jb 7).2.1 T15.out;refine dj.mono ?_;clear dj;rintro e W_ ⟨rb,rfl,bQ,bn⟩;replace HS:=HS.new (A:=rA Kd.string 9 rb b) bn bQ;obtain ⟨Arb,crb,rfl⟩:=HS.lJ 0;clear bQ bn;clear oD;have oD:=aD (HS.bf 6))|(go_at_call 38;have dj:=cq.calls k _ _ a _ _ b true _ (HS.jb 1).2.2 (HS.jb 1).2.1 (HS.jb 0).2.2 (HS.jb 0).2.1 T16.out;refine dj.mono ?_;clear dj;rintro e W_ ⟨rfl,Mq⟩;replace HS:=HS.below Mq.below;clear Mq;clear oD;have oD:=aD (HS.bf 6)))
     replace HS:=HS.tail
     replace HS:=HS.tail
     go_roundg (4-(j+1))
     case measure=>omega
     case rel=>exact ⟨j+1,(by first|rfl|exact gm hj (by decide)),hj,Nat.le_refl _,HS⟩
    ·have Fs:decide ((j:Int)<4)=false:=decide_eq_false (by omega)
     go_wp2_with (first|(go_at_call 39;have dj:=cz.calls (Kd.aH pX.out HS.base) Ed.out T10.out;refine dj.mono ?_;clear dj;rintro e W_ ⟨po,pd,rfl,nu,bn⟩;replace HS:=HS.news bn nu;clear nu bn;dsimp only [fH,List.cons_append,List.nil_append] at HS;obtain ⟨Apo,cpo,rfl⟩:=HS.lJ 0;obtain ⟨Apd,cpd,rfl⟩:=HS.lJ 1)|(go_at_call 37;have dj:=aK.calls k _ _ o _ _ dd u p b1 _ (HS.jb 0).2.2 (HS.jb 0).2.1 (HS.jb 1).2.2 (HS.jb 1).2.1 RG.out;refine dj.mono ?_;clear dj;rintro e W_ ⟨rp,rfl,bQ,bn⟩;replace HS:=HS.new (A:=rA Kd.string 9 rp p) bn bQ;obtain ⟨Arp,crp,rfl⟩:=HS.lJ 0;clear bQ bn)|(go_at_call 40;have dj:=aU.calls k _ _ o _ _ dd u p' b1 _ (HS.jb 1).2.2 (HS.jb 1).2.1 (HS.jb 2).2.2 (HS.jb 2).2.1 T12.out;refine dj.mono ?_;clear dj;rintro e W_ ⟨rq,rfl,bQ,bn⟩;replace HS:=HS.new (A:=rA Kd.string 9 rq p') bn bQ;obtain ⟨Arq,crq,rfl⟩:=HS.lJ 0;clear bQ bn)|(go_at_call 38;have dj:=cq.calls k _ _ p _ _ p' true _ (HS.jb 1).2.2 (HS.jb 1).2.1 (HS.jb 0).2.2 (HS.jb 0).2.1 T13.out;refine dj.mono ?_;clear dj;rintro e W_ ⟨rfl,Mq⟩;replace HS:=HS.below Mq.below;clear Mq))
     go_ret
     exact ⟨er,HS.base⟩
def dx.Pure:Prop:=∀(l0:List Int) (l1:List Int),l0.length≤maxLen→l0.length*1≤140737488351232→(∀x∈l0,(Lit.int .u8 x).wf=true)→l1.length≤maxLen→l1.length*1≤140737488351232→(∀x∈l1,(Lit.int .u8 x).wf=true)→∃k,dx.f k l0 l1=some true
theorem dx.walk (P:dx.Pure) (a0:Option Addr) (Dc DC:Nat) (z0:List Int) (a1:Option Addr) (Db DB:Nat) (z1:List Int) (w:World) (w0:(a0=none∧Dc=0∧DC=0∧z0=[])∨∃x,a0=some x∧Dc≤DC∧DC≤maxLen∧z0.length=DC∧(∀i,i<z0.length→w.cell? (x.add i)=some (.int .u8 (z0.getD i 0)))∧∀n∈z0,(Lit.int .u8 n).wf=true) (y0:Dc*1≤140737488351232) (w1:(a1=none∧Db=0∧DB=0∧z1=[])∨∃x,a1=some x∧Db≤DB∧DB≤maxLen∧z1.length=DB∧(∀i,i<z1.length→w.cell? (x.add i)=some (.int .u8 (z1.getD i 0)))∧∀n∈z1,(Lit.int .u8 n).wf=true) (y1:Db*1≤140737488351232):
  Calls Tryz.prog 6 #[.slice a0 Dc DC,.slice a1 Db DB] w fun e w'=>e= .returned (.bool true)∧Below w.heap.size w w':=by
 obtain ⟨l0,rfl,eT,hm0,hw0,fE⟩:=ew.Lx w0
 obtain ⟨l1,rfl,nY,hm1,hw1,mY⟩:=ew.Lx w1
 obtain ⟨k,h⟩:=P l0 l1 hm0 y0 hw0 hm1 y1 hw1
 refine (dx.calls k _ _ l0 _ _ l1 true w (Kd.mb (d:=(0:Int)) (h1:=fun _=>rfl) eT) fE (Kd.mb (d:=(0:Int)) (h1:=fun _=>rfl) nY) mY h rfl).mono ?_
 rintro e w' ⟨rfl,hd⟩
 exact ⟨rfl,hd⟩
end Go.Proofs.YtihekdlcfohkkaaGreatDoor.QFnNet
