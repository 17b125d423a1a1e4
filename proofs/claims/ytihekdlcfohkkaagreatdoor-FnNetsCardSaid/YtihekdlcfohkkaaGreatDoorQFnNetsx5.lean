-- printed by this session's own program (wip/tools/pp.py: the kit's print.py with changes); Lean checks it
import Derived.Test.YtihekdlcfohkkaaGreatDoorQFnNetsx0
import Derived.Test.YtihekdlcfohkkaaGreatDoorQFnNetsx2
import Derived.Test.YtihekdlcfohkkaaGreatDoorQFnNetsx3
import Derived.Test.YtihekdlcfohkkaaGreatDoorQFnNetsx4
namespace Go.Proofs.YtihekdlcfohkkaaGreatDoor.QFnNets
open Go.RowKit Go.Proofs.YtihekdlcfohkkaaGreatDoorW.PrintWords Go.Proofs.YtihekdlcfohkkaaGreatDoorW.PrintLast Go.Proofs.YtihekdlcfohkkaaGreatDoorW.PrintMore
attribute [local go_sem] max2_int min2_int max_two min_two max_three min_three max_four min_four strLss strGtr strLeq strGeq
set_option linter.unusedVariables false
set_option linter.unusedSimpArgs false
set_option maxHeartbeats 16000000
set_option maxRecDepth 100000
def aE.l0:Nat→List ByteArray→ByteArray→Int→Int→Int→Option (Int×Bool)
  |0,_,_,_,_,_=>none
  |k+1,x0,x1,x6,x7,x8=>if x7<x8 then (if 0≤(wrap64 ((IntKind.u64.wrap (wrap64 (x7+x8)))/2)) then (if (wrap64 ((IntKind.u64.wrap (wrap64 (x7+x8)))/2))<(x0.length:Int) then ((fD.f (aQ ByteArray.empty x0 (wrap64 ((IntKind.u64.wrap (wrap64 (x7+x8)))/2))) x1).bind fun t230=>(if t230=true then (aE.l0 k x0 x1 x6 (wrap64 ((wrap64 ((IntKind.u64.wrap (wrap64 (x7+x8)))/2))+1)) x8) else (aE.l0 k x0 x1 x6 x7 (wrap64 ((IntKind.u64.wrap (wrap64 (x7+x8)))/2))))) else (none)) else (none)) else (if x7<x6 then (if 0≤x7 then (if x7<(x0.length:Int) then (if (aQ ByteArray.empty x0 x7).toList=x1.toList then (some (x7,true)) else ((ey.f (aQ ByteArray.empty x0 x7)).bind fun t233=>(if t233=true then ((ey.f x1).bind fun t234=>(some (x7,t234))) else (some (x7,false))))) else (none)) else (none)) else (some (x7,false)))
def aE.f (k:Nat) (l0:List ByteArray) (a1:ByteArray):Option (Int×Bool):=aE.l0 k l0 a1 (l0.length:Int) 0 (l0.length:Int)
theorem aE.calls (k:Nat) (A0:Option Addr) (c0:Nat) (l0:List ByteArray) (a1:ByteArray) (r1:Int) (r2:Bool) (w:World) (ff:Kd.C Kd.string w A0 l0.length l0) (fL:l0.length≤c0) (h:aE.f k l0 a1=some (r1,r2)):
  Calls Tryz.prog 133 #[.slice A0 l0.length c0,.string a1] w fun e w'=>e= .returned (.tuple #[.int .i64 r1,.bool r2])∧cQ w w':=by
 have fZ:=ak ff;have ki:=ak fL;clear ff fL
 have H:(aE.l0 k l0 a1 (l0.length:Int) 0 (l0.length:Int))=some (r1,r2):=h
 clear h
 have H':=ak H
 clear H
 go_enter Tryz.func133,Tryz.ntmps133
 go_wp2
 go_loopg [7,8] k (fun kq v7 v8 w'=>∃(dD:Int) (cX:Int),v7= .int .i64 dD∧v8= .int .i64 cX∧Aside0 (aE.l0 kq l0 a1 (l0.length:Int) dD cX=some (r1,r2))∧Aside0 (kq≤k)∧cQ w w')
 case atStart=>exact ⟨(0),((l0.length:Int)),er,er,H',⟨Nat.le_refl _⟩,gV⟩
 case round=>
  clear H'
  obtain ⟨dD,cX,rfl,rfl,HA,gf,⟨m1,rfl⟩⟩:=hrel
  cases gk with
  |zero=>exact absurd HA.out (by simp [aE.l0])
  |succ k1=>
   have H:=HA.out;clear HA
   simp only [aE.l0] at H
   by_cases c3:dD<cX
   ·rw [if_pos c3] at H
    have jX:=decide_eq_true c3
    clear c3
    obtain ⟨FJ,G6⟩:∃j_:Int,(wrap64 ((IntKind.u64.wrap (wrap64 (dD+cX)))/2))=j_:=⟨_,rfl⟩
    replace H:(if 0≤(FJ) then (if (FJ)<(l0.length:Int) then ((fD.f (aQ ByteArray.empty l0 (FJ)) a1).bind fun t230=>(if t230=true then (aE.l0 k1 l0 a1 (l0.length:Int) (wrap64 ((FJ)+1)) cX) else (aE.l0 k1 l0 a1 (l0.length:Int) dD FJ))) else (none)) else (none))=some (r1,r2):=by first|(rw [G6] at H;exact H)|(simp only [G6] at H⊢;exact H)
    have aio:(IntKind.i64.wrap ((IntKind.u64.wrap (wrap64 (dD+cX)))/2))=FJ:=(bW _).trans G6
    replace H:=dy H;obtain ⟨c5,H⟩:=H;have mh:=decide_eq_true c5;clear c5;replace H:=dy H;obtain ⟨c6,H⟩:=H;have kO:=decide_eq_true c6;clear c6;replace H:=bS H;obtain ⟨t230,A7,H⟩:=H
    by_cases c8:t230=true
    ·subst c8
     have H1:(aE.l0 k1 l0 a1 (l0.length:Int) (wrap64 ((FJ)+1)) cX)=some (r1,r2):=by rw [if_pos rfl] at H;exact H
     clear H
     have H:=H1
     clear H1
     have H':=ak H
     clear H
     obtain ⟨afS,afC,acP,XK,RK⟩:=ng (Kd.bq fZ.out (FJ))
     cases XK
     go_wp2_with (first|((with_reducible refine eW (f:=149) rfl ?_);refine DA (some 27) rfl rfl Tryz.func149 (by kernel_rfl) rfl #[.string (aQ ByteArray.empty l0 (FJ)),.string a1] rfl (by (try simp only [List.map_toArray,List.map_cons,List.map_nil]);first|done|(simp only [G6];rfl)|rfl|(simp only [List.length_drop,List.length_take];rfl)) ?_;(with_reducible refine (fD.calls (aQ ByteArray.empty l0 (FJ)) a1 true _ A7.out).mono ?_);rintro e w' ⟨rfl,⟨nd,rfl⟩⟩;refine ⟨_,rfl,?_⟩))
     go_roundg k1
     case measure=>have:=gf.out;omega
     case rel=>exact ⟨(wrap64 ((FJ)+1)),(cX),(by first|rfl|(simp;done)|(simp only [←G6]<;>(first|rfl|simp))|(simp [*];done)),er,H',⟨by have:=gf.out;omega⟩,gV⟩
    ·replace c8:=Bool.eq_false_iff.mpr c8
     subst c8
     have H1:(aE.l0 k1 l0 a1 (l0.length:Int) dD FJ)=some (r1,r2):=by rw [if_neg (show¬(false=true) by decide)] at H;exact H
     clear H
     have H:=H1
     clear H1
     have H':=ak H
     clear H
     obtain ⟨afS,afC,acP,XK,RK⟩:=ng (Kd.bq fZ.out (FJ))
     cases XK
     go_wp2_with (first|((with_reducible refine eW (f:=149) rfl ?_);refine DA (some 27) rfl rfl Tryz.func149 (by kernel_rfl) rfl #[.string (aQ ByteArray.empty l0 (FJ)),.string a1] rfl (by (try simp only [List.map_toArray,List.map_cons,List.map_nil]);first|done|(simp only [G6];rfl)|rfl|(simp only [List.length_drop,List.length_take];rfl)) ?_;(with_reducible refine (fD.calls (aQ ByteArray.empty l0 (FJ)) a1 false _ A7.out).mono ?_);rintro e w' ⟨rfl,⟨nd,rfl⟩⟩;refine ⟨_,rfl,?_⟩))
     go_roundg k1
     case measure=>have:=gf.out;omega
     case rel=>exact ⟨(dD),(FJ),er,(by first|rfl|(simp;done)|(simp only [←G6]<;>(first|rfl|simp))|(simp [*];done)),H',⟨by have:=gf.out;omega⟩,gV⟩
   ·rw [if_neg c3] at H
    have jX:=decide_eq_false c3
    clear c3
    by_cases c9:dD<(l0.length:Int)
    ·rw [if_pos c9] at H
     have mg:=decide_eq_true c9
     clear c9;replace H:=dy H;obtain ⟨gW,H⟩:=H;have kY:=decide_eq_true gW;clear gW;replace H:=dy H;obtain ⟨mY,H⟩:=H;have nM:=decide_eq_true mY;clear mY
     by_cases nW:(aQ ByteArray.empty l0 dD).toList=a1.toList
     ·rw [if_pos nW] at H
      have sN:=lO nW
      have Uj:=mR nW
      clear nW
      simp only [Option.some.injEq,Prod.mk.injEq] at H
      obtain ⟨rfl,rfl⟩:=H
      have Nd:0≤(dD:Int):=da
      have M9:dD<(l0.length:Int):=da
      obtain ⟨JR,OA,I6⟩:=Kd.bq fZ.out dD Nd M9
      cases OA
      replace Nd:=eq_true Nd;replace M9:=eq_true M9;go_wp2
      go_ret2
      exact ⟨er,gV⟩
     ·rw [if_neg nW] at H
      have sN:=lq nW
      have Uj:=mj nW
      replace H:=bS H;obtain ⟨t233,sn,H⟩:=H
      by_cases oI:t233=true
      ·subst oI
       have H1:((ey.f a1).bind fun t234=>(some (dD,t234)))=some (r1,r2):=by rw [if_pos rfl] at H;exact H
       clear H
       have H:=H1
       clear H1;replace H:=bS H;obtain ⟨t234,A15,H⟩:=H
       simp only [Option.some.injEq,Prod.mk.injEq] at H
       obtain ⟨rfl,rfl⟩:=H
       obtain ⟨Nd,M9,JR,OA,I6⟩:=ng (Kd.bq fZ.out dD)
       cases OA
       obtain ⟨afR,afB,Pj,XJ,RJ⟩:=ng (Kd.bq fZ.out dD)
       obtain rfl:JR=Pj:=(by injection XJ)
       go_wp2_with (first|(go_at_call 150;(with_reducible refine (ey.calls (aQ ByteArray.empty l0 dD) true _ sn.out).mono ?_);rintro e w' ⟨rfl,⟨nd,rfl⟩⟩)|(go_at_call 150;(with_reducible refine (ey.calls a1 t234 _ A15.out).mono ?_);rintro e w' ⟨rfl,⟨nd,rfl⟩⟩))
       go_ret2
       exact ⟨er,gV⟩
      ·replace oI:=Bool.eq_false_iff.mpr oI
       subst oI
       have H1:(some (dD,false))=some (r1,r2):=by rw [if_neg (show¬(false=true) by decide)] at H;exact H
       clear H
       have H:=H1
       clear H1
       simp only [Option.some.injEq,Prod.mk.injEq] at H
       obtain ⟨rfl,rfl⟩:=H
       obtain ⟨Nd,M9,JR,OA,I6⟩:=ng (Kd.bq fZ.out dD)
       cases OA
       obtain ⟨afR,afB,Pj,XJ,RJ⟩:=ng (Kd.bq fZ.out dD)
       obtain rfl:JR=Pj:=(by injection XJ)
       go_wp2_with (first|(go_at_call 150;(with_reducible refine (ey.calls (aQ ByteArray.empty l0 dD) false _ sn.out).mono ?_);rintro e w' ⟨rfl,⟨nd,rfl⟩⟩))
       go_ret2
       exact ⟨er,gV⟩
    ·rw [if_neg c9] at H
     have mg:=decide_eq_false c9
     clear c9
     simp only [Option.some.injEq,Prod.mk.injEq] at H
     obtain ⟨rfl,rfl⟩:=H;go_wp2
     go_ret2
     exact ⟨er,gV⟩
def eM.f (k:Nat) (l0:List ByteArray) (a1:ByteArray):Option (List ByteArray):=(aE.f k l0 a1).bind fun t=>((bG.f l0).bind fun c=>(if c.length≤4194304 then (if 0≤t.1 then (if t.1≤(c.length:Int) then (some (c.take t.1.toNat++a1::c.drop t.1.toNat)) else (none)) else (none)) else (none)))
theorem eM.calls (k:Nat) (A0:Option Addr) (c0:Nat) (l0:List ByteArray) (a1:ByteArray) (r:List ByteArray) (w:World) (ff:Kd.C Kd.string w A0 l0.length l0) (fL:l0.length≤c0) (h:eM.f k l0 a1=some r):
  Calls Tryz.prog 119 #[.slice A0 l0.length c0,.string a1] w fun e w'=>∃lG:Value,e= .returned (lG)∧Kd.R Kd.string 9 w' w.heap.size (fun _=>True) lG r∧Below w.heap.size w w':=by
 have fZ:=ak ff;have ki:=ak fL;clear ff fL
 have HB:=ak (Below.refl w.heap.size w)
 unfold eM.f at h
 replace h:=bS h
 obtain ⟨⟨t1,t2⟩,A1,h⟩:=h
 replace h:=bS h
 obtain ⟨c,A2,h⟩:=h
 replace h:=dy h
 obtain ⟨c1,h⟩:=h
 replace h:=dy h
 obtain ⟨c2,h⟩:=h
 replace h:=dy h
 obtain ⟨c3,h⟩:=h
 dsimp only at c2 c3 h
 obtain ⟨i,rfl⟩:=Int.eq_ofNat_of_zero_le c2
 obtain rfl:=Option.some.inj h
 rw [Int.toNat_natCast]
 clear h
 have LI:=ak (show i≤c.length by omega)
 have LC:=ak c1;clear c1 c2 c3
 go_enter Tryz.func119,Tryz.ntmps119
 go_wp2_with (first|(go_at_call 133;(with_reducible refine (aE.calls k _ _ l0 a1 (i:Int) t2 _ fZ.out ki.out A1.out).mono ?_);rintro e w1 ⟨rfl,⟨nd,rfl⟩⟩)|(go_at_call 105;(with_reducible refine (bG.calls _ _ l0 c _ ?side1 ?side2 A2.out).mono ?_);(case side1=>exact cd fZ.out);(case side2=>exact ki.out);rintro e w2 ⟨v14,rfl,ho,hb⟩;have HO:=ak (Kd.dz ho (aX (aq HB)));replace HB:=ak (aH (aq HB) hb);clear ho hb)|((with_reducible refine av (N:=17) rfl ?_);refine Kd.gD Kd.string _ 9 ?hg (N:=17) ?hd (xs:=([a1]:List ByteArray)) (inner:=[.string a1]) (ok:=fun _=>True) (okp:=fun _=>True) ?hr ?hp (fun _ hk=>hk) trivial (Below.refl _ _) (Nat.le_refl _) (by simp) ?_;(case hd=>rfl);(case hg=>rfl);(case hr=>exact rZ);(case hp=>exact (bT.one (show Kd.M Kd.string _ _ _ (a1) [.string a1] from rfl) (bT.none _ _)));intro v17 w3 TD hb3 bK dP;clear bK dP;have HU:=ak (Kd.dz (Kd.bJ (Kd.l9 TD (Kd.ji (dH HO))) (fun _ h_=>h_.2)) (aX (aq HB)));replace HO:=ak (Kd.fF (dH HO) hb3);replace HB:=ak (aH (aq HB) hb3);clear TD hb3)|(go_at_call 134;(with_reducible refine (GU.calls (aq HB) (dH HO) (dH HU) LI.out LC.out).mono ?_);rintro e w4 ⟨v18,rfl,ho,hb⟩;clear HO HU;have HO:=ak ho;replace HB:=ak hb;clear ho hb))
 go_ret
 exact ⟨_,rfl,HO.out,HB.out⟩
def cv.T1:Bool×List (List Nat×List Nat):=(true,[([],[]),([0],[0]),([1],[1]),([2],[2]),([],[]),([],[]),([5],[5]),([6],[6]),([7],[7]),([],[]),([],[]),([10],[10]),([11],[11]),([12],[12]),([],[]),([13,14],[13,14]),([15],[15]),([],[]),([16,17],[16,17]),([],[]),([19],[19]),([20],[20]),([21],[21]),([],[]),([22,23],[22,23]),([24],[24]),([],[]),([25,26,18],[25,26]),([3,4,0,1,2,3,4,8,10,11,12,13,14,15,16,17,18,22,25,27],[3,4]),([28,18,27,0,1,2,3,4,8,10,11,12,13,14,15,16,17,18,22,25,27],[18,28]),([8,9,0,1,2,3,4,5,6,7,8,9,10,11,12,13,14,15,16,17,18,19,20,21,22,23,24,25,26,27,28,29],[8,9]),([30,27,29,0,1,2,3,4,5,6,7,8,9,10,11,12,13,14,15,16,17,18,19,20,21,22,23,24,25,26,27,28,29],[27,30])])
def cv.B1:List Nat:=[0,1,3,7,0,0,32,96,224,0,0,1024,3072,7168,0,31744,64512,0,261120,0,524288,1572864,3670016,0,16252928,33030144,0,134216704,268434943,536870399,1073741823,2147483647]
theorem cv.FY:gz .any (opsOf Tryz.f98 1)=cv.T1:=by kernel_rfl
theorem cv.zK:dZ cv.T1.2 cv.B1=true:=by kernel_rfl
def cv.f (k:Nat) (n:Nt) (i:Int) (s:ByteArray):Option Nt:=if 0≤i∧i<(n.ps.length:Int)∧i<(n.ss.length:Int) then (cN.f k (n.ss.getD i.toNat []) s).bind fun b=>if b=true∨(n.ss.getD i.toNat []).length=100 then some n else (eM.f k (n.ss.getD i.toNat []) s).bind fun S=>(eM.f k (n.ps.getD i.toNat []) s).bind fun P=>some ⟨n.ks,n.ps.set i.toNat P,n.ss.set i.toNat S,n.ib,n.sd⟩ else none
theorem cv.keeps {k:Nat} {n m:Nt} {i:Int} {s:ByteArray} (h:cv.f k n i s=some m):m.ks=n.ks∧m.ib=n.ib∧m.sd=n.sd:=by
 unfold cv.f at h
 replace h:=dy h;obtain ⟨-,h⟩:=h
 replace h:=bS h;obtain ⟨b,-,h⟩:=h
 split at h
 ·obtain rfl:=Option.some.inj h;exact ⟨rfl,rfl,rfl⟩
 ·replace h:=bS h;obtain ⟨_,-,h⟩:=h;replace h:=bS h;obtain ⟨_,-,h⟩:=h;obtain rfl:=Option.some.inj h;exact ⟨rfl,rfl,rfl⟩
theorem cv.calls {k:Nat} {v0 v1 v2 v3:Value} {n m:Nt} {i:Int} {s:ByteArray} {L:List SA} {w0 w:World} {b0:Nat} (hs:Sep w0 w (bA b0 #[v0,v1,v2,v3,.int .i64 n.sd] 27::eO v0 v1 v2 v3 n++L)) (h:cv.f k n i s=some m):
    Calls Tryz.prog 98 #[.pointer (some ⟨b0,0,none⟩),.int .i64 i,.string s] w fun e w'=>e= .returned (.tuple #[])∧Sep w0 w' (bA b0 #[v0,v1,v2,v3,.int .i64 n.sd] 27::eO v0 v1 v2 v3 m++L):=by
 have lg:=Tryz.underlying27
 obtain ⟨ks,ps,ss,ib,sd⟩:=n
 have HS:Sep w0 w (bA b0 #[v0,v1,v2,v3,.int .i64 sd] 27::rA KI 3 v0 ks::sA KT 62 v1 ps::sA KT 62 v2 ss::sA KT 62 v3 ib::L):=hs
 clear hs
 unfold cv.f at h
 dsimp only at h⊢
 replace h:=dy h;obtain ⟨⟨i0,i1,i2⟩,h⟩:=h
 obtain ⟨A0,c0,rfl⟩:=HS.lz 1
 obtain ⟨A3,c3,rfl⟩:=HS.gY 4
 obtain ⟨g1,q1,rfl⟩:=HS.addr 2 (hx:=by omega)
 obtain ⟨g2,q2,rfl⟩:=HS.addr 3 (hx:=by omega)
 have p0:(0≤i)=True:=eq_true i0
 have p1:(i<(ps.length:Int))=True:=eq_true i1
 have p2:(i<(ss.length:Int))=True:=eq_true i2
 obtain ⟨AP,qP,HS,-,-⟩:=HS.me.yS i i0 i1
 obtain ⟨AS,qS,HS,-,-⟩:=HS.j9.yS i i0 i2
 generalize hS:ss.getD i.toNat []=S at HS h
 generalize hP:ps.getD i.toNat []=P at HS h
 have GS:=ak hS;have GP:=ak hP;clear hS hP
 replace h:=bS h;obtain ⟨b,T1,h⟩:=h
 by_cases hb:b=true∨S.length=100
 ·rw [if_pos hb] at h
  obtain rfl:=Option.some.inj h
  clear h
  have hl:b=false→((S.length:Int)==100)=true:=fun e=>beq_iff_eq.2 (by rcases hb with h|h;(rw [e] at h;cases h);omega)
  clear hb
  cases b
  all_goals
   first|replace hl:=hl rfl|clear hl
   go_enter Tryz.func98,Tryz.ntmps98
   have cP:=an (HS.aI 4)
   obtain ⟨gK,jf⟩:=HS.hole i0 i2
   go_wp2_with (first|(go_at_call 73;have cE:=cN.calls k _ _ S s _ _ (HS.mA 1).2.2 (HS.mA 1).2.1 T1.out;refine cE.mono ?_;clear cE;rintro e W_ ⟨rfl,iC,rfl⟩;replace HS:=HS.drewN iC;generalize World.drewN _ iC=W_ at HS⊢;clear cP gK jf;have cP:=an (HS.aI 4);obtain ⟨gK,jf⟩:=HS.hole i0 i2))
   refine bodyPost_ret (results_none rfl _ _ _) rfl ?_
   replace HS:=HS.sP GS
   replace HS:=HS.me.me.sP GP
   exact ⟨rfl,HS.j9.me.me.j9.j9⟩
 ·rw [if_neg hb] at h
  obtain ⟨Oq,L9⟩:=not_or.1 hb
  obtain rfl:b=false:=by simpa using Oq
  have hl:((S.length:Int)==100)=false:=beq_eq_false_iff_ne.2 (fun e=>L9 (by omega))
  clear hb Oq L9
  replace h:=bS h;obtain ⟨S',T2,h⟩:=h
  replace h:=bS h;obtain ⟨P',T3,h⟩:=h
  obtain rfl:=Option.some.inj h
  clear h
  go_enter Tryz.func98,Tryz.ntmps98
  have cP:=an (HS.aI 4)
  obtain ⟨gK,jf⟩:=HS.hole i0 i2
  go_upto_region 1 with (first|(go_at_call 73;have cE:=cN.calls k _ _ S s _ _ (HS.mA 1).2.2 (HS.mA 1).2.1 T1.out;refine cE.mono ?_;clear cE;rintro e W_ ⟨rfl,iC,rfl⟩;replace HS:=HS.drewN iC;generalize World.drewN _ iC=W_ at HS⊢;clear cP gK jf;have cP:=an (HS.aI 4);obtain ⟨gK,jf⟩:=HS.hole i0 i2))
  clear cP gK jf
  have cP:=an (HS.aI 4)
  obtain ⟨gK,jf⟩:=HS.hole i0 i2
  obtain ⟨m7,pZ⟩:=HS.me.hole i0 i1
  refine dV (n:=32) (S:=fun w'=>w'.cell? ⟨b0,0,none⟩=some (.slice A0 ks.length c0)∧w'.cell? ⟨b0,1,none⟩=some (.slice (some ⟨g1,0,none⟩) ps.length q1)∧w'.cell? ⟨b0,2,none⟩=some (.slice (some ⟨g2,0,none⟩) ss.length q2)∧w'.cell? ⟨b0,3,none⟩=some (.slice A3 ib.length c3)∧w'.cell? ⟨b0,4,none⟩=some (.int .i64 sd)∧w'.cell? ⟨g2,i.toNat,none⟩=some (.slice AS S.length qS)∧w'.cell? ⟨g1,i.toNat,none⟩=some (.slice AP P.length qP)) (ds:=[29,31]) (bl 32 0) (by kernel_rfl) rfl rfl ⟨cP.1,cP.2.1,cP.2.2.1,cP.2.2.2.1,cP.2.2.2.2.1,gK,m7⟩ (fun ah=> ?_);refine bZ cv.FY cv.zK (fun aA ef=> ?_)
  clear cP gK jf m7 pZ
  replace HS:=HS.drew
  generalize World.drew _=tD at HS ah⊢
  refine ag 0 (some 26) 32 1 aA ?_
  refine ag 1 (some 27) 32 3 aA ?_
  refine ag 2 (some 28) 32 7 aA ?_
  refine cg 3 (some 29) 32 15 aA ef ah ?_ (hy:=by rintro w' ⟨s0,s1,s2,s3,s4,s5,s6⟩;go_simp;with_reducible rfl)
  refine ag 4 (some 30) 32 31 aA ?_
  refine ag 5 (some 31) 32 63 aA ?_
  refine ag 6 (some 32) 32 127 aA ?_
  refine ag 7 (some 33) 32 255 aA ?_
  refine cg 8 (some 34) 32 511 aA ef ah ?_ (hy:=by rintro w' ⟨s0,s1,s2,s3,s4,s5,s6⟩;go_simp;with_reducible rfl)
  refine ag 9 (some 35) 32 1023 aA ?_
  refine ag 10 (some 36) 32 2047 aA ?_
  refine ag 11 (some 37) 32 4095 aA ?_
  refine ag 12 (some 38) 32 8191 aA ?_
  refine cg 13 (some 39) 32 16383 aA ef ah ?_ (hy:=by rintro w' ⟨s0,s1,s2,s3,s4,s5,s6⟩;go_simp;with_reducible rfl)
  refine ag 14 (some 40) 32 32767 aA ?_
  refine ag 15 (some 41) 32 65535 aA ?_
  refine cg 16 (some 42) 32 131071 aA ef ah ?_ (hy:=by rintro w' ⟨s0,s1,s2,s3,s4,s5,s6⟩;go_simp;with_reducible rfl)
  refine ag 17 (some 43) 32 262143 aA ?_
  refine ag 19 (some 45) 32 786431 aA ?_
  refine ag 20 (some 46) 32 1835007 aA ?_
  refine ag 21 (some 47) 32 3932159 aA ?_
  refine cg 22 (some 48) 32 8126463 aA ef ah ?_ (hy:=by rintro w' ⟨s0,s1,s2,s3,s4,s5,s6⟩;go_simp;with_reducible rfl)
  refine ag 23 (some 49) 32 16515071 aA ?_
  refine ag 24 (some 50) 32 33292287 aA ?_
  refine cg 25 (some 51) 32 66846719 aA ef ah ?_ (hy:=by rintro w' ⟨s0,s1,s2,s3,s4,s5,s6⟩;go_simp;with_reducible rfl)
  refine ag 26 (some 52) 32 133955583 aA ?_
  refine fJ 18 (some 44) 32 134217727 aA (fun K hK=> ?_)
  refine fM Tryz.func119 (by kernel_rfl) rfl #[.slice AS S.length qS,.string s] (by rfl) rfl rfl (by (try simp only [List.map_toArray,List.map_cons,List.map_nil]);first|done|rfl) ?_
  have cE:=eM.calls k _ _ S s S' _ (HS.mA 1).2.2 (HS.mA 1).2.1 T2.out
  refine cE.mono ?_
  clear cE ah
  rintro e W_ ⟨u_,rfl,bD,aW⟩
  refine ⟨_,rfl,?_⟩
  replace HS:=HS.new (A:=rA Kd.string 9 u_ S') aW bD
  obtain ⟨AS1,qS1,rfl⟩:=HS.lz 0
  clear bD aW
  have cP:=an (HS.aI 5)
  obtain ⟨gK,jf⟩:=HS.mE.hole i0 i2
  obtain ⟨m7,pZ⟩:=HS.vm.hole i0 i1
  refine hK.out _ _ ⟨cP.1,cP.2.1,cP.2.2.1,cP.2.2.2.1,cP.2.2.2.2.1,gK,m7⟩ (fun ah=> ?_)
  clear hK K cP gK jf m7 pZ
  refine cM (a':= ?_) ?_ ?_
  rotate_left
  ·show Act.put _ (some 44) _=_
   simp only [Act.put,List.setIfInBounds_toArray,List.set_cons_zero,List.set_cons_succ,bW,cA]
   rfl
  refine fJ 27 (some 53) 32 268435455 aA (fun K hK=> ?_)
  refine fM Tryz.func119 (by kernel_rfl) rfl #[.slice AP P.length qP,.string s] (by rfl) rfl rfl (by (try simp only [List.map_toArray,List.map_cons,List.map_nil]);first|done|rfl) ?_
  have cE:=eM.calls k _ _ P s P' _ (HS.mA 4).2.2 (HS.mA 4).2.1 T3.out
  refine cE.mono ?_
  clear cE ah
  rintro e W_ ⟨u_,rfl,bD,aW⟩
  refine ⟨_,rfl,?_⟩
  replace HS:=HS.new (A:=rA Kd.string 9 u_ P') aW bD
  obtain ⟨AP1,qP1,rfl⟩:=HS.lz 0
  clear bD aW
  have cP:=an (HS.aI 6)
  obtain ⟨gK,jf⟩:=HS.me.hole i0 i2
  obtain ⟨m7,pZ⟩:=HS.j9.hole i0 i1
  refine hK.out _ _ ⟨cP.1,cP.2.1,cP.2.2.1,cP.2.2.2.1,cP.2.2.2.2.1,gK,m7⟩ (fun ah=> ?_)
  clear hK K cP gK jf m7 pZ
  refine cM (a':= ?_) ?_ ?_
  rotate_left
  ·show Act.put _ (some 53) _=_
   simp only [Act.put,List.setIfInBounds_toArray,List.set_cons_zero,List.set_cons_succ,bW,cA]
   rfl
  refine ag 28 (some 54) 32 536870911 aA ?_
  refine lH (i:=29) (N:=none) (bl 32 1073741823) rfl rfl (jd aA.out (by kernel_rfl)) (by decide) (fun K hK=> ?_)
  clear ah
  obtain ⟨gK,jf⟩:=HS.me.hole i0 i2
  refine jV (w1:= ?_) (by rfl) rfl ?_ ?_
  rotate_left
  ·go_simp
   rfl
  clear gK jf
  replace HS:=HS.me.C2 i0 i2 (.slice AS1 S'.length qS1) rfl
  refine hK.out _ _ ?_
  clear hK K
  obtain ⟨rC,gU,gX⟩:=HS.gen
  rw [gU]
  clear HS gU
  have HS:=gX
  clear gX
  refine ag 30 (some 55) 32 2147483647 aA ?_
  refine lH (i:=31) (N:=none) (bl 32 4294967295) rfl rfl (jd aA.out (by kernel_rfl)) (by decide) (fun K hK=> ?_)
  obtain ⟨m7,pZ⟩:=HS.j9.hole i0 i1
  refine jV (w1:= ?_) (by rfl) rfl ?_ ?_
  rotate_left
  ·go_simp
   rfl
  clear m7 pZ
  replace HS:=HS.j9.C2 i0 i1 (.slice AP1 P'.length qP1) rfl
  refine hK.out _ _ ?_
  clear hK K
  refine eZ (cV aA.out (by kernel_rfl)) ?_
  clear aA ef
  obtain ⟨rC,gU,gX⟩:=HS.gen
  rw [gU]
  clear HS gU
  have HS:=gX
  clear gX
  replace HS:=HS.me.mE.back
  replace HS:=HS.me.me.back
  go_wp2
  refine bodyPost_end (results_none rfl _ _ _) rfl ?_
  replace HS:=HS.me.tail
  replace HS:=HS.me.tail
  exact ⟨rfl,HS.j9.mE.me.j9.j9⟩
def mD.f (a0:Int):Option (Bool):=(bk.f a0 0 65535).bind fun t242=>(some t242)
theorem mD.calls (a0:Int) (r:Bool) (w:World) (h:mD.f a0=some r):
  Calls Tryz.prog 122 #[.int .i64 a0] w fun e w'=>e= .returned (.bool r)∧cQ w w':=by
 have H:((bk.f a0 0 65535).bind fun t242=>(some t242))=some r:=h
 clear h;replace H:=bS H;obtain ⟨t242,A2,H⟩:=H
 obtain rfl:=Option.some.inj H
 go_enter Tryz.func122,Tryz.ntmps122
 go_wp2_with (first|(go_at_call 70;(with_reducible refine (bk.calls a0 0 65535 t242 _ A2.out).mono ?_);rintro e w' ⟨rfl,⟨nd,rfl⟩⟩))
 go_ret
 exact ⟨er,gV⟩
def kG.f (k:Nat) (a0 a1:ByteArray):Option ByteArray:=if a0.size≤a1.size then (if a0.size≤1048576 then some (qD a0 a1) else none) else none
theorem kG.calls (k:Nat) (a0 a1:ByteArray) (r:ByteArray) (w:World) (h:kG.f k a0 a1=some r):
 Calls Tryz.prog 123 #[.string a0,.string a1] w fun e w'=>e= .returned (.string r)∧Below w.heap.size w w':=by
 unfold kG.f at h
 replace h:=dy h;obtain ⟨hl,h⟩:=h
 replace h:=dy h;obtain ⟨hm,h⟩:=h
 obtain rfl:=Option.some.inj h
 clear h
 have HL:=ak hl;have HM:=ak hm;clear hl hm
 have HCV:=ak (fun W=>wj (P:=Tryz.prog) 9 56 5 Tryz.underlying9 Tryz.underlying56 Tryz.underlying5 a0 W)
 go_enter Tryz.func123,Tryz.ntmps123
 have SK:=ak (mu.start a0 a1 w 5)
 have SY:=ak (wQ (Below.refl w.heap.size w) (Nat.le_refl _) 5 a0)
 have Qb:=HCV.out w
 clear HCV
 generalize hg:w.heap.size=g at SK SY Qb
 generalize hW:Lib.bytesWorld w 5 a0=W1 at SK SY Qb
 generalize Xk:grownCap w a0.size 0 5=cp at Qb
 clear hW Xk
 go_wp2_with (simp only [Qb,Result.andThen])
 clear Qb
 go_loopg [11] a0.size (fun kq v11 w'=>∃(i:Int),v11= .int .i64 i∧0≤i∧i≤a0.size∧(a0.size-i.toNat:Nat)≤kq∧Aside0 (mu a0 a1 g i w')∧Aside0 (Below g w w'))
 case atStart=>exact ⟨0,rfl,Int.le_refl _,by omega,by omega,SK,SY⟩
 case round=>
 clear SK SY
 obtain ⟨i,rfl,xj,C3,hk,HX,HB⟩:=hrel
 by_cases fl:i<(a0.size:Int)
 ·have c1:decide (i<(a0.size:Int))=true:=decide_eq_true fl
  have p4:0≤i:=xj
  have q4:i<(a1.size:Int):=by have:=HL.out;omega
  have hx4:=jJ a1 i
  obtain ⟨hz,hf⟩:=HX.out.cell xj fl
  have HX2:=ak ((show mu a0 a1 g i wr.drew from HX.out).put xj fl HM.out)
  have YS:=ak (Below.setCell (iI HB.out) (show g≤(Addr.mk g i.toNat none).block from Nat.le_refl _) (.int .u8 (Go.bits .xor .u8 (bt a0 i) (bt a1 i))))
  replace p4:=eq_true p4;replace q4:=eq_true q4;go_wp2
  go_region
  go_wp2
  go_roundg (a0.size-(i+1).toNat)
  case measure=>have:=HM.out;omega
  case rel=>exact ⟨wrap64 (i+1),er,by rw [IntWalk.wrap64_in _ (by have:=HM.out;omega)];omega,by rw [IntWalk.wrap64_in _ (by have:=HM.out;omega)];omega,by rw [IntWalk.wrap64_in _ (by have:=HM.out;omega)];exact Nat.le_refl _,HX2,YS⟩
 ·have c1:decide (i<(a0.size:Int))=false:=decide_eq_false fl
  have tF:=qj (P:=Tryz.prog) (c:=cp) Tryz.underlying56 Tryz.underlying5 Tryz.underlying9 (HX.out.done fl (by have:=HM.out;omega))
  go_wp2
  go_ret
  subst hg
  exact ⟨er,HB.out⟩
def strings_Repeat.f (k:Nat) (a0:ByteArray) (a1:Int):Option ByteArray:=if 0≤a1 then (if a0.size*a1.toNat≤140737488355328 then (if a1≤9223372036854775807 then some ⟨(Lib.repeatL a0.data.toList a1.toNat).toArray⟩ else none) else none) else none
theorem strings_Repeat.calls (k:Nat) (a0:ByteArray) (a1:Int) (r:ByteArray) (w:World) (h:strings_Repeat.f k a0 a1=some r):
  Calls Tryz.prog 132 #[.string a0,.int .i64 a1] w fun e w'=>e= .returned (.string r)∧Below w.heap.size w w':=by
 unfold strings_Repeat.f at h
 replace h:=dy h;obtain ⟨h0,h⟩:=h
 replace h:=dy h;obtain ⟨h1,h⟩:=h
 replace h:=dy h;obtain ⟨h2,h⟩:=h
 obtain rfl:=Option.some.inj h
 obtain ⟨c,rfl⟩:=Int.eq_ofNat_of_zero_le h0
 exact Any.strings_Repeat MN aaI a0 c w (by omega) (by simpa using h1)
def nK.f (a0:Int) (a1:Int):Option (Int):=some (Int.tmod (Int.tmod (wrap64 ((wrap64 ((wrap64 ((Int.tmod (wrap64 (a1+(Int.tmod a0 256))) 256)*(Int.tmod (wrap64 (a1+(Int.tmod a0 256))) 256)))+(wrap64 ((Int.tmod (wrap64 (a1+(Int.tmod a0 256))) 256)*(wrap64 (Int.tdiv a0 256))))))+29)) 65521) 256)
theorem nK.calls (a0:Int) (a1:Int) (r:Int) (w:World) (h:nK.f a0 a1=some r):
  Calls Tryz.prog 168 #[.int .i64 a0,.int .i64 a1] w fun e w'=>e= .returned (.int .i64 r)∧cQ w w':=by
 have H:(some (Int.tmod (Int.tmod (wrap64 ((wrap64 ((wrap64 ((Int.tmod (wrap64 (a1+(Int.tmod a0 256))) 256)*(Int.tmod (wrap64 (a1+(Int.tmod a0 256))) 256)))+(wrap64 ((Int.tmod (wrap64 (a1+(Int.tmod a0 256))) 256)*(wrap64 (Int.tdiv a0 256))))))+29)) 65521) 256))=some r:=h
 clear h
 obtain rfl:=Option.some.inj H
 go_enter Tryz.func168,Tryz.ntmps168
 go_wp2
 go_ret
 exact ⟨er,gV⟩
def gm.l0:Nat→Int→Int→List Int→Int→Int→Option (Int)
  |0,_,_,_,_,_=>none
  |k+1,x5,x6,iz,kD,kV=>if kV<kD then (if 0≤kV then (if kV<(iz.length:Int) then ((nK.f (rd iz kV) x6).bind fun t244=>(gm.l0 k x6 (Go.bits .xor .i64 x5 t244) iz kD (wrap64 (kV+1)))) else (none)) else (none)) else (some (wrap64 ((wrap64 (x5*256))+x6)))
def gm.f (k:Nat) (l0:List Int) (a1:Int):Option (Int):=gm.l0 k (wrap64 (Int.tdiv a1 256)) (Int.tmod a1 256) l0 (l0.length:Int) 0
theorem gm.calls (k:Nat) (A0:Option Addr) (c0:Nat) (l0:List Int) (a1:Int) (r:Int) (w:World) (ff:Kd.C (Kd.int .i64) w A0 l0.length l0) (fL:l0.length≤c0) (h:gm.f k l0 a1=some r):
  Calls Tryz.prog 156 #[.slice A0 l0.length c0,.int .i64 a1] w fun e w'=>e= .returned (.int .i64 r)∧cQ w w':=by
 have fZ:=ak ff;have ki:=ak fL;clear ff fL
 have H:(gm.l0 k (wrap64 (Int.tdiv a1 256)) (Int.tmod a1 256) l0 (l0.length:Int) 0)=some r:=h
 clear h
 have H':=ak H
 clear H
 go_enter Tryz.func156,Tryz.ntmps156
 go_wp2
 go_loopg [5,6,15] k (fun kq v5 v6 v15 w'=>∃(dM:Int) (yj:Int) (nc:Int),v5= .int .i64 dM∧v6= .int .i64 yj∧v15= .int .i64 nc∧Aside0 (gm.l0 kq dM yj l0 (l0.length:Int) nc=some r)∧Aside0 (kq≤k)∧cQ w w')
 case atStart=>exact ⟨(wrap64 (Int.tdiv a1 256)),(Int.tmod a1 256),(0),er,er,er,H',⟨Nat.le_refl _⟩,gV⟩
 case round=>
  clear H'
  obtain ⟨dM,yj,nc,rfl,rfl,rfl,HA,gf,⟨m1,rfl⟩⟩:=hrel
  cases gk with
  |zero=>exact absurd HA.out (by simp [gm.l0])
  |succ k1=>
   have H:=HA.out;clear HA
   simp only [gm.l0] at H
   by_cases c3:nc<(l0.length:Int)
   ·rw [if_pos c3] at H
    have jX:=decide_eq_true c3
    clear c3;replace H:=dy H;obtain ⟨c4,H⟩:=H;have jn:=decide_eq_true c4;clear c4;replace H:=dy H;obtain ⟨c5,H⟩:=H;have mh:=decide_eq_true c5;clear c5;replace H:=bS H;obtain ⟨t244,A6,H⟩:=H
    have H':=ak H
    clear H
    obtain ⟨ajS,ajG,aiM,ahf,aeq⟩:=ng (Kd.jS fZ.out nc)
    cases ahf
    go_wp2_with (first|(go_at_call 168;(with_reducible refine (nK.calls (rd l0 nc) yj t244 _ A6.out).mono ?_);rintro e w' ⟨rfl,⟨nd,rfl⟩⟩))
    go_roundg k1
    case measure=>have:=gf.out;omega
    case rel=>exact ⟨(yj),(Go.bits .xor .i64 dM t244),(wrap64 (nc+1)),er,er,er,H',⟨by have:=gf.out;omega⟩,gV⟩
   ·rw [if_neg c3] at H
    have jX:=decide_eq_false c3
    clear c3
    obtain rfl:=Option.some.inj H
    go_wp2
    go_ret
    exact ⟨er,gV⟩
def dK.l0:Nat→List Int→Int→ByteArray→List Int→Int→Option (ByteArray)
  |0,_,_,_,_,_=>none
  |k+1,x0,x1,x2,x7,x8=>if x8<(x2.size:Int) then (if 0≤x8 then (if 0≤(wrap64 (x8+1)) then (if (wrap64 (x8+1))<(x2.size:Int) then ((gm.f k x0 (Go.bits .xor .i64 (Go.bits .or .i64 (wrap64 ((wrap64 (bt x2 x8))*256)) (wrap64 (bt x2 (wrap64 (x8+1))))) x1)).bind fun t248=>((some (([(t248/256)%256,(t248)%256]:List Int):List Int)).bind fun sW=>(if x7.length+sW.length<140737488355328 then (dK.l0 k x0 t248 x2 (x7++sW) (wrap64 (x8+2))) else (none)))) else (none)) else (none)) else (none)) else (some (strOfNums x7))
def dK.f (k:Nat) (l0:List Int) (a1:Int) (a2:ByteArray):Option (ByteArray):=dK.l0 k l0 a1 a2 (([]:List Int)) 0
theorem dK.calls (k:Nat) (A0:Option Addr) (c0:Nat) (l0:List Int) (a1:Int) (a2:ByteArray) (r:ByteArray) (w:World) (ff:Kd.C (Kd.int .i64) w A0 l0.length l0) (fL:l0.length≤c0) (h:dK.f k l0 a1 a2=some r):
  Calls Tryz.prog 139 #[.slice A0 l0.length c0,.int .i64 a1,.string a2] w fun e w'=>e= .returned (.string r)∧Below w.heap.size w w':=by
 have fZ:=ak ff;have ki:=ak fL;clear ff fL
 have HB:=ak (Below.refl w.heap.size w)
 have H:(dK.l0 k l0 a1 a2 (([]:List Int)) 0)=some r:=h
 clear h
 obtain ⟨Z1,ez⟩:∃y_:List Int,y_=(([]:List Int)):=⟨_,rfl⟩
 replace H:(dK.l0 k l0 a1 a2 Z1 0)=some r:=yH
 have BT:=ak ez;clear ez
 have H':=ak H
 clear H
 go_enter Tryz.func139,Tryz.ntmps139
 go_wp2_with (first|((with_reducible refine av (N:=9) rfl ?_);refine Kd.gD (Kd.int .u8) _ 5 ?hg (N:=9) ?hd (xs:=([]:List Int)) (inner:=[]) (ok:=fun _=>True) (okp:=fun _=>True) ?hr ?hp (fun _ hk=>hk) trivial (Below.refl _ _) (Nat.le_refl _) (by simp) ?_;(case hd=>rfl);(case hg=>rfl);(case hr=>exact rZ);(case hp=>exact (bT.none _ _));intro aah w4 EP hb bK dP;clear bK dP;(first|rw [←BT.out] at EP|(simp only [Int.reduceToNat] at EP;rw [←BT.out] at EP));have P3:=ak (Kd.dz EP (aX (aq HB)));replace HB:=ak (aH (aq HB) hb);clear hb EP))
 repeat (go_quiet (first|((with_reducible refine av (N:=9) rfl ?_);refine Kd.gD (Kd.int .u8) _ 5 ?hg (N:=9) ?hd (xs:=([]:List Int)) (inner:=[]) (ok:=fun _=>True) (okp:=fun _=>True) ?hr ?hp (fun _ hk=>hk) trivial (Below.refl _ _) (Nat.le_refl _) (by simp) ?_;(case hd=>rfl);(case hg=>rfl);(case hr=>exact rZ);(case hp=>exact (bT.none _ _));intro aah w4 EP hb bK dP;clear bK dP;(first|rw [←BT.out] at EP|(simp only [Int.reduceToNat] at EP;rw [←BT.out] at EP));have P3:=ak (Kd.dz EP (aX (aq HB)));replace HB:=ak (aH (aq HB) hb);clear hb EP));try go_wp2_with (first|((with_reducible refine av (N:=9) rfl ?_);refine Kd.gD (Kd.int .u8) _ 5 ?hg (N:=9) ?hd (xs:=([]:List Int)) (inner:=[]) (ok:=fun _=>True) (okp:=fun _=>True) ?hr ?hp (fun _ hk=>hk) trivial (Below.refl _ _) (Nat.le_refl _) (by simp) ?_;(case hd=>rfl);(case hg=>rfl);(case hr=>exact rZ);(case hp=>exact (bT.none _ _));intro aah w4 EP hb bK dP;clear bK dP;(first|rw [←BT.out] at EP|(simp only [Int.reduceToNat] at EP;rw [←BT.out] at EP));have P3:=ak (Kd.dz EP (aX (aq HB)));replace HB:=ak (aH (aq HB) hb);clear hb EP)))
 go_loopg [1,7,8] k (fun kq v1 v7 v8 w'=>∃(sY:Int) (dD:List Int) (cX:Int),v1= .int .i64 sY∧v8= .int .i64 cX∧Aside0 (dK.l0 kq l0 sY a2 dD cX=some r)∧Aside0 (kq≤k)∧Aside0 (Kd.R (Kd.int .u8) 5 w' w.heap.size (fun _=>True) v7 dD)∧Aside0 (Below w.heap.size w w'))
 case atStart=>exact ⟨(a1),(Z1),(0),er,er,H',⟨Nat.le_refl _⟩,⟨dH P3⟩,⟨aq HB⟩⟩
 case round=>
  clear H'
  obtain ⟨sY,dD,cX,rfl,rfl,HA,gf,sv,HB⟩:=hrel
  cases gk with
  |zero=>exact absurd HA.out (by simp [dK.l0])
  |succ k1=>
   have H:=HA.out;clear HA
   simp only [dK.l0] at H
   by_cases c6:cX<(a2.size:Int)
   ·rw [if_pos c6] at H
    have kO:=decide_eq_true c6
    clear c6;replace H:=dy H;obtain ⟨c7,H⟩:=H;have tw:=decide_eq_true c7;clear c7
    obtain ⟨mc,uw⟩:∃j_:Int,(wrap64 (cX+1))=j_:=⟨_,rfl⟩
    replace H:(if 0≤(mc) then (if (mc)<(a2.size:Int) then ((gm.f k1 l0 (Go.bits .xor .i64 (Go.bits .or .i64 (wrap64 ((wrap64 (bt a2 cX))*256)) (wrap64 (bt a2 (mc)))) sY)).bind fun t248=>((some (([(t248/256)%256,(t248)%256]:List Int):List Int)).bind fun sW=>(if dD.length+sW.length<140737488355328 then (dK.l0 k1 l0 t248 a2 (dD++sW) (wrap64 (cX+2))) else (none)))) else (none)) else (none))=some r:=by first|(rw [uw] at H;exact H)|(simp only [uw] at H⊢;exact H)
    have TG:(IntKind.i64.wrap (cX+1))=mc:=(bW _).trans uw
    replace H:=dy H;obtain ⟨gW,H⟩:=H;have kY:=decide_eq_true gW;clear gW;replace H:=dy H;obtain ⟨mY,H⟩:=H;have nM:=decide_eq_true mY;clear mY;replace H:=bS H;obtain ⟨t248,sn,H⟩:=H
    obtain ⟨sW,ez⟩:∃y_:List Int,y_=(([(t248/256)%256,(t248)%256]:List Int)):=⟨_,rfl⟩
    replace H:(if dD.length+sW.length<140737488355328 then (dK.l0 k1 l0 t248 a2 (dD++sW) (wrap64 (cX+2))) else (none))=some r:=yH
    have BS:=ak ez;clear ez;replace H:=dy H;obtain ⟨oI,H⟩:=H;have zU:=ak oI;clear oI
    obtain ⟨Z0,ez⟩:∃y_:List Int,y_=(dD++sW):=⟨_,rfl⟩
    replace H:(dK.l0 k1 l0 t248 a2 Z0 (wrap64 (cX+2)))=some r:=yH
    have PB:=ak ez;clear ez
    have H':=ak H
    clear H
    have p8:0≤(cX:Int):=da
    have q8:cX<(a2.size:Int):=da
    have hx8:=jJ a2 cX
    replace p8:=eq_true p8;replace q8:=eq_true q8
    have p12:0≤((mc):Int):=da
    have q12:(mc)<(a2.size:Int):=da
    have af4:=jJ a2 (mc)
    replace p12:=eq_true p12;replace q12:=eq_true q12
    go_wp2_with (first|(go_at_call 156;(with_reducible refine (gm.calls k1 _ _ l0 (Go.bits .xor .i64 (Go.bits .or .i64 (wrap64 ((wrap64 (bt a2 cX))*256)) (wrap64 (bt a2 (mc)))) sY) t248 _ ?side1 ?side2 sn.out).mono ?_);(case side1=>exact cd (Kd.aD fZ.out HB.out));(case side2=>exact ki.out);rintro e w' ⟨rfl,⟨nd,rfl⟩⟩;(try first|exact ⟨rfl,_,World.drewN_drewN _ _ _⟩|exact ⟨rfl,_,Eq.trans (World.drewN_drewN _ _ _) (congrArg (World.drewN _) (Nat.add_assoc _ _ _))⟩))|((with_reducible refine av (N:=37) rfl ?_);refine Kd.gD (Kd.int .u8) _ 5 ?hg (N:=37) ?hd (xs:=([(t248/256)%256,(t248)%256]:List Int)) (inner:=[.int .u8 ((t248/256)%256),.int .u8 ((t248)%256)]) (ok:=fun _=>True) (okp:=fun _=>True) ?hr ?hp (fun _ hk=>hk) trivial (Below.refl _ _) (Nat.le_refl _) (by simp) ?_;(case hd=>rfl);(case hg=>rfl);(case hr=>exact rZ);(case hp=>exact (bT.one (show Kd.M (Kd.int .u8) _ _ _ ((t248/256)%256) [.int .u8 ((t248/256)%256)] from rfl) (bT.one (show Kd.M (Kd.int .u8) _ _ _ ((t248)%256) [.int .u8 ((t248)%256)] from rfl) (bT.none _ _))));intro aag Ti ju hb bK dP;clear bK dP;(first|rw [←BS.out] at ju|(simp only [Int.reduceToNat] at ju;rw [←BS.out] at ju));have mV:=ak (Kd.dz (Kd.l9 ju (Kd.ji (dH sv))) (aX (aq HB)));replace sv:=ak (Kd.iX (dH sv) (Kd.j3 ju) hb);replace HB:=ak (aH (aq HB) hb);clear hb ju;obtain ⟨xA,xq,uH⟩:=Kd.de mV.out;subst uH)|((with_reducible refine bw (b:= .append) (xs:= #[.tmp 31,.tmp 37]) rfl ?_);at_builtin;refine Kd.cH (Kd.int .u8) (w0:=w) w.heap.size rfl (.tmp 31) (.tmp 37) 56 5 (.int .u8 0) 1 rfl Tryz.underlying56 sG rfl (by decide) (by omega) u7 dD sW _ _ _ (fun k_=>some k_≠(.slice xA sW.length xq:Value).ownBlock) (fun _=>False) rfl rfl ?aO ?aR (fun _ _ h=>h) (fun _ h=>h.elim) ?aF ?aB ?aS ?aL ?_;(case aR=>exact cd (Kd.aJ mV.out).2.2);(case aB=>exact (aq HB));(case aF=>exact (fun k_ hk=>Kd.gI (Kd.ji (dH mV)) k_ hk));(case aO=>exact (by (with_reducible repeat (first|apply Kd.cz|apply Kd.cy|apply Kd.cD));exact Kd.bJ sv.out (fun _ hk=>hk.2)));(case aS=>exact (aX (aq HB)));(case aL=>have:=zU.out;omega);intro aaf L6 ho hb hg eC;rw [←PB.out] at ho;replace mV:=ak (Kd.cF (ok:=(fun _=>True)) (dH mV) hg eC);replace HB:=ak (hb);have P2:=ak (ho);clear sv;clear ho hb hg eC))
    repeat (go_quiet (first|(go_at_call 156;(with_reducible refine (gm.calls k1 _ _ l0 (Go.bits .xor .i64 (Go.bits .or .i64 (wrap64 ((wrap64 (bt a2 cX))*256)) (wrap64 (bt a2 (mc)))) sY) t248 _ ?side1 ?side2 sn.out).mono ?_);(case side1=>exact cd (Kd.aD fZ.out HB.out));(case side2=>exact ki.out);rintro e w' ⟨rfl,⟨nd,rfl⟩⟩;(try first|exact ⟨rfl,_,World.drewN_drewN _ _ _⟩|exact ⟨rfl,_,Eq.trans (World.drewN_drewN _ _ _) (congrArg (World.drewN _) (Nat.add_assoc _ _ _))⟩))|((with_reducible refine av (N:=37) rfl ?_);refine Kd.gD (Kd.int .u8) _ 5 ?hg (N:=37) ?hd (xs:=([(t248/256)%256,(t248)%256]:List Int)) (inner:=[.int .u8 ((t248/256)%256),.int .u8 ((t248)%256)]) (ok:=fun _=>True) (okp:=fun _=>True) ?hr ?hp (fun _ hk=>hk) trivial (Below.refl _ _) (Nat.le_refl _) (by simp) ?_;(case hd=>rfl);(case hg=>rfl);(case hr=>exact rZ);(case hp=>exact (bT.one (show Kd.M (Kd.int .u8) _ _ _ ((t248/256)%256) [.int .u8 ((t248/256)%256)] from rfl) (bT.one (show Kd.M (Kd.int .u8) _ _ _ ((t248)%256) [.int .u8 ((t248)%256)] from rfl) (bT.none _ _))));intro aag Ti ju hb bK dP;clear bK dP;(first|rw [←BS.out] at ju|(simp only [Int.reduceToNat] at ju;rw [←BS.out] at ju));have mV:=ak (Kd.dz (Kd.l9 ju (Kd.ji (dH sv))) (aX (aq HB)));replace sv:=ak (Kd.iX (dH sv) (Kd.j3 ju) hb);replace HB:=ak (aH (aq HB) hb);clear hb ju;obtain ⟨xA,xq,uH⟩:=Kd.de mV.out;subst uH)|((with_reducible refine bw (b:= .append) (xs:= #[.tmp 31,.tmp 37]) rfl ?_);at_builtin;refine Kd.cH (Kd.int .u8) (w0:=w) w.heap.size rfl (.tmp 31) (.tmp 37) 56 5 (.int .u8 0) 1 rfl Tryz.underlying56 sG rfl (by decide) (by omega) u7 dD sW _ _ _ (fun k_=>some k_≠(.slice xA sW.length xq:Value).ownBlock) (fun _=>False) rfl rfl ?aO ?aR (fun _ _ h=>h) (fun _ h=>h.elim) ?aF ?aB ?aS ?aL ?_;(case aR=>exact cd (Kd.aJ mV.out).2.2);(case aB=>exact (aq HB));(case aF=>exact (fun k_ hk=>Kd.gI (Kd.ji (dH mV)) k_ hk));(case aO=>exact (by (with_reducible repeat (first|apply Kd.cz|apply Kd.cy|apply Kd.cD));exact Kd.bJ sv.out (fun _ hk=>hk.2)));(case aS=>exact (aX (aq HB)));(case aL=>have:=zU.out;omega);intro aaf L6 ho hb hg eC;rw [←PB.out] at ho;replace mV:=ak (Kd.cF (ok:=(fun _=>True)) (dH mV) hg eC);replace HB:=ak (hb);have P2:=ak (ho);clear sv;clear ho hb hg eC));try go_wp2_with (first|(go_at_call 156;(with_reducible refine (gm.calls k1 _ _ l0 (Go.bits .xor .i64 (Go.bits .or .i64 (wrap64 ((wrap64 (bt a2 cX))*256)) (wrap64 (bt a2 (mc)))) sY) t248 _ ?side1 ?side2 sn.out).mono ?_);(case side1=>exact cd (Kd.aD fZ.out HB.out));(case side2=>exact ki.out);rintro e w' ⟨rfl,⟨nd,rfl⟩⟩;(try first|exact ⟨rfl,_,World.drewN_drewN _ _ _⟩|exact ⟨rfl,_,Eq.trans (World.drewN_drewN _ _ _) (congrArg (World.drewN _) (Nat.add_assoc _ _ _))⟩))|((with_reducible refine av (N:=37) rfl ?_);refine Kd.gD (Kd.int .u8) _ 5 ?hg (N:=37) ?hd (xs:=([(t248/256)%256,(t248)%256]:List Int)) (inner:=[.int .u8 ((t248/256)%256),.int .u8 ((t248)%256)]) (ok:=fun _=>True) (okp:=fun _=>True) ?hr ?hp (fun _ hk=>hk) trivial (Below.refl _ _) (Nat.le_refl _) (by simp) ?_;(case hd=>rfl);(case hg=>rfl);(case hr=>exact rZ);(case hp=>exact (bT.one (show Kd.M (Kd.int .u8) _ _ _ ((t248/256)%256) [.int .u8 ((t248/256)%256)] from rfl) (bT.one (show Kd.M (Kd.int .u8) _ _ _ ((t248)%256) [.int .u8 ((t248)%256)] from rfl) (bT.none _ _))));intro aag Ti ju hb bK dP;clear bK dP;(first|rw [←BS.out] at ju|(simp only [Int.reduceToNat] at ju;rw [←BS.out] at ju));have mV:=ak (Kd.dz (Kd.l9 ju (Kd.ji (dH sv))) (aX (aq HB)));replace sv:=ak (Kd.iX (dH sv) (Kd.j3 ju) hb);replace HB:=ak (aH (aq HB) hb);clear hb ju;obtain ⟨xA,xq,uH⟩:=Kd.de mV.out;subst uH)|((with_reducible refine bw (b:= .append) (xs:= #[.tmp 31,.tmp 37]) rfl ?_);at_builtin;refine Kd.cH (Kd.int .u8) (w0:=w) w.heap.size rfl (.tmp 31) (.tmp 37) 56 5 (.int .u8 0) 1 rfl Tryz.underlying56 sG rfl (by decide) (by omega) u7 dD sW _ _ _ (fun k_=>some k_≠(.slice xA sW.length xq:Value).ownBlock) (fun _=>False) rfl rfl ?aO ?aR (fun _ _ h=>h) (fun _ h=>h.elim) ?aF ?aB ?aS ?aL ?_;(case aR=>exact cd (Kd.aJ mV.out).2.2);(case aB=>exact (aq HB));(case aF=>exact (fun k_ hk=>Kd.gI (Kd.ji (dH mV)) k_ hk));(case aO=>exact (by (with_reducible repeat (first|apply Kd.cz|apply Kd.cy|apply Kd.cD));exact Kd.bJ sv.out (fun _ hk=>hk.2)));(case aS=>exact (aX (aq HB)));(case aL=>have:=zU.out;omega);intro aaf L6 ho hb hg eC;rw [←PB.out] at ho;replace mV:=ak (Kd.cF (ok:=(fun _=>True)) (dH mV) hg eC);replace HB:=ak (hb);have P2:=ak (ho);clear sv;clear ho hb hg eC)))
    go_roundg k1
    case measure=>have:=gf.out;omega
    case rel=>exact ⟨(t248),(Z0),(wrap64 (cX+2)),er,er,H',⟨by have:=gf.out;omega⟩,⟨by (with_reducible repeat (first|apply Kd.cz|apply Kd.cy|apply Kd.cD));exact Kd.bJ P2.out (fun _ hk=>trivial)⟩,⟨aq HB⟩⟩
   ·rw [if_neg c6] at H
    have kO:=decide_eq_false c6
    clear c6
    obtain rfl:=Option.some.inj H
    have aa8:=jc (P:=Tryz.prog) Tryz.underlying56 Tryz.underlying5 Tryz.underlying9 (Kd.iV sv.out)
    go_wp2
    repeat (go_quiet (fail);try go_wp2)
    go_ret
    exact ⟨kK,aq HB⟩
def lf.f (k:Nat) (a0:Int) (a1:Int):Option (ByteArray):=(strings_Repeat.f k (⟨#[0]⟩:ByteArray) a1).bind fun El=>((dK.f k (([a0,a0,a0]:List Int)) a0 El).bind fun F7=>(some F7))
theorem lf.calls (k:Nat) (a0:Int) (a1:Int) (r:ByteArray) (w:World) (h:lf.f k a0 a1=some r):
  Calls Tryz.prog 124 #[.int .i64 a0,.int .i64 a1] w fun e w'=>e= .returned (.string r)∧Below w.heap.size w w':=by
 have HB:=ak (Below.refl w.heap.size w)
 have H:((strings_Repeat.f k (⟨#[0]⟩:ByteArray) a1).bind fun El=>((dK.f k (([a0,a0,a0]:List Int)) a0 El).bind fun F7=>(some F7)))=some r:=h
 clear h
 obtain ⟨ZZ,ez⟩:∃y_:List Int,y_=(([a0,a0,a0]:List Int)):=⟨_,rfl⟩
 replace H:((strings_Repeat.f k (⟨#[0]⟩:ByteArray) a1).bind fun El=>((dK.f k ZZ a0 El).bind fun F7=>(some F7)))=some r:=yH
 have UB:=ak ez;clear ez;replace H:=bS H;obtain ⟨El,A3,H⟩:=H
 replace H:=bS H;obtain ⟨F7,A4,H⟩:=H
 obtain rfl:=Option.some.inj H
 go_enter Tryz.func124,Tryz.ntmps124
 go_wp2_with (first|((with_reducible refine av (N:=8) rfl ?_);refine Kd.gD (Kd.int .i64) _ 3 ?hg (N:=8) ?hd (xs:=([a0,a0,a0]:List Int)) (inner:=[.int .i64 a0,.int .i64 a0,.int .i64 a0]) (ok:=fun _=>True) (okp:=fun _=>True) ?hr ?hp (fun _ hk=>hk) trivial (Below.refl _ _) (Nat.le_refl _) (by simp) ?_;(case hd=>rfl);(case hg=>rfl);(case hr=>exact rZ);(case hp=>exact (bT.one (show Kd.M (Kd.int .i64) _ _ _ a0 [.int .i64 a0] from rfl) (bT.one (show Kd.M (Kd.int .i64) _ _ _ a0 [.int .i64 a0] from rfl) (bT.one (show Kd.M (Kd.int .i64) _ _ _ a0 [.int .i64 a0] from rfl) (bT.none _ _)))));intro ajo w5 ho6 hb bK dP;clear bK dP;(first|rw [←UB.out] at ho6|(simp only [Int.reduceToNat] at ho6;rw [←UB.out] at ho6));have zX:=ak (Kd.dz ho6 (aX (aq HB)));replace HB:=ak (aH (aq HB) hb);clear hb ho6)|(go_at_call 132;(with_reducible refine (strings_Repeat.calls k (⟨#[0]⟩:ByteArray) a1 El _ A3.out).mono ?_);rintro e w7 ⟨rfl,hb⟩;replace zX:=ak (Kd.fF (dH zX) hb);replace HB:=ak (aH (aq HB) hb);(try clear hb);obtain ⟨Ao8,co8,eo8⟩:=Kd.de zX.out;subst eo8)|(go_at_call 139;(with_reducible refine (dK.calls k _ _ ZZ a0 El F7 _ ?side1 ?side2 A4.out).mono ?_);(case side1=>exact cd (Kd.aJ zX.out).2.2);(case side2=>exact (Kd.aJ zX.out).2.1);rintro e w9 ⟨rfl,hb⟩;replace zX:=ak (Kd.fF (dH zX) hb);replace HB:=ak (aH (aq HB) hb);(try clear hb)))
 go_ret
 exact ⟨kK,aq HB⟩
def kH.f (a0:Int):Option (Bool):=(bk.f a0 1 250).bind fun ML=>(some ML)
theorem kH.calls (a0:Int) (r:Bool) (w:World) (h:kH.f a0=some r):
  Calls Tryz.prog 125 #[.int .i64 a0] w fun e w'=>e= .returned (.bool r)∧cQ w w':=by
 have H:((bk.f a0 1 250).bind fun ML=>(some ML))=some r:=h
 clear h;replace H:=bS H;obtain ⟨ML,A2,H⟩:=H
 obtain rfl:=Option.some.inj H
 go_enter Tryz.func125,Tryz.ntmps125
 go_wp2_with (first|(go_at_call 70;(with_reducible refine (bk.calls a0 1 250 ML _ A2.out).mono ?_);rintro e w' ⟨rfl,⟨nd,rfl⟩⟩))
 go_ret
 exact ⟨er,gV⟩
def fo.l0:Nat→ByteArray→Int→Int→Int→Option (Int)
  |0,_,_,_,_=>none
  |k+1,x0,x3,x6,x7=>if x7<x6 then (if 0≤x7 then (if x7<(x0.size:Int) then (fo.l0 k x0 (wrap64 (x3+(wrap64 ((wrap64 (bt x0 x7))*(wrap64 (x7+1)))))) x6 (wrap64 (x7+1))) else (none)) else (none)) else (some (Int.tmod x3 251))
def fo.f (k:Nat) (a0:ByteArray):Option (Int):=fo.l0 k a0 0 (a0.size:Int) 0
theorem fo.calls (k:Nat) (a0:ByteArray) (r:Int) (w:World) (h:fo.f k a0=some r):
  Calls Tryz.prog 126 #[.string a0] w fun e w'=>e= .returned (.int .i64 r)∧cQ w w':=by
 have H:(fo.l0 k a0 0 (a0.size:Int) 0)=some r:=h
 clear h
 have H':=ak H
 clear H
 go_enter Tryz.func126,Tryz.ntmps126
 go_wp2
 go_loopg [3,7] k (fun kq v3 v7 w'=>∃(ja:Int) (dD:Int),v3= .int .i64 ja∧v7= .int .i64 dD∧Aside0 (fo.l0 kq a0 ja (a0.size:Int) dD=some r)∧Aside0 (kq≤k)∧cQ w w')
 case atStart=>exact ⟨(0),(0),er,er,H',⟨Nat.le_refl _⟩,gV⟩
 case round=>
  clear H'
  obtain ⟨ja,dD,rfl,rfl,HA,gf,⟨m1,rfl⟩⟩:=hrel
  cases gk with
  |zero=>exact absurd HA.out (by simp [fo.l0])
  |succ k1=>
   have H:=HA.out;clear HA
   simp only [fo.l0] at H
   by_cases c2:dD<(a0.size:Int)
   ·rw [if_pos c2] at H
    have o5:=decide_eq_true c2
    clear c2;replace H:=dy H;obtain ⟨c3,H⟩:=H;have jX:=decide_eq_true c3;clear c3;replace H:=dy H;obtain ⟨c4,H⟩:=H;have jn:=decide_eq_true c4;clear c4
    have H':=ak H
    clear H
    have p5:0≤(dD:Int):=da
    have q5:dD<(a0.size:Int):=da
    have hx5:=jJ a0 dD
    replace p5:=eq_true p5;replace q5:=eq_true q5;go_wp2
    go_roundg k1
    case measure=>have:=gf.out;omega
    case rel=>exact ⟨(wrap64 (ja+(wrap64 ((wrap64 (bt a0 dD))*(wrap64 (dD+1)))))),(wrap64 (dD+1)),er,er,H',⟨by have:=gf.out;omega⟩,gV⟩
   ·rw [if_neg c2] at H
    have o5:=decide_eq_false c2
    clear c2
    obtain rfl:=Option.some.inj H
    go_wp2
    go_ret
    exact ⟨er,gV⟩
def fq.f (k:Nat) (a0 a1:ByteArray):Option ByteArray:=match a1.data.toList with
  |[c]=>if c.toNat<128 then (if a0.size≤9223372036854775807 then some ⟨(Lib.trimRightB a0.data.toList c).toArray⟩ else none) else none
  |_=>none
theorem fq.calls (k:Nat) (a0 a1:ByteArray) (r:ByteArray) (w:World) (h:fq.f k a0 a1=some r):
  Calls Tryz.prog 140 #[.string a0,.string a1] w fun e w'=>e= .returned (.string r)∧cQ w w':=by
 unfold fq.f at h
 split at h
 ·rename_i c hc
  replace h:=dy h;obtain ⟨h0,h⟩:=h
  replace h:=dy h;obtain ⟨h1,h⟩:=h
  obtain rfl:=Option.some.inj h
  obtain rfl:a1=⟨#[c]⟩:=by
   cases a1 with|mk d=>exact congrArg ByteArray.mk (Array.toList_inj.1 hc)
  refine (Any.strings_TrimRight_one afh a0 c h0 w h1).mono ?_
  rintro e w' ⟨rfl,rfl⟩
  exact ⟨rfl,gV⟩
 ·cases h
def strings_HasSuffix.f (k:Nat) (a0 a1:ByteArray):Option Bool:=if a0.size≤9223372036854775807 then some (Lib.hasSuffix a0.data.toList a1.data.toList) else none
theorem strings_HasSuffix.calls (k:Nat) (a0 a1:ByteArray) (r:Bool) (w:World) (h:strings_HasSuffix.f k a0 a1=some r):
  Calls Tryz.prog 141 #[.string a0,.string a1] w fun e w'=>e= .returned (.bool r)∧cQ w w':=by
 unfold strings_HasSuffix.f at h
 replace h:=dy h;obtain ⟨h0,h⟩:=h
 obtain rfl:=Option.some.inj h
 refine (Any.strings_HasSuffix afi a0 a1 w h0).mono ?_
 rintro e w' ⟨rfl,rfl⟩
 exact ⟨rfl,gV⟩
def jt.f (k:Nat) (a0:ByteArray):Option (ByteArray×Bool):=(fq.f k a0 (⟨#[0]⟩:ByteArray)).bind fun lU=>(if (a0.size:Int)=16 then ((strings_HasSuffix.f k lU (⟨#[128]⟩:ByteArray)).bind fun MK=>(if MK=true then (if 0≤(wrap64 ((lU.size:Int)-1)) then (if (wrap64 ((lU.size:Int)-1))≤(lU.size:Int) then (some (lU.extract 0 ((wrap64 ((lU.size:Int)-1)):Int).toNat,true)) else (none)) else (none)) else (some ((⟨#[]⟩:ByteArray),false)))) else (some ((⟨#[]⟩:ByteArray),false)))
theorem jt.calls (k:Nat) (a0:ByteArray) (r1:ByteArray) (r2:Bool) (w:World) (h:jt.f k a0=some (r1,r2)):
  Calls Tryz.prog 127 #[.string a0] w fun e w'=>e= .returned (.tuple #[.string r1,.bool r2])∧cQ w w':=by
 have H:((fq.f k a0 (⟨#[0]⟩:ByteArray)).bind fun lU=>(if (a0.size:Int)=16 then ((strings_HasSuffix.f k lU (⟨#[128]⟩:ByteArray)).bind fun MK=>(if MK=true then (if 0≤(wrap64 ((lU.size:Int)-1)) then (if (wrap64 ((lU.size:Int)-1))≤(lU.size:Int) then (some (lU.extract 0 ((wrap64 ((lU.size:Int)-1)):Int).toNat,true)) else (none)) else (none)) else (some ((⟨#[]⟩:ByteArray),false)))) else (some ((⟨#[]⟩:ByteArray),false))))=some (r1,r2):=h
 clear h;replace H:=bS H;obtain ⟨lU,A2,H⟩:=H
 by_cases c3:(a0.size:Int)=16
 ·rw [if_pos c3] at H
  have jX:=lO c3
  have xx:=mR c3
  clear c3;replace H:=bS H;obtain ⟨MK,A4,H⟩:=H
  by_cases c5:MK=true
  ·subst c5
   have H1:(if 0≤(wrap64 ((lU.size:Int)-1)) then (if (wrap64 ((lU.size:Int)-1))≤(lU.size:Int) then (some (lU.extract 0 ((wrap64 ((lU.size:Int)-1)):Int).toNat,true)) else (none)) else (none))=some (r1,r2):=by rw [if_pos rfl] at H;exact H
   clear H
   have H:=H1
   clear H1
   obtain ⟨Zi,Lh⟩:∃j_:Int,(wrap64 ((lU.size:Int)-1))=j_:=⟨_,rfl⟩
   replace H:(if 0≤(Zi) then (if (Zi)≤(lU.size:Int) then (some (lU.extract 0 ((Zi):Int).toNat,true)) else (none)) else (none))=some (r1,r2):=by first|(rw [Lh] at H;exact H)|(simp only [Lh] at H⊢;exact H)
   (try rw [Lh] at A2)
   (try rw [Lh] at A4)
   have ain:(IntKind.i64.wrap ((lU.size:Int)-1))=Zi:=(bW _).trans Lh
   replace H:=dy H;obtain ⟨c7,H⟩:=H;have tw:=eq_true c7
   have Sz:decide (0≤(Zi))=true:=decide_eq_true c7
   clear c7;replace H:=dy H;obtain ⟨c8,H⟩:=H;have xw:=eq_true c8
   have LF:decide ((Zi)≤(lU.size:Int))=true:=decide_eq_true c8
   clear c8
   simp only [Option.some.injEq,Prod.mk.injEq] at H
   obtain ⟨rfl,rfl⟩:=H
   go_enter Tryz.func127,Tryz.ntmps127
   go_wp2_with (first|(go_at_call 140;(with_reducible refine (fq.calls k a0 (⟨#[0]⟩:ByteArray) lU _ A2.out).mono ?_);rintro e w' ⟨rfl,⟨nd,rfl⟩⟩)|(go_at_call 141;(with_reducible refine (strings_HasSuffix.calls k lU (⟨#[128]⟩:ByteArray) true _ A4.out).mono ?_);rintro e w' ⟨rfl,⟨nd,rfl⟩⟩))
   go_ret2
   exact ⟨by first|rfl|(simp;done)|(simp only [←Lh]<;>(first|rfl|simp))|(simp [*];done),gV⟩
  ·replace c5:=Bool.eq_false_iff.mpr c5
   subst c5
   have H1:(some ((⟨#[]⟩:ByteArray),false))=some (r1,r2):=by rw [if_neg (show¬(false=true) by decide)] at H;exact H
   clear H
   have H:=H1
   clear H1
   simp only [Option.some.injEq,Prod.mk.injEq] at H
   obtain ⟨rfl,rfl⟩:=H
   go_enter Tryz.func127,Tryz.ntmps127
   go_wp2_with (first|(go_at_call 140;(with_reducible refine (fq.calls k a0 (⟨#[0]⟩:ByteArray) lU _ A2.out).mono ?_);rintro e w' ⟨rfl,⟨nd,rfl⟩⟩)|(go_at_call 141;(with_reducible refine (strings_HasSuffix.calls k lU (⟨#[128]⟩:ByteArray) false _ A4.out).mono ?_);rintro e w' ⟨rfl,⟨nd,rfl⟩⟩))
   go_ret2
   exact ⟨er,gV⟩
 ·rw [if_neg c3] at H
  have jX:=lq c3
  have xx:=mj c3
  simp only [Option.some.injEq,Prod.mk.injEq] at H
  obtain ⟨rfl,rfl⟩:=H
  go_enter Tryz.func127,Tryz.ntmps127
  go_wp2_with (first|(go_at_call 140;(with_reducible refine (fq.calls k a0 (⟨#[0]⟩:ByteArray) lU _ A2.out).mono ?_);rintro e w' ⟨rfl,⟨nd,rfl⟩⟩))
  go_ret2
  exact ⟨er,gV⟩
def dY.T4:Bool×List (List Nat×List Nat):=(true,[([],[]),([0],[0]),([1],[1]),([2],[2]),([3],[3]),([4,3],[4]),([5],[5]),([6,5],[5,6]),([7,5],[5,7]),([5],[5]),([9,5],[5,9]),([10,5,5],[5,10]),([8,11,5],[5,8,11]),([5,12],[5,12])])
def dY.B4:List Nat:=[0,1,3,7,15,31,63,127,255,63,575,1599,4095,8191]
theorem dY.Ci:gz .any (opsOf Tryz.f115 4)=dY.T4:=by kernel_rfl
theorem dY.uL:dZ dY.T4.2 dY.B4=true:=by kernel_rfl
def dY.f (k:Nat) (a0:Int) (a1:ByteArray):Option (Int×ByteArray×ByteArray×Bool):=(mD.f a0).bind fun c0=>if c0=true∧a1.size=24 then (lf.f k a0 24).bind fun p=>(kG.f k a1 p).bind fun t=>if t.size=24 then (kH.f (wrap64 (bt t 0))).bind fun c=>if c=true then (fo.f k (t.extract 2 18)).bind fun d=>if wrap64 (bt t 1)=d then (jt.f k ((t.extract 2 t.size++(⟨#[0,0]⟩:ByteArray)).extract 0 16)).bind fun b=>some (wrap64 (bt t 0),t.extract 2 t.size++(⟨#[0,0]⟩:ByteArray),b.1,true) else some (0,⟨#[]⟩,⟨#[]⟩,false) else some (0,⟨#[]⟩,⟨#[]⟩,false) else none else none
theorem dY.calls (k:Nat) (a0:Int) (a1:ByteArray) (r1:Int) (r2:ByteArray) (r3:ByteArray) (r4:Bool) (w:World) (h:dY.f k a0 a1=some (r1,r2,r3,r4)):
  Calls Tryz.prog 115 #[.int .i64 a0,.string a1] w fun e w'=>e= .returned (.tuple #[.agg #[.int .i64 r1,.string r2,.string r3],.bool r4])∧Below w.heap.size w w':=by
 have huP:=Tryz.underlying105
 have HS:=Sep.nil w
 unfold dY.f at h
 replace h:=bS h;obtain ⟨c0,T0,h⟩:=h
 replace h:=dy h;obtain ⟨⟨rfl,hz⟩,h⟩:=h
 replace h:=bS h;obtain ⟨p,T1,h⟩:=h
 replace h:=bS h;obtain ⟨t,T2,h⟩:=h
 replace h:=dy h;obtain ⟨ht,h⟩:=h
 replace h:=bS h;obtain ⟨c,T3,h⟩:=h
 have Bv:((a1.size:Int) !=24)=false:=by rw [hz];rfl
 have q0:(0<t.size)=True:=eq_true (by omega)
 have q1:(1<t.size)=True:=eq_true (by omega)
 have qi0:(0<(t.size:Int))=True:=eq_true (by omega)
 have qi1:(1<(t.size:Int))=True:=eq_true (by omega)
 have x0:∀h:0<t.size,((t[0]'h).toNat:Int)=bt t 0:=jJ t 0
 have x1:∀h:1<t.size,((t[1]'h).toNat:Int)=bt t 1:=jJ t 1
 have hl1:decide ((18:Int)≤(t.size:Int))=true:=decide_eq_true (by omega)
 have hl2:decide ((2:Int)≤(t.size:Int))=true:=decide_eq_true (by omega)
 have D4:(t.extract 2 t.size).size=22:=by rw [ByteArray.size_extract,ht];rfl
 have hl3:decide ((t.extract 2 t.size).size+2≤9223372036854775807)=true:=decide_eq_true (by omega)
 have hl4:(9223372036854775807<(t.extract 2 t.size).size+2)=False:=eq_false (by omega)
 have R1:decide ((16:Int)≤((t.extract 2 t.size++(⟨#[0,0]⟩:ByteArray)).size:Int))=true:=decide_eq_true (by rw [ByteArray.size_append,D4];decide)
 have hl6:(2≤(t.size:Int))=True:=eq_true (by omega)
 have hl7:(18≤(t.size:Int))=True:=eq_true (by omega)
 have hl8:(16≤((t.extract 2 t.size++(⟨#[0,0]⟩:ByteArray)).size:Int))=True:=eq_true (by rw [ByteArray.size_append,D4];decide)
 have hl9:(9223372036854775807<t.size-2+2)=False:=eq_false (by omega)
 clear ht hz D4 hl3 hl4
 go_enter Tryz.func115,Tryz.ntmps115
 go_upto_region 4 with (first|((with_reducible refine av (N:=4) rfl ?_);refine bN 4 #[.int .i64 0,.string (⟨#[]⟩:ByteArray),.string (⟨#[]⟩:ByteArray)] 105 ?_;intro b4 bK W_ bD aW;replace HS:=HS.box bK bD aW;clear bK bD aW;have eR:=ck (HS.aI 0))|(go_at_call 122;refine (mD.calls a0 true _ T0.out).mono ?_;rintro e W_ ⟨rfl,iC,rfl⟩;replace HS:=HS.drewN iC;generalize World.drewN _ iC=W_ at HS⊢;clear eR;have eR:=ck (HS.aI 0))|(go_at_call 124;refine (lf.calls k a0 24 p _ T1.out).mono ?_;rintro e W_ ⟨rfl,aW⟩;replace HS:=HS.below aW;clear aW;clear eR;have eR:=ck (HS.aI 0))|(go_at_call 123;refine (kG.calls k a1 p t _ T2.out).mono ?_;rintro e W_ ⟨rfl,aW⟩;replace HS:=HS.below aW;clear aW;clear eR;have eR:=ck (HS.aI 0)))
 clear eR
 refine dV (n:=14) (S:=fun w'=>True) (ds:=[]) (bl 14 0) (by kernel_rfl) rfl rfl trivial (fun ah=> ?_);refine bZ dY.Ci dY.uL (fun aA ef=> ?_)
 replace HS:=HS.drew
 generalize World.drew _=tD at HS⊢
 refine ag 0 (some 22) 14 1 aA ?_
 refine ag 1 (some 23) 14 3 aA ?_
 refine ag 2 (some 24) 14 7 aA ?_
 refine fJ 3 (some 25) 14 15 aA (fun K hK=> ?_)
 refine fM Tryz.func125 (by kernel_rfl) rfl #[.int .i64 (wrap64 (bt t 0))] (by rfl) rfl rfl (by (try simp only [List.map_toArray,List.map_cons,List.map_nil]);first|done|rfl) ?_
 refine (kH.calls (wrap64 (bt t 0)) c _ T3.out).mono ?_
 clear ah
 rintro e W_ ⟨rfl,iC,rfl⟩
 refine ⟨_,rfl,?_⟩
 replace HS:=HS.drewN iC
 generalize World.drewN _ iC=W_ at HS⊢
 refine hK.out _ _ trivial (fun ah=> ?_)
 clear hK K
 refine cM (a':= ?_) ?_ ?_
 rotate_left
 ·show Act.put _ (some 25) _=_
  simp only [Act.put,List.setIfInBounds_toArray,List.set_cons_zero,List.set_cons_succ,bW,cA]
  rfl
 refine ag 4 (some 26) 14 31 aA ?_
 refine ag 5 (some 27) 14 63 aA ?_
 cases c with
 |false=>
  rw [if_neg (by decide)] at h
  simp only [Bool.not_false]
  refine cL 6 (some 28) 14 127 aA ?_
  refine cL 7 (some 29) 14 255 aA ?_
  refine cL 8 (some 30) 14 511 aA ?_
  refine cL 9 (some 31) 14 1023 aA ?_
  refine cL 10 (some 32) 14 2047 aA ?_
  refine cL 11 (some 33) 14 4095 aA ?_
  refine cL 12 (some 34) 14 8191 aA ?_
  refine ag 13 (some 35) 14 16383 aA ?_
  refine eZ (cV aA.out (by kernel_rfl)) ?_
  clear aA ef ah
  have eR:=ck (HS.aI 0)
  simp only [Option.some.injEq,Prod.mk.injEq] at h
  obtain ⟨rfl,rfl,rfl,rfl⟩:=h
  go_wp2
  have HF:=(((HS.cq 0 0 (.int .i64 0) #[.int .i64 0,.string (⟨#[]⟩:ByteArray),.string (⟨#[]⟩:ByteArray)]).cq 0 1 (.string (⟨#[]⟩:ByteArray)) #[.int .i64 0,.string (⟨#[]⟩:ByteArray),.string (⟨#[]⟩:ByteArray)]).cq 0 2 (.string (⟨#[]⟩:ByteArray)) #[.int .i64 0,.string (⟨#[]⟩:ByteArray),.string (⟨#[]⟩:ByteArray)])
  refine bodyPost_ret (cK rfl _ _ b4 105 #[.int .i64 0,.string (⟨#[]⟩:ByteArray),.string (⟨#[]⟩:ByteArray)] (0,0) _ rfl (by exact (HF.aI 0).out) Tryz.underlying105 rfl (by kernel_rfl)) rfl ?_
  exact ⟨rfl,HF.base⟩
 |true=>
  rw [if_pos rfl] at h
  simp only [Bool.not_true]
  replace h:=bS h;obtain ⟨d,T4,h⟩:=h
  refine ag 6 (some 28) 14 127 aA ?_
  refine ag 7 (some 29) 14 255 aA ?_
  refine ag 8 (some 30) 14 511 aA ?_
  refine ag 9 (some 31) 14 1023 aA ?_
  refine ag 10 (some 32) 14 2047 aA ?_
  refine fJ 11 (some 33) 14 4095 aA (fun K hK=> ?_)
  refine fM Tryz.func126 (by kernel_rfl) rfl #[.string (t.extract 2 18)] (by rfl) rfl rfl (by (try simp only [List.map_toArray,List.map_cons,List.map_nil]);first|done|rfl) ?_
  refine (fo.calls k (t.extract 2 18) d _ T4.out).mono ?_
  clear ah
  rintro e W_ ⟨rfl,iC,rfl⟩
  refine ⟨_,rfl,?_⟩
  replace HS:=HS.drewN iC
  generalize World.drewN _ iC=W_ at HS⊢
  refine hK.out _ _ trivial (fun ah=> ?_)
  clear hK K
  refine cM (a':= ?_) ?_ ?_
  rotate_left
  ·show Act.put _ (some 33) _=_
   simp only [Act.put,List.setIfInBounds_toArray,List.set_cons_zero,List.set_cons_succ,bW,cA]
   rfl
  refine ag 12 (some 34) 14 8191 aA ?_
  refine ag 13 (some 35) 14 16383 aA ?_
  refine eZ (cV aA.out (by kernel_rfl)) ?_
  clear aA ef ah
  by_cases hc:wrap64 (bt t 1)=d
  ·rw [if_pos hc] at h
   have Xj:(wrap64 (bt t 1) !=d)=false:=by rw [hc];exact bne_self_eq_false d
   simp only [Xj]
   replace h:=bS h;obtain ⟨⟨b,b'⟩,T5,h⟩:=h
   have eR:=ck (HS.aI 0)
   go_upto_region 7 with fail
   generalize hu:t.extract 2 t.size++(⟨#[0,0]⟩:ByteArray)=u at h T5 R1 hl8⊢
   simp only [Option.some.injEq,Prod.mk.injEq] at h
   obtain ⟨rfl,rfl,rfl,rfl⟩:=h
   clear hc hu
   go_wp2_with (first|(go_at_call 127;refine (jt.calls k _ b b' _ T5.out).mono ?_;rintro e W_ ⟨rfl,iC,rfl⟩;replace HS:=HS.drewN iC;generalize World.drewN _ iC=W_ at HS⊢;clear eR;have eR:=ck (HS.aI 0)))
   have HF:=(((HS.cq 0 0 (.int .i64 (wrap64 (bt t 0))) #[.int .i64 (wrap64 (bt t 0)),.string (⟨#[]⟩:ByteArray),.string (⟨#[]⟩:ByteArray)]).cq 0 1 (.string u) #[.int .i64 (wrap64 (bt t 0)),.string u,.string (⟨#[]⟩:ByteArray)]).cq 0 2 (.string b) #[.int .i64 (wrap64 (bt t 0)),.string u,.string b])
   refine bodyPost_ret (cK rfl _ _ b4 105 #[.int .i64 (wrap64 (bt t 0)),.string u,.string b] (0,0) _ rfl (by exact (HF.aI 0).out) Tryz.underlying105 rfl (by kernel_rfl)) rfl ?_
   exact ⟨rfl,HF.base⟩
  ·rw [if_neg hc] at h
   have Xj:(wrap64 (bt t 1) !=d)=true:=bne_iff_ne.mpr hc
   simp only [Xj]
   clear hc
   have eR:=ck (HS.aI 0)
   simp only [Option.some.injEq,Prod.mk.injEq] at h
   obtain ⟨rfl,rfl,rfl,rfl⟩:=h
   go_wp2
   have HF:=(((HS.cq 0 0 (.int .i64 0) #[.int .i64 0,.string (⟨#[]⟩:ByteArray),.string (⟨#[]⟩:ByteArray)]).cq 0 1 (.string (⟨#[]⟩:ByteArray)) #[.int .i64 0,.string (⟨#[]⟩:ByteArray),.string (⟨#[]⟩:ByteArray)]).cq 0 2 (.string (⟨#[]⟩:ByteArray)) #[.int .i64 0,.string (⟨#[]⟩:ByteArray),.string (⟨#[]⟩:ByteArray)])
   refine bodyPost_ret (cK rfl _ _ b4 105 #[.int .i64 0,.string (⟨#[]⟩:ByteArray),.string (⟨#[]⟩:ByteArray)] (0,0) _ rfl (by exact (HF.aI 0).out) Tryz.underlying105 rfl (by kernel_rfl)) rfl ?_
   exact ⟨rfl,HF.base⟩
end Go.Proofs.YtihekdlcfohkkaaGreatDoor.QFnNets
