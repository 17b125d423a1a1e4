-- printed by this session's own program (wip/tools/pp.py: the kit's print.py with changes); Lean checks it
import Derived.Test.YtihekdlcfohkkaaGreatDoorQFnNetsx0
import Derived.Test.YtihekdlcfohkkaaGreatDoorQFnNetsx1
import Derived.Test.YtihekdlcfohkkaaGreatDoorQFnNetsx2
import Derived.Test.YtihekdlcfohkkaaGreatDoorQFnNetsx12
import Derived.Test.YtihekdlcfohkkaaGreatDoorQFnNetsx13
namespace Go.Proofs.YtihekdlcfohkkaaGreatDoor.QFnNets
open Go.RowKit Go.Proofs.YtihekdlcfohkkaaGreatDoorW.PrintWords Go.Proofs.YtihekdlcfohkkaaGreatDoorW.PrintLast Go.Proofs.YtihekdlcfohkkaaGreatDoorW.PrintMore
attribute [local go_sem] max2_int min2_int max_two min_two max_three min_three max_four min_four strLss strGtr strLeq strGeq
set_option linter.unusedVariables false
set_option linter.unusedSimpArgs false
set_option maxHeartbeats 16000000
set_option maxRecDepth 100000
def Cu (w0 w:World) (g:Nat) (s:List Int) (f1 f2:Int) (u:World):Prop:=ay w0 u g s f1 f2∧Below w0.heap.size w0 u∧u.heap.size=w.heap.size∧∀i,i≠g→u.heap[i]? =w.heap[i]?
section
variable {w0 w u W:World} {g:Nat} {s:List Int} {f1 f2:Int} {L:List SA}
theorem Cu.start (hI:ay w0 w g s f1 f2) (hB:Below w0.heap.size w0 w):Cu w0 w g s f1 f2 w:=⟨hI,hB,rfl,fun _ _=>rfl⟩
theorem Cu.lt (h:Cu w0 w g s f1 f2 u):g<u.heap.size:=h.1.lt
theorem Cu.use (h:Cu w0 w g s f1 f2 u) (HS:Sep u W L):ay w0 W g s f1 f2∧Below w0.heap.size w0 W:=by
  obtain ⟨⟨A,c,h1,h2,h3⟩,hb,_,_⟩:=h
  exact ⟨⟨A,c,(HS.base.block g (iR h1)).trans h1,h2,h3⟩,hb.trans ⟨HS.base.os,HS.base.tape,HS.base.output,HS.base.size,fun k hk=>HS.base.block k (Nat.lt_of_lt_of_le hk hb.size)⟩⟩
theorem Cu.step {W1:World} {Xr Xq:Int} {As:List SA} (h:Cu w0 w g s f1 f2 u) (HS:Sep u W L) (hi:ay w0 W1 g s Xr Xq) (hb:Below w0.heap.size w0 W1) (hk:aZ W W1 g none) (ha:∃c,dG c W.heap.size W1 0 As):∃u',Cu w0 w g s Xr Xq u'∧Sep u' W1 (As++L):=by
  have fl:=h.lt
  obtain ⟨⟨A,c,h1,h2,h3⟩,hB,h4,h5⟩:=h
  obtain ⟨A',c',i1,i2,i3⟩:=hi
  have aa4:g<W.heap.size:=Nat.lt_of_lt_of_le fl HS.base.size
  have e1:(KP u g (.cells #[.slice A' s.length c',.int .i64 Xr,.int .u64 Xq] 89 (0,0))).heap.size=u.heap.size:=yF
  have e2:(KP W g (.cells #[.slice A' s.length c',.int .i64 Xr,.int .u64 Xq] 89 (0,0))).heap.size=W.heap.size:=yF
  refine ⟨KP u g (.cells #[.slice A' s.length c',.int .i64 Xr,.int .u64 Xq] 89 (0,0)),⟨⟨A',c',vA fl,i2,i3⟩,⟨hB.os,hB.tape,hB.output,by rw [e1];exact hB.size,fun k GZ=>(pI (by omega)).trans (hB.block k GZ)⟩,e1.trans h4,fun i hi'=>(pI hi').trans (h5 i hi')⟩,?_⟩
  have hm:Sep (KP u g (.cells #[.slice A' s.length c',.int .i64 Xr,.int .u64 Xq] 89 (0,0))) (KP W g (.cells #[.slice A' s.length c',.int .i64 Xr,.int .u64 Xq] 89 (0,0))) L:=by
    obtain ⟨k1,cc,k2⟩:=HS
    refine ⟨⟨k1.os,k1.tape,k1.output,by rw [e1,e2];exact k1.size,fun k GZ=> ?_⟩,cc,by rw [e1];exact dG.to 0 k2 (fun k j _ R2 _ hge=>⟨R2,pI (by omega)⟩)⟩
    rw [e1] at GZ
    by_cases e:k=g
    · subst e;exact (vA aa4).trans (vA fl).symm
    · exact ((pI e).trans (k1.block k GZ)).trans (pI e).symm
  have o1:W.os=w0.os:=HS.base.os.trans hB.os
  have o2:W.tape=w0.tape:=HS.base.tape.trans hB.tape
  have o3:W.output=w0.output:=HS.base.output.trans hB.output
  refine hm.news ⟨hb.os.trans o1.symm,hb.tape.trans o2.symm,hb.output.trans o3.symm,by rw [e2];exact hk.1,fun k GZ=> ?_⟩ (by rw [e2];exact ha)
  rw [e2] at GZ
  by_cases e:k=g
  · subst e;exact i1.trans (vA aa4).symm
  · exact (hk.2 k GZ e (by simp)).trans (pI e).symm
theorem Cu.fin (h:Cu w0 w g s f1 f2 u) (HS:Sep u W L):aZ w W g none∧∃c,dG c w.heap.size W 0 L:=by
  obtain ⟨_,_,h4,h5⟩:=h
  refine ⟨⟨by rw [←h4];exact HS.base.size,fun i hi iP _=>(HS.base.block i (by rw [h4];exact hi)).trans (h5 i iP)⟩,?_⟩
  obtain ⟨_,c,h⟩:=HS
  exact ⟨c,by rw [←h4];exact h⟩
theorem Cu.neR {α:Type} {d:Kd α} {t:Nat} {A:Option Addr} {n c:Nat} {xs:List α} (h:Cu w0 w g s f1 f2 u) (HS:Sep u W L) (i:Nat) (e:L.getD i nA=rA d t (.slice A n c) xs:=by rfl) (hi:i<L.length:=by first|exact of_decide_eq_true rfl|(simp only [List.length_cons,List.length_append];omega)):∀ad,A=some ad→0<xs.length→ad.block≠g:=by
  rintro ad rfl _ rfl
  obtain ⟨ok,hR⟩:=HS.at i e hi
  have:=Kd.j3 hR ad.block (by simp [Value.ownBlock])
  have:=h.lt
  omega
end
theorem Sep.BF {w0 W:World} {L:List SA} (h:Sep w0 W L) (j:Nat) {t g n c:Nat} {xs:List mK} (h1:0<(n:Int)) (e:L.getD j nA=rA K7 t (.slice (some ⟨g,0,none⟩) n c) xs:=by rfl) (hi:j<L.length:=by first|exact of_decide_eq_true rfl|(simp only [List.length_cons,List.length_append];omega)):W.cell? ⟨g,0,none⟩=some (.int .i64 (ic xs 0).f0)∧W.cell? ⟨g,1,none⟩=some (.int .i64 (ic xs 0).f1)∧W.cell? ⟨g,2,none⟩=some (.string (ic xs 0).f2):=by
  obtain ⟨rfl,_,hC⟩:=h.mA j e hi
  obtain ⟨ad,e1,e2,e3,e4⟩:=O9 hC 0 (Int.le_refl 0) h1
  obtain rfl:=Option.some.inj e1
  simp only [add_plain] at e2 e3 e4
  exact ⟨e2,e3,e4⟩
def bC.T8:Bool×List (List Nat×List Nat):=(true,[([],[]),([0],[0]),([],[]),([2],[2]),([3],[3]),([4],[4]),([],[]),([],[]),([6,7],[6,7]),([8],[8]),([5,9,8],[5,9]),([1,0,1,2,3,4,5,6,7,8,9,10],[1]),([11,10,10,0,1,2,3,4,5,6,7,8,9,10],[10,11])])
def bC.B8:List Nat:=[0,1,0,4,12,28,0,0,192,448,1020,2047,4095]
theorem bC.wX:gz .any (opsOf Tryz.f80 8)=bC.T8:=by kernel_rfl
theorem bC.qm:dZ bC.T8.2 bC.B8=true:=by kernel_rfl
def bC.T10:Bool×List (List Nat×List Nat):=(true,[([],[]),([0],[0]),([],[]),([2],[2]),([3],[3]),([4],[4]),([],[]),([5,6],[5,6]),([1,0,1,2,3,4,5,6,7],[1]),([8,7,7,0,1,2,3,4,5,6,7],[7,8])])
def bC.B10:List Nat:=[0,1,0,4,12,28,0,124,255,511]
theorem bC.aan:gz .any (opsOf Tryz.f80 10)=bC.T10:=by kernel_rfl
theorem bC.Yk:dZ bC.T10.2 bC.B10=true:=by kernel_rfl
def bC.s (s:List Int) (m:Nt) (b1 b2:Int):Option (Nt×Int×Int):=(aY.f s b1 b2 30).bind fun (t,c1,c2)=>if t=0 then (cB.f s c1 c2 [-1,60,61]).bind fun (v,d1,d2)=>some (⟨m.ks,m.ps,m.ss,m.ib,v⟩,d1,d2) else if t=1 then (if 0<m.ib.length∧(m.ib.getD 0 []).length≤1048576 then (eL.f s c1 c2 [(⟨#[]⟩:ByteArray),(⟨#[120]⟩:ByteArray),(⟨#[115,105,120,116,101,101,110,32,98,121,116,101,115,46,46,46]⟩:ByteArray)]).bind fun (x,d1,d2)=>some (⟨m.ks,m.ps,m.ss,m.ib.set 0 (m.ib.getD 0 []++[x]),m.sd⟩,d1,d2) else none) else if t=2 then (if 0<m.ps.length∧(m.ps.getD 0 []).length≤1048576 then some (⟨m.ks,m.ps.set 0 (m.ps.getD 0 []++[(⟨#[115,104,111,114,116]⟩:ByteArray)]),m.ss,m.ib,m.sd⟩,c1,c2) else none) else some (m,c1,c2)
def bC.f (k:Nat) (s:List Int) (f1 f2:Int):Option (Nt×Int×Int):=(bX.f k s f1 f2).bind fun (x,a1,a2)=>(aG.f k s a1 a2).bind fun (l,b1,b2)=>(cU.f k x l).bind fun (m,_,q)=>if q=true then bC.s s m b1 b2 else (dU.f k [1,2]).bind fun (r1,r2,r3,r4,r5,_)=>bC.s s ⟨r1,r2,r3,r4,r5⟩ b1 b2
theorem bC.calls (k:Nat) (g:Nat) (s:List Int) (f1 f2:Int) (n:Nt) (r2 r3:Int) (w0 w:World) (hI:ay w0 w g s f1 f2) (hB:Below w0.heap.size w0 w) (h:bC.f k s f1 f2=some (n,r2,r3)):
    Calls Tryz.prog 80 #[.pointer (some ⟨g,0,none⟩)] w fun e w'=>∃v0 v1 v2 v3:Value,e= .returned (.agg #[v0,v1,v2,v3,.int .i64 n.sd])∧ay w0 w' g s r2 r3∧Below w0.heap.size w0 w'∧aZ w w' g none∧∃c,dG c w.heap.size w' 0 (eO v0 v1 v2 v3 n):=by
 have lg:=Tryz.underlying27
 have HC:=ak (Cu.start hI hB);clear hI hB
 have HS:=Sep.nil w
 unfold bC.f at h
 replace h:=bS h;obtain ⟨⟨x,a1,a2⟩,T0,h⟩:=h
 dsimp only at h
 replace h:=bS h;obtain ⟨⟨l,y1,y2⟩,T1,h⟩:=h
 dsimp only at h
 replace h:=bS h;obtain ⟨⟨n0,d,q⟩,T2,h⟩:=h
 dsimp only at h
 have HH:=ak h;clear h
 go_enter Tryz.func80,Tryz.ntmps80
 go_upto_region 2 with (first|((with_reducible refine av (N:=2) rfl ?_);refine bN 2 #[.slice none 0 0,.slice none 0 0,.slice none 0 0,.slice none 0 0,.int .i64 0] 27 ?_;intro b2 bK W_ bD aW;replace HS:=HS.box bK bD aW;clear bK bD aW;have cJ:=an (HS.aI 0))|(go_at_call 65;have cE:=bX.calls k g s f1 f2 x a1 a2 w0 _ (HC.out.use HS).1 (HC.out.use HS).2 T0.out;refine cE.mono ?_;clear cE;rintro e W_ ⟨vkx,rfl,bD,tu,aW,qz⟩;obtain ⟨U_,ie,nx⟩:=Cu.step (As:=[rA KI 3 vkx x]) HC.out HS tu aW qz ⟨fun _=>0,Kd.bJ bD (fun _ _=>rfl),trivial⟩;clear HS HC tu aW qz bD;have HS:=nx;have HC:=ak ie;clear nx ie;dsimp only [List.cons_append,List.nil_append] at HS;obtain ⟨Akx,ckx,rfl⟩:=HS.lz 0;clear cJ;have cJ:=an (HS.aI 1))|(go_at_call 66;have cE:=aG.calls k g s a1 a2 l y1 y2 w0 _ (HC.out.use HS).1 (HC.out.use HS).2 T1.out;refine cE.mono ?_;clear cE;rintro e W_ ⟨vks,rfl,bD,tu,aW,qz⟩;obtain ⟨U_,ie,nx⟩:=Cu.step (As:=[rA K7 53 vks l]) HC.out HS tu aW qz ⟨fun _=>0,Kd.bJ bD (fun _ _=>rfl),trivial⟩;clear HS HC tu aW qz bD;have HS:=nx;have HC:=ak ie;clear nx ie;dsimp only [List.cons_append,List.nil_append] at HS;obtain ⟨Aks,cks,rfl⟩:=HS.lz 0;clear cJ;have cJ:=an (HS.aI 2))|(go_at_call 16;have cE:=cU.calls (HS.mA 1).2.2 (HS.mA 1).2.1 (HS.mA 0).2.2 (HS.mA 0).2.1 T2.out;refine cE.mono ?_;clear cE;rintro e W_ ⟨e0,e1,e2,e3,pd,rfl,ie,aW⟩;replace HS:=HS.news aW ie;clear ie aW;dsimp only [eO,List.cons_append,List.nil_append] at HS;obtain ⟨E0,Zs,rfl⟩:=HS.lz 0;obtain ⟨E1,dE1,rfl⟩:=HS.gY 1;obtain ⟨E2,dE2,rfl⟩:=HS.gY 2;obtain ⟨E3,dE3,rfl⟩:=HS.gY 3;obtain ⟨Ad,cd_,rfl⟩:=HS.lz 4;clear cJ;have cJ:=an (HS.aI 7))|((with_reducible refine av (N:=3) rfl ?_);refine bN 3 #[.slice none 0 0,.slice none 0 0,.slice none 0 0,.slice none 0 0,.int .i64 0] 27 ?_;intro b3 bK W_ bD aW;replace HS:=HS.box bK bD aW;clear bK bD aW;clear cJ;have bL:=an (HS.aI 0);clear bL;have bL:=an (HS.aI 0);have cJ:=an (HS.aI 8)))
 clear bL cJ
 obtain ⟨rC,gU,gX⟩:=(((((HS.cq 0 0 (.slice E0 n0.ks.length Zs) #[.slice E0 n0.ks.length Zs,.slice none 0 0,.slice none 0 0,.slice none 0 0,.int .i64 0]).cq 0 1 (.slice E1 n0.ps.length dE1) #[.slice E0 n0.ks.length Zs,.slice E1 n0.ps.length dE1,.slice none 0 0,.slice none 0 0,.int .i64 0]).cq 0 2 (.slice E2 n0.ss.length dE2) #[.slice E0 n0.ks.length Zs,.slice E1 n0.ps.length dE1,.slice E2 n0.ss.length dE2,.slice none 0 0,.int .i64 0]).cq 0 3 (.slice E3 n0.ib.length dE3) #[.slice E0 n0.ks.length Zs,.slice E1 n0.ps.length dE1,.slice E2 n0.ss.length dE2,.slice E3 n0.ib.length dE3,.int .i64 0]).cq 0 4 (.int .i64 n0.sd) #[.slice E0 n0.ks.length Zs,.slice E1 n0.ps.length dE1,.slice E2 n0.ss.length dE2,.slice E3 n0.ib.length dE3,.int .i64 n0.sd]).gen
 rw [gU]
 clear HS gU
 have HS:=gX
 clear gX
 go_upto_if 16 with fail
 (try simp only [Act.put,List.setIfInBounds_toArray,List.set_cons_zero,List.set_cons_succ])
 go_cut [] (fun wc=>∃(m:Nt) (U:World) (c1 c2:Int) (B0 B1 B2 B3:Option Addr) (d0 d1 d2 d3:Nat),Aside0 (bC.s s m c1 c2=some (n,r2,r3))∧Aside0 (Cu w0 w g s c1 c2 U)∧Sep U wc [rA KI 3 (.slice B0 m.ks.length d0) m.ks,sA KT 62 (.slice B1 m.ps.length d1) m.ps,sA KT 62 (.slice B2 m.ss.length d2) m.ss,sA KT 62 (.slice B3 m.ib.length d3) m.ib,bA b3 #[.slice B0 m.ks.length d0,.slice B1 m.ps.length d1,.slice B2 m.ss.length d2,.slice B3 m.ib.length d3,.int .i64 m.sd] 27,bA b2 #[.slice none 0 0,.slice none 0 0,.slice none 0 0,.slice none 0 0,.int .i64 0] 27])
 case first=>
   have h:=HH.out;clear HH
   cases q with
   |false=>
    rw [if_neg (by decide)] at h
    replace h:=bS h;obtain ⟨⟨r1,q2,q3,q4,q5,q6⟩,T9,h⟩:=h
    dsimp only at h
    replace HS:=HS.mE.tail
    replace HS:=HS.mE.tail
    replace HS:=HS.mE.tail
    replace HS:=HS.mE.tail
    go_wp2_with (first|((with_reducible refine av (N:=18) rfl ?_);refine Kd.gD (Kd.int .i64) _ 3 ?hg (N:=18) ?hd (xs:=([1,2]:List Int)) (inner:=[.int .i64 1,.int .i64 2]) (ok:=fun _=>True) (okp:=fun _=>True) ?hr ?hp (fun _ hk=>hk) trivial (Below.refl _ _) (Nat.le_refl _) (by simp) ?_;(case hd=>rfl);(case hg=>rfl);(case hr=>first|(go_simp;done)|(go_simp;rfl));(case hp=>exact (bT.one (show Kd.M (Kd.int .i64) _ _ _ 1 [.int .i64 1] from rfl) (bT.one (show Kd.M (Kd.int .i64) _ _ _ 2 [.int .i64 2] from rfl) (bT.none _ _))));intro vlt W_ bD aW _ _;replace HS:=HS.new (A:=rA (Kd.int .i64) 3 vlt ([1,2])) aW bD;clear bD aW;obtain ⟨Alt,clt,rfl⟩:=HS.lz 0;have bL:=an (HS.aI 1))|(go_at_call 49;have cE:=tU (HS.mA 0).2.2 (HS.mA 0).2.1 T9.out;refine cE.mono ?_;clear cE;rintro e W_ ⟨e0,e1,e2,e3,rfl,ie,aW⟩;replace HS:=HS.news aW ie;clear ie aW;dsimp only [eO,List.cons_append,List.nil_append] at HS;obtain ⟨G0,dG0,rfl⟩:=HS.lz 0;obtain ⟨G1,dG1,rfl⟩:=HS.gY 1;obtain ⟨G2,dG2,rfl⟩:=HS.gY 2;obtain ⟨G3,dG3,rfl⟩:=HS.gY 3;clear bL;have bL:=an (HS.aI 5)))
    go_meet
    replace HS:=HS.iw 5 (.slice G0 r1.length dG0) (.slice G1 q2.length dG1) (.slice G2 q3.length dG2) (.slice G3 q4.length dG3) (.int .i64 q5)
    replace HS:=HS.j9.tail
    replace HS:=HS.jR.tail
    replace HS:=HS.jR.tail
    replace HS:=HS.jR.tail
    case rel=>exact ⟨⟨r1,q2,q3,q4,q5⟩,_,_,_,_,_,_,_,_,_,_,_,⟨h⟩,HC,HS⟩
   |true=>
    rw [if_pos rfl] at h
    go_wp2
    go_meet
    replace HS:=HS.jR.tail
    replace HS:=HS.jR.tail
    replace HS:=HS.jR.tail
    case rel=>exact ⟨n0,_,_,_,_,_,_,_,_,_,_,_,⟨h⟩,HC,HS.jR.mE.jR.jR.jR.jR⟩
 case rest=>
   clear HS HC HH
   obtain ⟨m,U,c1,c2,B0,B1,B2,B3,d0,d1,d2,d3,HA,HC,HS⟩:=hcut
   have h:=HA.out;clear HA
   unfold bC.s at h
   replace h:=bS h;obtain ⟨⟨t,e1,e2⟩,T3,h⟩:=h
   dsimp only at h
   have HH:=ak h;clear h
   have bL:=an (HS.aI 4)
   go_upto_block 0 with (first|(go_at_call 78;have cE:=aY.calls g s c1 c2 30 t e1 e2 w0 _ (HC.out.use HS).1 (HC.out.use HS).2 T3.out;refine cE.mono ?_;clear cE;rintro e W_ ⟨rfl,tu,aW,qz⟩;obtain ⟨U_,ie,nx⟩:=Cu.step (As:=[]) HC.out HS tu aW qz ⟨fun _=>0,trivial⟩;clear HS HC tu aW qz;have HS:=nx;have HC:=ak ie;clear nx ie;dsimp only [List.cons_append,List.nil_append] at HS;clear bL;have bL:=an (HS.aI 4)))
   clear bL
   go_cut [] (fun wc=>∃(U:World) (B0 B1 B2 B3:Option Addr) (d0 d1 d2 d3:Nat),Aside0 (Cu w0 w g s r2 r3 U)∧Sep U wc [rA KI 3 (.slice B0 n.ks.length d0) n.ks,sA KT 62 (.slice B1 n.ps.length d1) n.ps,sA KT 62 (.slice B2 n.ss.length d2) n.ss,sA KT 62 (.slice B3 n.ib.length d3) n.ib,bA b3 #[.slice B0 n.ks.length d0,.slice B1 n.ps.length d1,.slice B2 n.ss.length d2,.slice B3 n.ib.length d3,.int .i64 n.sd] 27,bA b2 #[.slice none 0 0,.slice none 0 0,.slice none 0 0,.slice none 0 0,.int .i64 0] 27])
   case first=>
     have h:=HH.out;clear HH
     by_cases t0:t=0
     ·rw [if_pos t0] at h
      have tb0:=lO t0;clear t0
      replace h:=bS h;obtain ⟨⟨v,g1,g2⟩,T4,h⟩:=h
      dsimp only at h
      obtain ⟨h1,h2⟩:=(Prod.mk.injEq _ _ _ _).mp (Option.some.inj h)
      obtain ⟨h2,h3⟩:=(Prod.mk.injEq _ _ _ _).mp h2
      clear h
      subst h1 h2 h3
      have bL:=an (HS.aI 4)
      go_wp2_with (first|((with_reducible refine av (N:=27) rfl ?_);refine Kd.gD (Kd.int .i64) _ 3 ?hg (N:=27) ?hd (xs:=([-1,60,61]:List Int)) (inner:=[.int .i64 (-1),.int .i64 60,.int .i64 61]) (ok:=fun _=>True) (okp:=fun _=>True) ?hr ?hp (fun _ hk=>hk) trivial (Below.refl _ _) (Nat.le_refl _) (by simp) ?_;(case hd=>rfl);(case hg=>rfl);(case hr=>first|(go_simp;done)|(go_simp;rfl));(case hp=>exact (bT.one (show Kd.M (Kd.int .i64) _ _ _ (-1) [.int .i64 (-1)] from rfl) (bT.one (show Kd.M (Kd.int .i64) _ _ _ 60 [.int .i64 60] from rfl) (bT.one (show Kd.M (Kd.int .i64) _ _ _ 61 [.int .i64 61] from rfl) (bT.none _ _)))));intro vlt W_ bD aW _ _;replace HS:=HS.new (A:=rA (Kd.int .i64) 3 vlt ([-1,60,61])) aW bD;clear bD aW;obtain ⟨Alt,clt,rfl⟩:=HS.lz 0;clear bL;have bL:=an (HS.aI 5))|(go_at_call 100;have cE:=cB.calls g s e1 e2 _ _ [-1,60,61] v g1 g2 w0 _ (HC.out.use HS).1 (HC.out.use HS).2 (HS.mA 0).2.2 (HS.mA 0).2.1 (HC.out.neR HS 0) T4.out;refine cE.mono ?_;clear cE;rintro e W_ ⟨rfl,tu,aW,qz⟩;obtain ⟨U_,ie,nx⟩:=Cu.step (As:=[]) HC.out HS tu aW qz ⟨fun _=>0,trivial⟩;clear HS HC tu aW qz;have HS:=nx;have HC:=ak ie;clear nx ie;dsimp only [List.cons_append,List.nil_append] at HS;clear bL;have bL:=an (HS.aI 5)))
      go_meet
      replace HS:=HS.cq 5 4 (.int .i64 v) #[.slice B0 m.ks.length d0,.slice B1 m.ps.length d1,.slice B2 m.ss.length d2,.slice B3 m.ib.length d3,.int .i64 v]
      replace HS:=HS.tail
      case rel=>exact ⟨_,_,_,_,_,_,_,_,_,HC,HS⟩
     ·rw [if_neg t0] at h
      have tb0:=lq t0;clear t0
      by_cases t1:t=1
      ·rw [if_pos t1] at h
       have tb1:=lO t1;clear t1
       replace h:=dy h;obtain ⟨⟨p1,hI⟩,h⟩:=h
       replace h:=bS h;obtain ⟨⟨x,g1,g2⟩,T4,h⟩:=h
       dsimp only at h
       obtain ⟨h1,h2⟩:=(Prod.mk.injEq _ _ _ _).mp (Option.some.inj h)
       obtain ⟨h2,h3⟩:=(Prod.mk.injEq _ _ _ _).mp h2
       clear h
       subst h1 h2 h3
       obtain ⟨gg,dg,e_⟩:=HS.addr 3 (hx:=by omega)
       obtain rfl:B3=some ⟨gg,0,none⟩:=by injection e_
       clear e_
       have i1:(0:Int)<(m.ib.length:Int):=by omega
       have pi:(0<(m.ib.length:Int))=True:=eq_true i1
       have pn:(0<m.ib.length)=True:=eq_true (by omega)
       obtain ⟨AI,qI,HS⟩:=HS.vm.To i1
       obtain ⟨I,Xn⟩:∃I,m.ib.getD 0 []=I:=⟨_,rfl⟩
       rw [Xn] at HS hI
       have LI:=ak hI;have GI:=ak Xn;clear hI p1 Xn
       obtain ⟨I',hI1⟩:∃I',I++[x]=I':=⟨_,rfl⟩
       have GJ:=ak hI1;clear hI1
       have bL:=an (HS.aI 5)
       go_upto_region 8 with fail
       clear bL
       have bL:=an (HS.aI 5)
       obtain ⟨ga,iF⟩:=HS.sI i1
       refine dV (n:=13) (S:=fun w'=>w'.cell? ⟨b3,0,none⟩=some (.slice B0 m.ks.length d0)∧w'.cell? ⟨b3,1,none⟩=some (.slice B1 m.ps.length d1)∧w'.cell? ⟨b3,2,none⟩=some (.slice B2 m.ss.length d2)∧w'.cell? ⟨b3,3,none⟩=some (.slice (some ⟨gg,0,none⟩) m.ib.length d3)∧w'.cell? ⟨b3,4,none⟩=some (.int .i64 m.sd)∧w'.cell? ⟨gg,0,none⟩=some (.slice AI I.length qI)) (ds:=[12]) (bl 13 0) (by kernel_rfl) rfl rfl ⟨bL.1,bL.2.1,bL.2.2.1,bL.2.2.2.1,bL.2.2.2.2.1,ga⟩ (fun ah=> ?_);refine bZ bC.wX bC.qm (fun aA ef=> ?_)
       clear bL ga iF
       replace HS:=HS.drew
       generalize World.drew _=tD at HS ah⊢
       refine ag 0 (some 32) 13 1 aA ?_
       refine cg 1 (some 33) 13 3 aA ef ah ?_ (hy:=by rintro w' ⟨s0,s1,s2,s3,s4,s5⟩;go_simp;with_reducible rfl)
       refine ag 2 (some 34) 13 7 aA ?_
       refine cg 3 (some 35) 13 15 aA ef ah ?_ (hy:=by rintro w' ⟨s0,s1,s2,s3,s4,s5⟩;go_simp;with_reducible rfl)
       refine ag 4 (some 36) 13 31 aA ?_
       refine cg 5 (some 37) 13 63 aA ef ah ?_ (hy:=by rintro w' ⟨s0,s1,s2,s3,s4,s5⟩;go_simp;with_reducible rfl)
       refine ag 6 (some 38) 13 127 aA ?_
       refine fJ 7 (some 39) 13 255 aA (fun K hK=> ?_)
       clear ah
       refine Kd.iJ Kd.string _ 9 ?hg (N:=39) ?hd (xs:=([(⟨#[]⟩:ByteArray),(⟨#[120]⟩:ByteArray),(⟨#[115,105,120,116,101,101,110,32,98,121,116,101,115,46,46,46]⟩:ByteArray)]:List ByteArray)) (inner:=[.string (⟨#[]⟩:ByteArray),.string (⟨#[120]⟩:ByteArray),.string (⟨#[115,105,120,116,101,101,110,32,98,121,116,101,115,46,46,46]⟩:ByteArray)]) (ok:=fun _=>True) (okp:=fun _=>True) ?hr ?hp (fun _ hk=>hk) trivial (Below.refl _ _) (Nat.le_refl _) (by simp) ?_
       (case hd=>rfl)
       (case hg=>rfl)
       (case hr=>first|(go_simp;done)|(go_simp;rfl))
       (case hp=>exact (bT.one (show Kd.M Kd.string _ _ _ (⟨#[]⟩:ByteArray) [.string (⟨#[]⟩:ByteArray)] from rfl) (bT.one (show Kd.M Kd.string _ _ _ (⟨#[120]⟩:ByteArray) [.string (⟨#[120]⟩:ByteArray)] from rfl) (bT.one (show Kd.M Kd.string _ _ _ (⟨#[115,105,120,116,101,101,110,32,98,121,116,101,115,46,46,46]⟩:ByteArray) [.string (⟨#[115,105,120,116,101,101,110,32,98,121,116,101,115,46,46,46]⟩:ByteArray)] from rfl) (bT.none _ _)))))
       intro vV W_ bD aW _ _
       replace HS:=HS.new (A:=rA Kd.string 9 vV [(⟨#[]⟩:ByteArray),(⟨#[120]⟩:ByteArray),(⟨#[115,105,120,116,101,101,110,32,98,121,116,101,115,46,46,46]⟩:ByteArray)]) aW bD
       clear bD aW
       obtain ⟨AV,qV,rfl⟩:=HS.lz 0
       have bL:=an (HS.aI 6)
       obtain ⟨ga,iF⟩:=HS.mE.sI i1
       refine hK.out _ _ ⟨bL.1,bL.2.1,bL.2.2.1,bL.2.2.2.1,bL.2.2.2.2.1,ga⟩ (fun ah=> ?_)
       clear hK K bL ga iF
       refine cM (a':= ?_) ?_ ?_
       rotate_left
       ·show Act.put _ (some 39) _=_
        simp only [Act.put,List.setIfInBounds_toArray,List.set_cons_zero,List.set_cons_succ,bW,cA]
        rfl
       refine fJ 8 (some 40) 13 511 aA (fun K hK=> ?_)
       refine fM Tryz.func101 (by kernel_rfl) rfl #[.pointer (some ⟨g,0,none⟩),.slice AV 3 qV] (by rfl) rfl rfl (by (try simp only [List.map_toArray,List.map_cons,List.map_nil]);first|done|rfl) ?_
       have cE:=eL.calls g s e1 e2 _ _ [(⟨#[]⟩:ByteArray),(⟨#[120]⟩:ByteArray),(⟨#[115,105,120,116,101,101,110,32,98,121,116,101,115,46,46,46]⟩:ByteArray)] x g1 g2 w0 _ (HC.out.use HS).1 (HC.out.use HS).2 (HS.mA 0).2.2 (HS.mA 0).2.1 (HC.out.neR HS 0) T4.out
       refine cE.mono ?_
       clear cE ah
       rintro e W_ ⟨rfl,tu,aW,qz⟩
       refine ⟨_,rfl,?_⟩
       obtain ⟨U_,ie,nx⟩:=Cu.step (As:=[]) HC.out HS tu aW qz ⟨fun _=>0,trivial⟩
       clear HS HC tu aW qz
       have HS:=nx
       have HC:=ak ie
       clear nx ie
       dsimp only [List.cons_append,List.nil_append] at HS
       have bL:=an (HS.aI 6)
       obtain ⟨ga,iF⟩:=HS.mE.sI i1
       refine hK.out _ _ ⟨bL.1,bL.2.1,bL.2.2.1,bL.2.2.2.1,bL.2.2.2.2.1,ga⟩ (fun ah=> ?_)
       clear hK K bL ga iF
       refine cM (a':= ?_) ?_ ?_
       rotate_left
       ·show Act.put _ (some 40) _=_
        simp only [Act.put,List.setIfInBounds_toArray,List.set_cons_zero,List.set_cons_succ,bW,cA]
        rfl
       refine fJ 9 (some 41) 13 1023 aA (fun K hK=> ?_)
       clear ah
       refine Kd.iJ Kd.string _ 9 ?hg (N:=41) ?hd (xs:=([x]:List ByteArray)) (inner:=[.string x]) (ok:=fun _=>True) (okp:=fun _=>True) ?hr ?hp (fun _ hk=>hk) trivial (Below.refl _ _) (Nat.le_refl _) (by simp) ?_
       (case hd=>rfl)
       (case hg=>rfl)
       (case hr=>first|(go_simp;done)|(go_simp;rfl))
       (case hp=>exact (bT.one (show Kd.M Kd.string _ _ _ x [.string x] from rfl) (bT.none _ _)))
       intro vX W_ bD aW _ _
       replace HS:=HS.new (A:=rA Kd.string 9 vX [x]) aW bD
       clear bD aW
       obtain ⟨AX,qX,rfl⟩:=HS.lz 0
       have bL:=an (HS.aI 7)
       obtain ⟨ga,iF⟩:=HS.me.sI i1
       refine hK.out _ _ ⟨bL.1,bL.2.1,bL.2.2.1,bL.2.2.2.1,bL.2.2.2.2.1,ga⟩ (fun ah=> ?_)
       clear hK K bL ga iF
       refine cM (a':= ?_) ?_ ?_
       rotate_left
       ·show Act.put _ (some 41) _=_
        simp only [Act.put,List.setIfInBounds_toArray,List.set_cons_zero,List.set_cons_succ,bW,cA]
        rfl
       refine fJ 10 (some 42) 13 2047 aA (fun K hK=> ?_)
       clear ah
       replace HS:=HS.vm
       have HU:=(HS.mA 1).2.2
       refine Sep.append Kd.string (by rfl) (.tmp 37) (.tmp 41) 62 9 (.string ⟨#[]⟩) 16 rfl Tryz.underlying62 fu rfl (by decide) (by omega) (.slice AI I.length qI) I [x] AX 1 qX rfl rfl HS HU (fun _ _ _ _ h=>h) (by have:=LI.out;omega) ?_
       clear HS HU
       intro vI W_ HS
       rw [GJ.out] at HS
       obtain ⟨Y6,VD,rfl⟩:=HS.lz 0
       have bL:=an (HS.aI 7)
       obtain ⟨ga,iF⟩:=HS.vm.sI i1
       refine hK.out _ _ ⟨bL.1,bL.2.1,bL.2.2.1,bL.2.2.2.1,bL.2.2.2.2.1,ga⟩ (fun ah=> ?_)
       clear hK K bL ga iF
       refine cM (a':= ?_) ?_ ?_
       rotate_left
       ·show Act.put _ (some 42) _=_
        simp only [Act.put,List.setIfInBounds_toArray,List.set_cons_zero,List.set_cons_succ,bW,cA]
        rfl
       refine ag 11 (some 43) 13 4095 aA ?_
       refine lH (i:=12) (N:=none) (bl 13 8191) rfl rfl (jd aA.out (by kernel_rfl)) (by decide) (fun K hK=> ?_)
       clear ah
       obtain ⟨ga,iF⟩:=HS.vm.sI i1
       refine jV (w1:= ?_) (by rfl) rfl ?_ ?_
       rotate_left
       ·go_simp
        rfl
       clear ga iF
       replace HS:=HS.vm.TC i1 (.slice Y6 I'.length VD) rfl
       refine hK.out _ _ ?_
       clear hK K
       refine eZ (cV aA.out (by kernel_rfl)) ?_
       clear aA ef
       obtain ⟨rC,gU,gX⟩:=HS.gen
       rw [gU]
       clear HS gU
       have HS:=gX
       clear gX
       replace HS:=HS.Uk
       go_wp2
       go_meet
       have e1_:=GJ.out;have e2_:=GI.out;clear GJ GI LI;subst e1_ e2_
       replace HS:=HS.mE.tail
       replace HS:=HS.mE.tail
       rw [(@List.length_set _ m.ib 0 (m.ib.getD 0 []++[x])).symm] at HS
       case rel=>exact ⟨_,_,_,_,_,_,_,_,_,HC,HS.jR.jR.me.jR.jR.jR⟩
      ·rw [if_neg t1] at h
       have tb1:=lq t1;clear t1
       by_cases t2:t=2
       ·rw [if_pos t2] at h
        have tb2:=lO t2;clear t2
        replace h:=dy h;obtain ⟨⟨p1,hI⟩,h⟩:=h
        obtain ⟨h1,h2⟩:=(Prod.mk.injEq _ _ _ _).mp (Option.some.inj h)
        obtain ⟨h2,h3⟩:=(Prod.mk.injEq _ _ _ _).mp h2
        clear h
        subst h1 h2 h3
        obtain ⟨gg,dg,e_⟩:=HS.addr 1 (hx:=by omega)
        obtain rfl:B1=some ⟨gg,0,none⟩:=by injection e_
        clear e_
        have i1:(0:Int)<(m.ps.length:Int):=by omega
        have pi:(0<(m.ps.length:Int))=True:=eq_true i1
        have pn:(0<m.ps.length)=True:=eq_true (by omega)
        obtain ⟨AI,qI,HS⟩:=HS.mE.To i1
        obtain ⟨I,Xn⟩:∃I,m.ps.getD 0 []=I:=⟨_,rfl⟩
        rw [Xn] at HS hI
        have LI:=ak hI;have GI:=ak Xn;clear hI p1 Xn
        obtain ⟨I',hI1⟩:∃I',I++[(⟨#[115,104,111,114,116]⟩:ByteArray)]=I':=⟨_,rfl⟩
        have GJ:=ak hI1;clear hI1
        have bL:=an (HS.aI 5)
        go_upto_region 10 with fail
        clear bL
        have bL:=an (HS.aI 5)
        obtain ⟨ga,iF⟩:=HS.sI i1
        refine dV (n:=10) (S:=fun w'=>w'.cell? ⟨b3,0,none⟩=some (.slice B0 m.ks.length d0)∧w'.cell? ⟨b3,1,none⟩=some (.slice (some ⟨gg,0,none⟩) m.ps.length d1)∧w'.cell? ⟨b3,2,none⟩=some (.slice B2 m.ss.length d2)∧w'.cell? ⟨b3,3,none⟩=some (.slice B3 m.ib.length d3)∧w'.cell? ⟨b3,4,none⟩=some (.int .i64 m.sd)∧w'.cell? ⟨gg,0,none⟩=some (.slice AI I.length qI)) (ds:=[9]) (bl 10 0) (by kernel_rfl) rfl rfl ⟨bL.1,bL.2.1,bL.2.2.1,bL.2.2.2.1,bL.2.2.2.2.1,ga⟩ (fun ah=> ?_);refine bZ bC.aan bC.Yk (fun aA ef=> ?_)
        clear bL ga iF
        replace HS:=HS.drew
        generalize World.drew _=tD at HS ah⊢
        refine ag 0 (some 46) 10 1 aA ?_
        refine cg 1 (some 47) 10 3 aA ef ah ?_ (hy:=by rintro w' ⟨s0,s1,s2,s3,s4,s5⟩;go_simp;with_reducible rfl)
        refine ag 2 (some 48) 10 7 aA ?_
        refine cg 3 (some 49) 10 15 aA ef ah ?_ (hy:=by rintro w' ⟨s0,s1,s2,s3,s4,s5⟩;go_simp;with_reducible rfl)
        refine ag 4 (some 50) 10 31 aA ?_
        refine cg 5 (some 51) 10 63 aA ef ah ?_ (hy:=by rintro w' ⟨s0,s1,s2,s3,s4,s5⟩;go_simp;with_reducible rfl)
        refine fJ 6 (some 52) 10 127 aA (fun K hK=> ?_)
        clear ah
        refine Kd.iJ Kd.string _ 9 ?hg (N:=52) ?hd (xs:=([(⟨#[115,104,111,114,116]⟩:ByteArray)]:List ByteArray)) (inner:=[.string (⟨#[115,104,111,114,116]⟩:ByteArray)]) (ok:=fun _=>True) (okp:=fun _=>True) ?hr ?hp (fun _ hk=>hk) trivial (Below.refl _ _) (Nat.le_refl _) (by simp) ?_
        (case hd=>rfl)
        (case hg=>rfl)
        (case hr=>first|(go_simp;done)|(go_simp;rfl))
        (case hp=>exact (bT.one (show Kd.M Kd.string _ _ _ (⟨#[115,104,111,114,116]⟩:ByteArray) [.string (⟨#[115,104,111,114,116]⟩:ByteArray)] from rfl) (bT.none _ _)))
        intro vX W_ bD aW _ _
        replace HS:=HS.new (A:=rA Kd.string 9 vX [(⟨#[115,104,111,114,116]⟩:ByteArray)]) aW bD
        clear bD aW
        obtain ⟨AX,qX,rfl⟩:=HS.lz 0
        have bL:=an (HS.aI 6)
        obtain ⟨ga,iF⟩:=HS.mE.sI i1
        refine hK.out _ _ ⟨bL.1,bL.2.1,bL.2.2.1,bL.2.2.2.1,bL.2.2.2.2.1,ga⟩ (fun ah=> ?_)
        clear hK K bL ga iF
        refine cM (a':= ?_) ?_ ?_
        rotate_left
        ·show Act.put _ (some 52) _=_
         simp only [Act.put,List.setIfInBounds_toArray,List.set_cons_zero,List.set_cons_succ,bW,cA]
         rfl
        refine fJ 7 (some 53) 10 255 aA (fun K hK=> ?_)
        clear ah
        replace HS:=HS.me
        have HU:=(HS.mA 1).2.2
        refine Sep.append Kd.string (by rfl) (.tmp 51) (.tmp 52) 62 9 (.string ⟨#[]⟩) 16 rfl Tryz.underlying62 fu rfl (by decide) (by omega) (.slice AI I.length qI) I [(⟨#[115,104,111,114,116]⟩:ByteArray)] AX 1 qX rfl rfl HS HU (fun _ _ _ _ h=>h) (by have:=LI.out;omega) ?_
        clear HS HU
        intro vI W_ HS
        rw [GJ.out] at HS
        obtain ⟨Y6,VD,rfl⟩:=HS.lz 0
        have bL:=an (HS.aI 6)
        obtain ⟨ga,iF⟩:=HS.me.sI i1
        refine hK.out _ _ ⟨bL.1,bL.2.1,bL.2.2.1,bL.2.2.2.1,bL.2.2.2.2.1,ga⟩ (fun ah=> ?_)
        clear hK K bL ga iF
        refine cM (a':= ?_) ?_ ?_
        rotate_left
        ·show Act.put _ (some 53) _=_
         simp only [Act.put,List.setIfInBounds_toArray,List.set_cons_zero,List.set_cons_succ,bW,cA]
         rfl
        refine ag 8 (some 54) 10 511 aA ?_
        refine lH (i:=9) (N:=none) (bl 10 1023) rfl rfl (jd aA.out (by kernel_rfl)) (by decide) (fun K hK=> ?_)
        clear ah
        obtain ⟨ga,iF⟩:=HS.me.sI i1
        refine jV (w1:= ?_) (by rfl) rfl ?_ ?_
        rotate_left
        ·go_simp
         rfl
        clear ga iF
        replace HS:=HS.me.TC i1 (.slice Y6 I'.length VD) rfl
        refine hK.out _ _ ?_
        clear hK K
        refine eZ (cV aA.out (by kernel_rfl)) ?_
        clear aA ef
        obtain ⟨rC,gU,gX⟩:=HS.gen
        rw [gU]
        clear HS gU
        have HS:=gX
        clear gX
        replace HS:=HS.Uk
        go_wp2
        go_meet
        have e1_:=GJ.out;have e2_:=GI.out;clear GJ GI LI;subst e1_ e2_
        replace HS:=HS.mE.tail
        rw [(@List.length_set _ m.ps 0 (m.ps.getD 0 []++[(⟨#[115,104,111,114,116]⟩:ByteArray)])).symm] at HS
        case rel=>exact ⟨_,_,_,_,_,_,_,_,_,HC,HS.jR.jR.jR.jR.j9.jR⟩
       ·rw [if_neg t2] at h
        have tb2:=lq t2;clear t2
        obtain ⟨h1,h2⟩:=(Prod.mk.injEq _ _ _ _).mp (Option.some.inj h)
        obtain ⟨h2,h3⟩:=(Prod.mk.injEq _ _ _ _).mp h2
        clear h
        subst h1 h2 h3
        have bL:=an (HS.aI 4)
        go_wp2
        go_meet
        case rel=>exact ⟨_,_,_,_,_,_,_,_,_,HC,HS⟩
   case rest=>
     clear HS HC HH
     obtain ⟨U,B0,B1,B2,B3,d0,d1,d2,d3,HC,HS⟩:=hcut
     have bL:=an (HS.aI 4)
     have cJ:=an (HS.aI 5)
     go_wp2
     have HF:=HS.iw 5 (.slice B0 n.ks.length d0) (.slice B1 n.ps.length d1) (.slice B2 n.ss.length d2) (.slice B3 n.ib.length d3) (.int .i64 n.sd)
     refine bodyPost_ret (results_cell_row rfl _ _ b2 27 #[.slice B0 n.ks.length d0,.slice B1 n.ps.length d1,.slice B2 n.ss.length d2,.slice B3 n.ib.length d3,.int .i64 n.sd] (0,0) _ rfl (by exact (HF.aI 5).out) Tryz.underlying27 rfl (by kernel_rfl)) rfl ?_
     exact ⟨_,_,_,_,rfl,(HC.out.use HF).1,(HC.out.use HF).2,(HC.out.fin HF).1,by obtain ⟨c,hc⟩:=(HC.out.fin HF).2;exact ⟨c,dG.left (eO _ _ _ _ n) hc⟩⟩
def dr.T6:Bool×List (List Nat×List Nat):=(true,[([],[]),([],[]),([1],[1]),([2],[2]),([0,0],[0]),([3,4,0,1,2,3,4],[3])])
def dr.B6:List Nat:=[0,0,2,6,1,31]
theorem dr.FW:gz .any (opsOf Tryz.f41 6)=dr.T6:=by kernel_rfl
theorem dr.zI:dZ dr.T6.2 dr.B6=true:=by kernel_rfl
def dr.f (k:Nat) (l0:List Int):Option (Nt×mK):=(bC.f k l0 0 0).bind fun (n,a1,a2)=>(aG.f k l0 a1 a2).bind fun (l,_,_)=>some (n,if l.length=0 then ⟨2,0,(⟨#[]⟩:ByteArray)⟩ else ic l 0)
theorem dr.calls {k:Nat} {A0:Option Addr} {c0:Nat} {l0:List Int} {n:Nt} {st:mK} {w:World} (ff:Kd.C (Kd.int .u8) w A0 l0.length l0) (fL:l0.length≤c0) (h:dr.f k l0=some (n,st)):
    Calls Tryz.prog 41 #[.slice A0 l0.length c0] w fun e w'=>∃v0 v1 v2 v3:Value,e= .returned (.tuple #[.agg #[v0,v1,v2,v3,.int .i64 n.sd],.agg #[.int .i64 st.f0,.int .i64 st.f1,.string st.f2]])∧(∃c,dG c w.heap.size w' 0 (eO v0 v1 v2 v3 n))∧Below w.heap.size w w':=by
 have lg:=Tryz.underlying27
 have fZ:=ak ff;have ki:=ak fL
 clear ff fL
 have HS:=Sep.nil w
 unfold dr.f at h
 have GX:=Tryz.underlying53
 replace h:=bS h;obtain ⟨⟨n',a1,a2⟩,T0,h⟩:=h
 dsimp only at h
 replace h:=bS h;obtain ⟨⟨l,y1,y2⟩,T1,h⟩:=h
 dsimp only at h
 obtain ⟨h1,h2⟩:=(Prod.mk.injEq _ _ _ _).mp (Option.some.inj h)
 clear h
 subst h1
 have HE:=ak h2;clear h2
 go_enter Tryz.func41,Tryz.ntmps41
 have HQ:=fZ
 go_upto_region 3 with (first|((with_reducible refine av (N:=2) rfl ?_);refine bN 2 #[.slice none 0 0,.slice none 0 0,.slice none 0 0,.slice none 0 0,.int .i64 0] 27 ?_;intro b2 bK W_ bD aW;replace HS:=HS.box bK bD aW;clear bK bD aW;have cJ:=an (HS.aI 0))|((with_reducible refine av (N:=3) rfl ?_);refine bN 3 #[.int .i64 0,.int .i64 0,.string (⟨#[]⟩:ByteArray)] 53 ?_;intro b3 bK W_ bD aW;replace HS:=HS.box bK bD aW;clear bK bD aW;clear cJ;have bL:=ck (HS.aI 0))|((with_reducible refine av (N:=9) rfl ?_);refine bN 9 #[.slice A0 l0.length c0,.int .i64 0,.int .u64 0] 89 ?_;intro bc bK W_ bD aW;replace HS:=HS.box bK bD aW;clear bK bD aW;clear bL;have qF:=ck (HS.aI 0))|(go_at_call 80;have cE:=bC.calls k bc l0 0 0 n' a1 a2 w _ (ay.vG (HS.aI 0).out (HS.ge 0) HQ.out) HS.base T0.out;refine cE.mono ?_;clear cE;rintro e W_ ⟨e0,e1,e2,e3,rfl,tu,aW,qz,ie⟩;obtain ⟨A9,c9,bD,bK,FL⟩:=tu;replace HS:=(HS).tY aW qz bD ie;replace HQ:=ak FL;clear aW qz bD bK FL ie;dsimp only [eO,List.cons_append,List.nil_append] at HS;obtain ⟨B0,d0,rfl⟩:=HS.lz 0;obtain ⟨B1,d1,rfl⟩:=HS.gY 1;obtain ⟨B2,d2,rfl⟩:=HS.gY 2;obtain ⟨B3,d3,rfl⟩:=HS.gY 3;clear qF;have qF:=ck (HS.aI 4);have cJ:=an (HS.aI 6);have bL:=ck (HS.aI 5))|((with_reducible refine av (N:=5) rfl ?_);refine bN 5 #[.slice none 0 0,.slice none 0 0,.slice none 0 0,.slice none 0 0,.int .i64 0] 27 ?_;intro b5 bK W_ bD aW;replace HS:=HS.box bK bD aW;clear bK bD aW;clear qF cJ bL;have jz:=an (HS.aI 0);clear jz;have jz:=an (HS.aI 0);have qF:=ck (HS.aI 5)))
 clear jz qF
 obtain ⟨rC,gU,gX⟩:=(((((HS.cq 0 0 (.slice B0 n'.ks.length d0) #[.slice B0 n'.ks.length d0,.slice none 0 0,.slice none 0 0,.slice none 0 0,.int .i64 0]).cq 0 1 (.slice B1 n'.ps.length d1) #[.slice B0 n'.ks.length d0,.slice B1 n'.ps.length d1,.slice none 0 0,.slice none 0 0,.int .i64 0]).cq 0 2 (.slice B2 n'.ss.length d2) #[.slice B0 n'.ks.length d0,.slice B1 n'.ps.length d1,.slice B2 n'.ss.length d2,.slice none 0 0,.int .i64 0]).cq 0 3 (.slice B3 n'.ib.length d3) #[.slice B0 n'.ks.length d0,.slice B1 n'.ps.length d1,.slice B2 n'.ss.length d2,.slice B3 n'.ib.length d3,.int .i64 0]).cq 0 4 (.int .i64 n'.sd) #[.slice B0 n'.ks.length d0,.slice B1 n'.ps.length d1,.slice B2 n'.ss.length d2,.slice B3 n'.ib.length d3,.int .i64 n'.sd]).gen
 rw [gU]
 clear HS gU
 have HS:=gX
 clear gX
 have qF:=ck (HS.aI 5)
 go_upto_region 4 with (first|(go_at_call 66;have cE:=aG.calls k bc l0 a1 a2 l y1 y2 w _ (ay.vG (HS.aI 5).out (HS.ge 5) HQ.out) HS.base T1.out;refine cE.mono ?_;clear cE;rintro e W_ ⟨vst,rfl,ie,tu,aW,qz⟩;obtain ⟨A9,c9,bD,bK,FL⟩:=tu;replace HS:=(HS.jR).tY aW qz bD ⟨fun _=>0,Kd.bJ ie (fun _ _=>rfl),trivial⟩ (As:=[rA K7 53 vst l]);replace HQ:=ak FL;clear aW qz bD bK FL ie;dsimp only [eO,List.cons_append,List.nil_append] at HS;obtain ⟨Ast,cst,rfl⟩:=HS.lz 0;clear qF;have qF:=ck (HS.aI 1)))
 by_cases hl:l.length=0
 ·have h2:=HE.out;clear HE
  rw [if_pos hl] at h2
  subst h2
  have lb:((l.length:Int)==0)=true:=by rw [hl];rfl
  clear hl
  clear qF
  have jz:=an (HS.aI 2)
  have cJ:=an (HS.aI 8)
  have bL:=ck (HS.aI 7)
  go_wp2_with (first|((with_reducible refine p7 (p:=2) rfl ?_);refine n9 rfl rfl rfl (w1:= ?w1) ?hr ?_;(case hr=>go_simp;rfl);intro W_ Tr;replace HS:=(((((HS.cq 8 0 (.slice B0 n'.ks.length d0) #[.slice B0 n'.ks.length d0,.slice none 0 0,.slice none 0 0,.slice none 0 0,.int .i64 0]).cq 8 1 (.slice B1 n'.ps.length d1) #[.slice B0 n'.ks.length d0,.slice B1 n'.ps.length d1,.slice none 0 0,.slice none 0 0,.int .i64 0]).cq 8 2 (.slice B2 n'.ss.length d2) #[.slice B0 n'.ks.length d0,.slice B1 n'.ps.length d1,.slice B2 n'.ss.length d2,.slice none 0 0,.int .i64 0]).cq 8 3 (.slice B3 n'.ib.length d3) #[.slice B0 n'.ks.length d0,.slice B1 n'.ps.length d1,.slice B2 n'.ss.length d2,.slice B3 n'.ib.length d3,.int .i64 0]).cq 8 4 (.int .i64 n'.sd) #[.slice B0 n'.ks.length d0,.slice B1 n'.ps.length d1,.slice B2 n'.ss.length d2,.slice B3 n'.ib.length d3,.int .i64 n'.sd]);rw [←Tr] at HS;clear Tr;clear jz cJ bL;have bL:=ck (HS.aI 7)))
  have HF:=(((HS).cq 7 0 (.int .i64 2) #[.int .i64 2,.int .i64 0,.string (⟨#[]⟩:ByteArray)]).cq 7 1 (.int .i64 0) #[.int .i64 2,.int .i64 0,.string (⟨#[]⟩:ByteArray)]).cq 7 2 (.string (⟨#[]⟩:ByteArray)) #[.int .i64 2,.int .i64 0,.string (⟨#[]⟩:ByteArray)]
  refine bodyPost_ret (yE rfl _ _ b2 b3 27 53 #[.slice B0 n'.ks.length d0,.slice B1 n'.ps.length d1,.slice B2 n'.ss.length d2,.slice B3 n'.ib.length d3,.int .i64 n'.sd] #[.int .i64 2,.int .i64 0,.string (⟨#[]⟩:ByteArray)] (0,0) (0,0) _ _ rfl (by exact (HF.aI 8).out) Tryz.underlying27 rfl (by kernel_rfl) rfl (by exact (HF.aI 7).out) Tryz.underlying53 rfl (by kernel_rfl)) rfl ?_
  replace HS:=HF
  have HF:=HS.jw.jw.jw.jw
  exact ⟨_,_,_,_,rfl,ld HF,HF.base⟩
 ·have h2:=HE.out;clear HE
  rw [if_neg hl] at h2
  subst h2
  have lb:((l.length:Int)==0)=false:=beq_eq_false_iff_ne.2 (by omega)
  have l1:(0:Int)<(l.length:Int):=by omega
  have pl:(0<(l.length:Int))=True:=eq_true l1
  have pn:(0<l.length)=True:=eq_true (by omega)
  clear hl
  clear qF
  obtain ⟨gg,dg,e_⟩:=HS.uN 0 (hx:=by omega)
  obtain rfl:Ast=some ⟨gg,0,none⟩:=by injection e_
  clear e_
  go_upto_region 6 with fail
  have jz:=an (HS.aI 2)
  have NS:=(Sep.BF HS 0 l1).1
  have NR:=(Sep.BF HS 0 l1).2.1
  have NQ:=(Sep.BF HS 0 l1).2.2
  refine dV (n:=6) (S:=fun w'=>w'.cell? ⟨b5,0,none⟩=some (.slice B0 n'.ks.length d0)∧w'.cell? ⟨b5,1,none⟩=some (.slice B1 n'.ps.length d1)∧w'.cell? ⟨b5,2,none⟩=some (.slice B2 n'.ss.length d2)∧w'.cell? ⟨b5,3,none⟩=some (.slice B3 n'.ib.length d3)∧w'.cell? ⟨b5,4,none⟩=some (.int .i64 n'.sd)∧w'.cell? ⟨gg,0,none⟩=some (.int .i64 (ic l 0).f0)∧w'.cell? ⟨gg,1,none⟩=some (.int .i64 (ic l 0).f1)∧w'.cell? ⟨gg,2,none⟩=some (.string (ic l 0).f2)) (ds:=[5]) (bl 6 0) (by kernel_rfl) rfl rfl ⟨jz.1,jz.2.1,jz.2.2.1,jz.2.2.2.1,jz.2.2.2.2.1,NS,NR,NQ⟩ (fun ah=> ?_);refine bZ dr.FW dr.zI (fun aA ef=> ?_)
  clear jz NS NR NQ
  replace HS:=HS.drew
  generalize World.drew _=tD at HS ah⊢
  refine cg 0 (some 19) 6 1 aA ef ah ?_ (hy:=by rintro w' ⟨s0,s1,s2,s3,s4,s5,s6,s7⟩;go_simp;with_reducible rfl)
  refine ag 1 (some 20) 6 3 aA ?_
  refine ag 2 (some 21) 6 7 aA ?_
  refine cg 3 (some 22) 6 15 aA ef ah ?_ (hy:=by rintro w' ⟨s0,s1,s2,s3,s4,s5,s6,s7⟩;go_simp;with_reducible rfl)
  refine fJ 4 none 6 31 aA (fun K hK=> ?_)
  clear ah
  have cJ:=an (HS.aI 8)
  refine jV (w1:= ?_) (by rfl) rfl ?_ ?_
  rotate_left
  ·go_simp
   rfl
  replace HS:=(((((HS.cq 8 0 (.slice B0 n'.ks.length d0) #[.slice B0 n'.ks.length d0,.slice none 0 0,.slice none 0 0,.slice none 0 0,.int .i64 0]).cq 8 1 (.slice B1 n'.ps.length d1) #[.slice B0 n'.ks.length d0,.slice B1 n'.ps.length d1,.slice none 0 0,.slice none 0 0,.int .i64 0]).cq 8 2 (.slice B2 n'.ss.length d2) #[.slice B0 n'.ks.length d0,.slice B1 n'.ps.length d1,.slice B2 n'.ss.length d2,.slice none 0 0,.int .i64 0]).cq 8 3 (.slice B3 n'.ib.length d3) #[.slice B0 n'.ks.length d0,.slice B1 n'.ps.length d1,.slice B2 n'.ss.length d2,.slice B3 n'.ib.length d3,.int .i64 0]).cq 8 4 (.int .i64 n'.sd) #[.slice B0 n'.ks.length d0,.slice B1 n'.ps.length d1,.slice B2 n'.ss.length d2,.slice B3 n'.ib.length d3,.int .i64 n'.sd])
  clear cJ
  have jz:=an (HS.aI 2)
  have NS:=(Sep.BF HS 0 l1).1
  have NR:=(Sep.BF HS 0 l1).2.1
  have NQ:=(Sep.BF HS 0 l1).2.2
  refine hK.out _ _ ⟨jz.1,jz.2.1,jz.2.2.1,jz.2.2.2.1,jz.2.2.2.2.1,NS,NR,NQ⟩ (fun ah=> ?_)
  clear hK K jz NS NR NQ
  refine lH (i:=5) (N:=none) (bl 6 63) rfl rfl (jd aA.out (by kernel_rfl)) (by decide) (fun K hK=> ?_)
  clear ah
  have bL:=ck (HS.aI 7)
  refine jV (w1:= ?_) (by rfl) rfl ?_ ?_
  rotate_left
  ·go_simp
   rfl
  clear bL
  replace HS:=((HS.cq 7 0 (.int .i64 (ic l 0).f0) #[.int .i64 (ic l 0).f0,.int .i64 0,.string (⟨#[]⟩:ByteArray)]).cq 7 1 (.int .i64 (ic l 0).f1) #[.int .i64 (ic l 0).f0,.int .i64 (ic l 0).f1,.string (⟨#[]⟩:ByteArray)]).cq 7 2 (.string (ic l 0).f2) #[.int .i64 (ic l 0).f0,.int .i64 (ic l 0).f1,.string (ic l 0).f2]
  refine hK.out _ _ ?_
  clear hK K
  refine eZ (cV aA.out (by kernel_rfl)) ?_
  clear aA ef
  obtain ⟨rC,gU,gX⟩:=HS.gen
  rw [gU]
  clear HS gU
  have HS:=gX
  clear gX
  go_wp2
  have HF:=HS
  refine bodyPost_ret (yE rfl _ _ b2 b3 27 53 #[.slice B0 n'.ks.length d0,.slice B1 n'.ps.length d1,.slice B2 n'.ss.length d2,.slice B3 n'.ib.length d3,.int .i64 n'.sd] #[.int .i64 (ic l 0).f0,.int .i64 (ic l 0).f1,.string (ic l 0).f2] (0,0) (0,0) _ _ rfl (by exact (HF.aI 8).out) Tryz.underlying27 rfl (by kernel_rfl) rfl (by exact (HF.aI 7).out) Tryz.underlying53 rfl (by kernel_rfl)) rfl ?_
  replace HS:=HF
  have HF:=HS.jw.jw.jw.jw
  exact ⟨_,_,_,_,rfl,ld HF,HF.base⟩
def gO.f (k:Nat) (l0:List Int):Option Nt:=(bC.f k l0 0 0).bind fun (n,_,_)=>some n
theorem gO.calls {k:Nat} {A0:Option Addr} {c0:Nat} {l0:List Int} {n:Nt} {w:World} (ff:Kd.C (Kd.int .u8) w A0 l0.length l0) (fL:l0.length≤c0) (h:gO.f k l0=some n):
    Calls Tryz.prog 84 #[.slice A0 l0.length c0] w (uX w n):=by
 have lg:=Tryz.underlying27
 have fZ:=ak ff;have ki:=ak fL
 clear ff fL
 have HS:=Sep.nil w
 unfold gO.f at h
 replace h:=bS h;obtain ⟨⟨n',a1,a2⟩,T0,h⟩:=h
 obtain rfl:=Option.some.inj h
 clear h
 go_enter Tryz.func84,Tryz.ntmps84
 have HQ:=fZ
 go_wp2_with (first|((with_reducible refine av (N:=2) rfl ?_);refine bN 2 #[.slice none 0 0,.slice none 0 0,.slice none 0 0,.slice none 0 0,.int .i64 0] 27 ?_;intro b2 bK W_ bD aW;replace HS:=HS.box bK bD aW;clear bK bD aW;have cJ:=an (HS.aI 0))|((with_reducible refine av (N:=6) rfl ?_);refine bN 6 #[.slice A0 l0.length c0,.int .i64 0,.int .u64 0] 89 ?_;intro bc bK W_ bD aW;replace HS:=HS.box bK bD aW;clear bK bD aW;clear cJ;have qF:=ck (HS.aI 0))|(go_at_call 80;have cE:=bC.calls k bc l0 0 0 n' a1 a2 w _ (ay.vG (HS.aI 0).out (HS.ge 0) HQ.out) HS.base T0.out;refine cE.mono ?_;clear cE;rintro e W_ ⟨e0,e1,e2,e3,rfl,tu,aW,qz,ie⟩;obtain ⟨A9,c9,bD,bK,FL⟩:=tu;replace HS:=(HS).tY aW qz bD ie;replace HQ:=ak FL;clear aW qz bD bK FL ie;dsimp only [eO,List.cons_append,List.nil_append] at HS;obtain ⟨B0,d0,rfl⟩:=HS.lz 0;obtain ⟨B1,d1,rfl⟩:=HS.gY 1;obtain ⟨B2,d2,rfl⟩:=HS.gY 2;obtain ⟨B3,d3,rfl⟩:=HS.gY 3;clear qF;have qF:=ck (HS.aI 4);have cJ:=an (HS.aI 5)))
 have HF:=HS.iw 5 (.slice B0 n'.ks.length d0) (.slice B1 n'.ps.length d1) (.slice B2 n'.ss.length d2) (.slice B3 n'.ib.length d3) (.int .i64 n'.sd)
 refine bodyPost_ret (results_cell_row rfl _ _ b2 27 #[.slice B0 n'.ks.length d0,.slice B1 n'.ps.length d1,.slice B2 n'.ss.length d2,.slice B3 n'.ib.length d3,.int .i64 n'.sd] (0,0) _ rfl (by exact (HF.aI 5).out) Tryz.underlying27 rfl (by kernel_rfl)) rfl ?_
 replace HS:=HF
 have HF:=HS
 exact ⟨_,_,_,_,rfl,ld HF,HF.base⟩
def gM.f (k:Nat) (l0:List Int):Option Nt:=gO.f k l0
theorem gM.calls {k:Nat} {A0:Option Addr} {c0:Nat} {l0:List Int} {n:Nt} {w:World} (ff:Kd.C (Kd.int .u8) w A0 l0.length l0) (fL:l0.length≤c0) (h:gM.f k l0=some n):
    Calls Tryz.prog 43 #[.slice A0 l0.length c0] w (uX w n):=by
 have lg:=Tryz.underlying27
 have fZ:=ak ff;have ki:=ak fL
 clear ff fL
 have HS:=Sep.nil w
 unfold gM.f at h
 go_enter Tryz.func43,Tryz.ntmps43
 go_wp2_with (first|((with_reducible refine av (N:=2) rfl ?_);refine bN 2 #[.slice none 0 0,.slice none 0 0,.slice none 0 0,.slice none 0 0,.int .i64 0] 27 ?_;intro b2 bK W_ bD aW;replace HS:=HS.box bK bD aW;clear bK bD aW;have cJ:=an (HS.aI 0))|(go_at_call 84;have cE:=gO.calls (Kd.aD fZ.out HS.base) ki.out h;refine cE.mono ?_;clear cE;rintro e W_ ⟨e0,e1,e2,e3,rfl,ie,aW⟩;replace HS:=HS.news aW ie;clear ie aW;dsimp only [eO,List.cons_append,List.nil_append] at HS;obtain ⟨B0,d0,rfl⟩:=HS.lz 0;obtain ⟨B1,d1,rfl⟩:=HS.gY 1;obtain ⟨B2,d2,rfl⟩:=HS.gY 2;obtain ⟨B3,d3,rfl⟩:=HS.gY 3;clear cJ;have cJ:=an (HS.aI 4)))
 have HF:=HS.iw 4 (.slice B0 n.ks.length d0) (.slice B1 n.ps.length d1) (.slice B2 n.ss.length d2) (.slice B3 n.ib.length d3) (.int .i64 n.sd)
 refine bodyPost_ret (results_cell_row rfl _ _ b2 27 #[.slice B0 n.ks.length d0,.slice B1 n.ps.length d1,.slice B2 n.ss.length d2,.slice B3 n.ib.length d3,.int .i64 n.sd] (0,0) _ rfl (by exact (HF.aI 4).out) Tryz.underlying27 rfl (by kernel_rfl)) rfl ?_
 replace HS:=HF
 have HF:=HS
 exact ⟨_,_,_,_,rfl,ld HF,HF.base⟩
def dF.l0:Nat→Int→List (List ByteArray)→Int→Int→Option (Int×Bool)
  |0,_,_,_,_=>none
  |k+1,x4,qE,Mj,iz=>if iz<Mj then (if 0≤iz then (if iz<(qE.length:Int) then (dF.l0 k (wrap64 (x4+((aN qE iz).length:Int))) qE Mj (wrap64 (iz+1))) else (none)) else (none)) else (some (x4,true))
def dF.f (k:Nat) (bn:List Int) (aU:List (List ByteArray)) (bu:List (List ByteArray)) (aM:List (List ByteArray)) (bR:Int):Option (Int×Bool):=(aj.f k bn aU bu aM bR).bind fun My=>(if My=true then (dF.l0 k 0 aU (aU.length:Int) 0) else (some (0,false)))
theorem dF.calls (k:Nat) (fV:Option Addr) (fT:Nat) (bn:List Int) (gv:Option Addr) (fS:Nat) (aU:List (List ByteArray)) (fU:Option Addr) (fR:Nat) (bu:List (List ByteArray)) (gB:Option Addr) (fQ:Nat) (aM:List (List ByteArray)) (bR:Int) (r1:Int) (r2:Bool) (w:World) (jE:Kd.C (Kd.int .i64) w fV bn.length bn) (jI:bn.length≤fT) (jD:Kd.C (Kd.slice 9 Kd.string) w gv aU.length aU) (jH:aU.length≤fS) (jC:Kd.C (Kd.slice 9 Kd.string) w fU bu.length bu) (jG:bu.length≤fR) (jB:Kd.C (Kd.slice 9 Kd.string) w gB aM.length aM) (jF:aM.length≤fQ) (h:dF.f k bn aU bu aM bR=some (r1,r2)):
  Calls Tryz.prog 44 #[.agg #[.slice fV bn.length fT,.slice gv aU.length fS,.slice fU bu.length fR,.slice gB aM.length fQ,.int .i64 bR]] w fun e w'=>e= .returned (.tuple #[.int .i64 r1,.bool r2])∧Below w.heap.size w w':=by
 have lg:=Tryz.underlying27
 have gE:=ak jE;have gF:=ak jI;clear jE jI;have iM:=ak jD;have jx:=ak jH;clear jD jH;have iy:=ak jC;have jK:=ak jG;clear jC jG;have iL:=ak jB;have jY:=ak jF;clear jB jF
 have HB:=ak (Below.refl w.heap.size w)
 have H:((aj.f k bn aU bu aM bR).bind fun My=>(if My=true then (dF.l0 k 0 aU (aU.length:Int) 0) else (some (0,false))))=some (r1,r2):=h
 clear h;replace H:=bS H;obtain ⟨My,A2,H⟩:=H
 by_cases c3:My=true
 ·subst c3
  have H1:(dF.l0 k 0 aU (aU.length:Int) 0)=some (r1,r2):=by rw [if_pos rfl] at H;exact H
  clear H
  have H:=H1
  clear H1
  have H':=ak H
  clear H
  go_enter Tryz.func44,Tryz.ntmps44
  go_wp2_with (first|((with_reducible refine av (N:=1) rfl ?_);refine bN 1 #[.slice fV bn.length fT,.slice gv aU.length fS,.slice fU bu.length fR,.slice gB aM.length fQ,.int .i64 bR] 27 ?_;intro TT hg w4 eI hb;have rO:=ak (eI);have ad6:=ak (mX hg (aq HB));have Aa:=ak (mX hg (aq HB));replace HB:=ak (aH (aq HB) hb);clear hb eI hg;obtain ⟨Om,Ol,Ok,Xd,Xc,WN,Of,Oe,WM,WL⟩:=an rO)|(go_at_call 42;(with_reducible refine (aj.calls k _ _ bn _ _ aU _ _ bu _ _ aM bR true _ ?side1 ?side2 ?side3 ?side4 ?side5 ?side6 ?side7 ?side8 A2.out).mono ?_);(case side1=>exact cd (Kd.aD gE.out HB.out));(case side2=>exact gF.out);(case side3=>exact cd (Kd.aD iM.out HB.out));(case side4=>exact jx.out);(case side5=>exact cd (Kd.aD iy.out HB.out));(case side6=>exact jK.out);(case side7=>exact cd (Kd.aD iL.out HB.out));(case side8=>exact jY.out);rintro e w6 ⟨rfl,hb⟩;replace rO:=ak (cW (dm rO) hb);replace HB:=ak (aH (az HB Aa) hb);(try clear hb);obtain ⟨Xb,Xa,W9,W8,W7,WK,WJ,WI,WH,WG⟩:=an rO))
  go_loopg [4,13] k (fun kq v4 QB w'=>∃(gJ:Int) (dL:Int),v4= .int .i64 gJ∧QB= .int .i64 dL∧Aside0 (dF.l0 kq gJ aU (aU.length:Int) dL=some (r1,r2))∧Aside0 (kq≤k)∧Aside0 (w'.heap[TT]? =some (.cells #[(.slice fV bn.length fT),(.slice gv aU.length fS),(.slice fU bu.length fR),(.slice gB aM.length fQ),.int .i64 bR] 27 (0,0)))∧Aside0 (Below w.heap.size w w'))
  case atStart=>exact ⟨(0),(0),er,er,H',⟨Nat.le_refl _⟩,⟨dm rO⟩,⟨az HB Aa⟩⟩
  case round=>
   clear H'
   (try clear c3);(try clear Om);(try clear Ol);(try clear Ok);(try clear Xd);(try clear Xc);(try clear Xb);(try clear Xa);(try clear W9);(try clear W8);(try clear W7);(try clear WN);(try clear Of);(try clear Oe);(try clear WM);(try clear WL);(try clear WK);(try clear WJ);(try clear WI);(try clear WH);(try clear WG)
   obtain ⟨gJ,dL,rfl,rfl,HA,gf,rO,HB⟩:=hrel
   cases gk with
   |zero=>exact absurd HA.out (by simp [dF.l0])
   |succ k1=>
    have H:=HA.out;clear HA
    simp only [dF.l0] at H
    by_cases c8:dL<(aU.length:Int)
    ·rw [if_pos c8] at H
     have xw:=decide_eq_true c8
     clear c8;replace H:=dy H;obtain ⟨c9,H⟩:=H;have mg:=decide_eq_true c9;clear c9;replace H:=dy H;obtain ⟨gW,H⟩:=H;have kY:=decide_eq_true gW;clear gW
     have H':=ak H
     clear H
     have VS:0≤(dL:Int):=da
     have VE:dL<(aU.length:Int):=da
     obtain ⟨aiH,ahY,ahy,agX,CJ,Jb,Jp⟩:=ke iM.out dL VS VE
     cases agX
     replace CJ:=(HB.out.cell (World.block_lt_of_cell? w _ CJ)).trans CJ
     have aes:=ak Jp;have aev:=ak Jb;clear Jp Jb;replace VS:=eq_true VS;replace VE:=eq_true VE;go_wp2
     go_roundg k1
     case measure=>have:=gf.out;omega
     case rel=>exact ⟨(wrap64 (gJ+((aN aU dL).length:Int))),(wrap64 (dL+1)),er,er,H',⟨by have:=gf.out;omega⟩,⟨dm rO⟩,⟨az HB Aa⟩⟩
    ·rw [if_neg c8] at H
     have xw:=decide_eq_false c8
     clear c8
     simp only [Option.some.injEq,Prod.mk.injEq] at H
     obtain ⟨rfl,rfl⟩:=H;go_wp2
     go_ret2
     exact ⟨kK,az HB Aa⟩
 ·replace c3:=Bool.eq_false_iff.mpr c3
  subst c3
  have H1:(some (0,false))=some (r1,r2):=by rw [if_neg (show¬(false=true) by decide)] at H;exact H
  clear H
  have H:=H1
  clear H1
  simp only [Option.some.injEq,Prod.mk.injEq] at H
  obtain ⟨rfl,rfl⟩:=H
  go_enter Tryz.func44,Tryz.ntmps44
  go_wp2_with (first|((with_reducible refine av (N:=1) rfl ?_);refine bN 1 #[.slice fV bn.length fT,.slice gv aU.length fS,.slice fU bu.length fR,.slice gB aM.length fQ,.int .i64 bR] 27 ?_;intro TT hg Vh eI hb;have rO:=ak (eI);have ad6:=ak (mX hg (aq HB));have Aa:=ak (mX hg (aq HB));replace HB:=ak (aH (aq HB) hb);clear hb eI hg;have Mk:=an rO)|(go_at_call 42;(with_reducible refine (aj.calls k _ _ bn _ _ aU _ _ bu _ _ aM bR false _ ?side1 ?side2 ?side3 ?side4 ?side5 ?side6 ?side7 ?side8 A2.out).mono ?_);(case side1=>exact cd (Kd.aD gE.out HB.out));(case side2=>exact gF.out);(case side3=>exact cd (Kd.aD iM.out HB.out));(case side4=>exact jx.out);(case side5=>exact cd (Kd.aD iy.out HB.out));(case side6=>exact jK.out);(case side7=>exact cd (Kd.aD iL.out HB.out));(case side8=>exact jY.out);rintro e w13 ⟨rfl,hb⟩;replace rO:=ak (cW (dm rO) hb);replace HB:=ak (aH (az HB Aa) hb);(try clear hb)))
  go_ret2
  exact ⟨kK,az HB Aa⟩
def gN.f (k:Nat) (l0:List Int):Option (Nt×Int):=(bC.f k l0 0 0).bind fun (n,a1,a2)=>(aY.f l0 a1 a2 6).bind fun (u,_,_)=>some (n,wrap64 (u-1))
theorem gN.calls {k:Nat} {A0:Option Addr} {c0:Nat} {l0:List Int} {n:Nt} {u:Int} {w:World} (ff:Kd.C (Kd.int .u8) w A0 l0.length l0) (fL:l0.length≤c0) (h:gN.f k l0=some (n,u)):
    Calls Tryz.prog 45 #[.slice A0 l0.length c0] w fun e w'=>∃v0 v1 v2 v3:Value,e= .returned (.tuple #[.agg #[v0,v1,v2,v3,.int .i64 n.sd],.int .i64 u])∧(∃c,dG c w.heap.size w' 0 (eO v0 v1 v2 v3 n))∧Below w.heap.size w w':=by
 have lg:=Tryz.underlying27
 have fZ:=ak ff;have ki:=ak fL
 clear ff fL
 have HS:=Sep.nil w
 unfold gN.f at h
 replace h:=bS h;obtain ⟨⟨n',a1,a2⟩,T0,h⟩:=h
 dsimp only at h
 replace h:=bS h;obtain ⟨⟨u',y1,y2⟩,T1,h⟩:=h
 dsimp only at h
 obtain ⟨h1,h2⟩:=(Prod.mk.injEq _ _ _ _).mp (Option.some.inj h)
 clear h
 subst h1 h2
 go_enter Tryz.func45,Tryz.ntmps45
 have HQ:=fZ
 go_wp2_with (first|((with_reducible refine av (N:=2) rfl ?_);refine bN 2 #[.slice none 0 0,.slice none 0 0,.slice none 0 0,.slice none 0 0,.int .i64 0] 27 ?_;intro b2 bK W_ bD aW;replace HS:=HS.box bK bD aW;clear bK bD aW;have cJ:=an (HS.aI 0))|((with_reducible refine av (N:=7) rfl ?_);refine bN 7 #[.slice A0 l0.length c0,.int .i64 0,.int .u64 0] 89 ?_;intro bc bK W_ bD aW;replace HS:=HS.box bK bD aW;clear bK bD aW;clear cJ;have qF:=ck (HS.aI 0))|(go_at_call 80;have cE:=bC.calls k bc l0 0 0 n' a1 a2 w _ (ay.vG (HS.aI 0).out (HS.ge 0) HQ.out) HS.base T0.out;refine cE.mono ?_;clear cE;rintro e W_ ⟨e0,e1,e2,e3,rfl,tu,aW,qz,ie⟩;obtain ⟨A9,c9,bD,bK,FL⟩:=tu;replace HS:=(HS).tY aW qz bD ie;replace HQ:=ak FL;clear aW qz bD bK FL ie;dsimp only [eO,List.cons_append,List.nil_append] at HS;obtain ⟨B0,d0,rfl⟩:=HS.lz 0;obtain ⟨B1,d1,rfl⟩:=HS.gY 1;obtain ⟨B2,d2,rfl⟩:=HS.gY 2;obtain ⟨B3,d3,rfl⟩:=HS.gY 3;clear qF;have qF:=ck (HS.aI 4);have cJ:=an (HS.aI 5))|(go_at_call 78;have cE:=aY.calls bc l0 a1 a2 6 u' y1 y2 w _ (ay.vG (HS.aI 4).out (HS.ge 4) HQ.out) HS.base T1.out;refine cE.mono ?_;clear cE;rintro e W_ ⟨rfl,tu,aW,qz⟩;obtain ⟨A9,c9,bD,bK,FL⟩:=tu;replace HS:=(HS.j9).K6 aW qz bD;replace HQ:=ak FL;clear aW qz bD bK FL;clear qF cJ;have cJ:=an (HS.aI 5)))
 have HF:=HS.iw 5 (.slice B0 n'.ks.length d0) (.slice B1 n'.ps.length d1) (.slice B2 n'.ss.length d2) (.slice B3 n'.ib.length d3) (.int .i64 n'.sd)
 refine bodyPost_ret (cK rfl _ _ b2 27 #[.slice B0 n'.ks.length d0,.slice B1 n'.ps.length d1,.slice B2 n'.ss.length d2,.slice B3 n'.ib.length d3,.int .i64 n'.sd] (0,0) _ rfl (by exact (HF.aI 5).out) Tryz.underlying27 rfl (by kernel_rfl)) rfl ?_
 replace HS:=HF
 have HF:=HS.j9.j9.j9.j9
 exact ⟨_,_,_,_,rfl,ld HF,HF.base⟩
end Go.Proofs.YtihekdlcfohkkaaGreatDoor.QFnNets
