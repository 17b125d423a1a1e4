-- printed by this session's own program (wip/tools/pp.py: the kit's print.py with changes); Lean checks it
import Derived.Test.YtihekdlcfohkkaaGreatDoorQFnNetx0
import Derived.Test.YtihekdlcfohkkaaGreatDoorQFnNetx2
import Derived.Test.YtihekdlcfohkkaaGreatDoorQFnNetx3
import Derived.Test.YtihekdlcfohkkaaGreatDoorQFnNetx4
import Derived.Test.YtihekdlcfohkkaaGreatDoorQFnNetx5
namespace Go.Proofs.YtihekdlcfohkkaaGreatDoor.QFnNet
open Go.RowKit Go.Proofs.YtihekdlcfohkkaaGreatDoorW.PrintWords Go.Proofs.YtihekdlcfohkkaaGreatDoorW.PrintLast Go.Proofs.YtihekdlcfohkkaaGreatDoorW.PrintMore
attribute [local go_sem] max2_int min2_int max_two min_two max_three min_three max_four min_four strLss strGtr strLeq strGeq
set_option linter.unusedVariables false
set_option linter.unusedSimpArgs false
set_option maxHeartbeats 16000000
set_option maxRecDepth 100000
def bJ.T3:Bool×List (List Nat×List Nat):=(true,[([],[]),([0],[0]),([],[]),([],[]),([3],[3]),([],[]),([4,5],[4,5]),([6],[6]),([],[]),([7,8],[7,8]),([1,2,0,1,2,3,4,5,6,7,8,9],[1,2]),([10,9,9,0,1,2,3,4,5,6,7,8,9],[9,10])])
def bJ.B3:List Nat:=[0,1,0,0,8,0,56,120,0,504,1023,2047]
theorem bJ.KK:gq .any (opsOf Tryz.f89 3)=bJ.T3:=by kernel_rfl
theorem bJ.DV:eF bJ.T3.2 bJ.B3=true:=by kernel_rfl
def bJ.T4:Bool×List (List Nat×List Nat):=(true,[([],[]),([0],[0]),([],[]),([],[]),([3],[3]),([],[]),([4,5],[4,5]),([6],[6]),([],[]),([7,8],[7,8]),([1,2,0,1,2,3,4,5,6,7,8,9],[1,2]),([10,9,9,0,1,2,3,4,5,6,7,8,9],[9,10])])
def bJ.B4:List Nat:=[0,1,0,0,8,0,56,120,0,504,1023,2047]
theorem bJ.Ao:gq .any (opsOf Tryz.f89 4)=bJ.T4:=by kernel_rfl
theorem bJ.uh:eF bJ.T4.2 bJ.B4=true:=by kernel_rfl
def bJ.f (k:Nat) (n:Nt) (i:Int) (s:ByteArray):Option Nt:=if 0≤i∧i<(n.ps.length:Int)∧i<(n.ss.length:Int) then (ep.f k (n.ss.getD i.toNat []) s).bind fun b=>if b=true∨(n.ss.getD i.toNat []).length=100 then some n else (ek.f k (n.ss.getD i.toNat []) s).bind fun S=>(ek.f k (n.ps.getD i.toNat []) s).bind fun P=>some ⟨n.ks,n.ps.set i.toNat P,n.ss.set i.toNat S,n.ib,n.sd⟩ else none
theorem bJ.keeps {k:Nat} {n m:Nt} {i:Int} {s:ByteArray} (h:bJ.f k n i s=some m):m.ks=n.ks∧m.ib=n.ib∧m.sd=n.sd:=by
 unfold bJ.f at h
 replace h:=cZ h;obtain ⟨-,h⟩:=h
 replace h:=bS h;obtain ⟨b,-,h⟩:=h
 split at h
 ·obtain rfl:=Option.some.inj h;exact ⟨rfl,rfl,rfl⟩
 ·replace h:=bS h;obtain ⟨_,-,h⟩:=h;replace h:=bS h;obtain ⟨_,-,h⟩:=h;obtain rfl:=Option.some.inj h;exact ⟨rfl,rfl,rfl⟩
theorem bJ.calls {k:Nat} {v0 v1 v2 v3:Value} {n m:Nt} {i:Int} {s:ByteArray} {L:List SA} {w0 w:World} (hs:Sep w0 w (fH v0 v1 v2 v3 n++L)) (h:bJ.f k n i s=some m):
    Calls Tryz.prog 89 #[.agg #[v0,v1,v2,v3,.int .i64 n.sd],.int .i64 i,.string s] w fun e w'=>e= .returned (.agg #[v0,v1,v2,v3,.int .i64 n.sd])∧Sep w0 w' (fH v0 v1 v2 v3 m++L):=by
 have mX:=Tryz.underlying27
 obtain ⟨ks,ps,ss,ib,sd⟩:=n
 have HS:Sep w0 w (rA KI 3 v0 ks::sA KT 62 v1 ps::sA KT 62 v2 ss::sA KT 62 v3 ib::L):=hs
 clear hs
 unfold bJ.f at h
 dsimp only at h⊢
 replace h:=cZ h;obtain ⟨⟨i0,i1,i2⟩,h⟩:=h
 obtain ⟨A0,c0,rfl⟩:=HS.lJ 0
 obtain ⟨A3,c3,rfl⟩:=HS.jZ 3
 obtain ⟨g1,q1,rfl⟩:=HS.addr 1 (hx:=by omega)
 obtain ⟨g2,q2,rfl⟩:=HS.addr 2 (hx:=by omega)
 have p0:(0≤i)=True:=eq_true i0
 have p1:(i<(ps.length:Int))=True:=eq_true i1
 have p2:(i<(ss.length:Int))=True:=eq_true i2
 obtain ⟨AP,qP,HS,-,-⟩:=HS.m7.zf i i0 i1
 obtain ⟨AS,qS,HS,-,-⟩:=HS.ya.zf i i0 i2
 generalize hS:ss.getD i.toNat []=S at HS h
 generalize hP:ps.getD i.toNat []=P at HS h
 have GS:=ak hS;have GP:=ak hP;clear hS hP
 replace h:=bS h;obtain ⟨b,T1,h⟩:=h
 by_cases hb:b=true∨S.length=100
 ·rw [if_pos hb] at h
  obtain rfl:=Option.some.inj h
  clear h
  have hl:b=false→((S.length:Int)==100)=true:=fun e=>beq_iff_eq.2 (by rcases hb with h|h;(rw [e] at h;cases h);omega)
  clear hb
  cases b
  all_goals
   first|replace hl:=hl rfl|clear hl
   go_enter Tryz.func89,Tryz.ntmps89
   go_wp2_with (first|((with_reducible refine ax (N:=3) rfl ?_);refine cm 3 #[.slice A0 ks.length c0,.slice (some ⟨g1,0,none⟩) ps.length q1,.slice (some ⟨g2,0,none⟩) ss.length q2,.slice A3 ib.length c3,.int .i64 sd] 27 ?_;intro b3 cg W_ bQ bn;replace HS:=HS.box cg bQ bn;clear cg bQ bn;have cR:=aD (HS.bf 0))|((with_reducible refine ax (N:=6) rfl ?_);refine cm 6 #[.slice none 0 0,.slice none 0 0,.slice none 0 0,.slice none 0 0,.int .i64 0] 27 ?_;intro b6 cg W_ bQ bn;replace HS:=HS.box cg bQ bn;clear cg bQ bn;clear cR;have oW:=aD (HS.bf 0);clear oW;have oW:=aD (HS.bf 0);have cR:=aD (HS.bf 1);obtain ⟨gf,iR⟩:=HS.mN.hole i0 i2)|(go_at_call 83;have dj:=ep.calls k _ _ S s _ _ (HS.jb 3).2.2 (HS.jb 3).2.1 T1.out;refine dj.mono ?_;clear dj;rintro e W_ ⟨rfl,gX,rfl⟩;replace HS:=HS.drewN gX;generalize World.drewN _ gX=W_ at HS⊢;clear oW cR gf iR;have oW:=aD (HS.bf 0);have cR:=aD (HS.bf 1);obtain ⟨gf,iR⟩:=HS.mN.hole i0 i2))
   have HF:=HS.ko 0 (.slice A0 ks.length c0) (.slice (some ⟨g1,0,none⟩) ps.length q1) (.slice (some ⟨g2,0,none⟩) ss.length q2) (.slice A3 ib.length c3) (.int .i64 sd)
   refine bodyPost_ret (results_cell_row rfl _ _ b6 27 #[.slice A0 ks.length c0,.slice (some ⟨g1,0,none⟩) ps.length q1,.slice (some ⟨g2,0,none⟩) ss.length q2,.slice A3 ib.length c3,.int .i64 sd] (0,0) _ rfl (by exact (HF.bf 0).out) Tryz.underlying27 rfl (by kernel_rfl)) rfl ?_
   replace HS:=HF
   replace HS:=HS.ya.ya.rY GS
   replace HS:=HS.mM.mM.rY GP
   replace HS:=HS.mN.tail
   replace HS:=HS.mN.tail
   exact ⟨rfl,HS.ya.mN.mN.ya⟩
 ·rw [if_neg hb] at h
  obtain ⟨PS,PR⟩:=not_or.1 hb
  obtain rfl:b=false:=by simpa using PS
  have hl:((S.length:Int)==100)=false:=beq_eq_false_iff_ne.2 (fun e=>PR (by omega))
  clear hb PS PR
  replace h:=bS h;obtain ⟨S',T2,h⟩:=h
  replace h:=bS h;obtain ⟨P',T3,h⟩:=h
  obtain rfl:=Option.some.inj h
  clear h
  go_enter Tryz.func89,Tryz.ntmps89
  go_upto_region 3 with (first|((with_reducible refine ax (N:=3) rfl ?_);refine cm 3 #[.slice A0 ks.length c0,.slice (some ⟨g1,0,none⟩) ps.length q1,.slice (some ⟨g2,0,none⟩) ss.length q2,.slice A3 ib.length c3,.int .i64 sd] 27 ?_;intro b3 cg W_ bQ bn;replace HS:=HS.box cg bQ bn;clear cg bQ bn;have cR:=aD (HS.bf 0))|((with_reducible refine ax (N:=6) rfl ?_);refine cm 6 #[.slice none 0 0,.slice none 0 0,.slice none 0 0,.slice none 0 0,.int .i64 0] 27 ?_;intro b6 cg W_ bQ bn;replace HS:=HS.box cg bQ bn;clear cg bQ bn;clear cR;have oW:=aD (HS.bf 0);clear oW;have oW:=aD (HS.bf 0);have cR:=aD (HS.bf 1);obtain ⟨gf,iR⟩:=HS.mN.hole i0 i2)|(go_at_call 83;have dj:=ep.calls k _ _ S s _ _ (HS.jb 3).2.2 (HS.jb 3).2.1 T1.out;refine dj.mono ?_;clear dj;rintro e W_ ⟨rfl,gX,rfl⟩;replace HS:=HS.drewN gX;generalize World.drewN _ gX=W_ at HS⊢;clear oW cR gf iR;have oW:=aD (HS.bf 0);have cR:=aD (HS.bf 1);obtain ⟨gf,iR⟩:=HS.mN.hole i0 i2))
  clear oW cR gf iR
  have cR:=aD (HS.bf 1)
  obtain ⟨gf,iR⟩:=HS.mN.hole i0 i2
  refine ef (n:=12) (S:=fun w'=>w'.cell? ⟨b3,0,none⟩=some (.slice A0 ks.length c0)∧w'.cell? ⟨b3,1,none⟩=some (.slice (some ⟨g1,0,none⟩) ps.length q1)∧w'.cell? ⟨b3,2,none⟩=some (.slice (some ⟨g2,0,none⟩) ss.length q2)∧w'.cell? ⟨b3,3,none⟩=some (.slice A3 ib.length c3)∧w'.cell? ⟨b3,4,none⟩=some (.int .i64 sd)∧w'.cell? ⟨g2,i.toNat,none⟩=some (.slice AS S.length qS)) (ds:=[11]) (bl 12 0) (by kernel_rfl) rfl rfl ⟨cR.1,cR.2.1,cR.2.2.1,cR.2.2.2.1,cR.2.2.2.2.1,gf⟩ (fun an=> ?_);refine bW bJ.KK bJ.DV (fun aC eE=> ?_)
  clear cR gf iR
  replace HS:=HS.drew
  generalize World.drew _=vO at HS an⊢
  refine ag 0 (some 24) 12 1 aC ?_
  refine cl 1 (some 25) 12 3 aC eE an ?_ (hy:=by rintro w' ⟨s0,s1,s2,s3,s4,s5⟩;go_simp;with_reducible rfl)
  refine ag 2 (some 26) 12 7 aC ?_
  refine ag 3 (some 27) 12 15 aC ?_
  refine cl 4 (some 28) 12 31 aC eE an ?_ (hy:=by rintro w' ⟨s0,s1,s2,s3,s4,s5⟩;go_simp;with_reducible rfl)
  refine ag 5 (some 29) 12 63 aC ?_
  refine ag 6 (some 30) 12 127 aC ?_
  refine cl 7 (some 31) 12 255 aC eE an ?_ (hy:=by rintro w' ⟨s0,s1,s2,s3,s4,s5⟩;go_simp;with_reducible rfl)
  refine ag 8 (some 32) 12 511 aC ?_
  refine gv 9 (some 33) 12 1023 aC (fun K hK=> ?_)
  refine gw Tryz.func114 (by kernel_rfl) rfl #[.slice AS S.length qS,.string s] (by rfl) rfl rfl (by (try simp only [List.map_toArray,List.map_cons,List.map_nil]);first|done|rfl) ?_
  have dj:=ek.calls k _ _ S s S' _ (HS.jb 3).2.2 (HS.jb 3).2.1 T2.out
  refine dj.mono ?_
  clear dj an
  rintro e W_ ⟨u_,rfl,bQ,bn⟩
  refine ⟨_,rfl,?_⟩
  replace HS:=HS.new (A:=rA Kd.string 9 u_ S') bn bQ
  obtain ⟨AS1,qS1,rfl⟩:=HS.lJ 0
  clear bQ bn
  have cR:=aD (HS.bf 2)
  obtain ⟨gf,iR⟩:=HS.ya.hole i0 i2
  refine hK.out _ _ ⟨cR.1,cR.2.1,cR.2.2.1,cR.2.2.2.1,cR.2.2.2.2.1,gf⟩ (fun an=> ?_)
  clear hK K cR gf iR
  refine dF (a':= ?_) ?_ ?_
  rotate_left
  ·show Act.put _ (some 33) _=_
   simp only [Act.put,List.setIfInBounds_toArray,List.set_cons_zero,List.set_cons_succ,bX,cL]
   rfl
  refine ag 10 (some 34) 12 2047 aC ?_
  refine mm (i:=11) (N:=none) (bl 12 4095) rfl rfl (jH aC.out (by kernel_rfl)) (by decide) (fun K hK=> ?_)
  clear an
  obtain ⟨gf,iR⟩:=HS.ya.hole i0 i2
  refine kW (w1:= ?_) (by rfl) rfl ?_ ?_
  rotate_left
  ·go_simp
   rfl
  clear gf iR
  replace HS:=HS.ya.Dk i0 i2 (.slice AS1 S'.length qS1) rfl
  refine hK.out _ _ ?_
  clear hK K
  refine fm (cW aC.out (by kernel_rfl)) ?_
  clear aC eE
  obtain ⟨uI,iW,iZ⟩:=HS.gen
  rw [iW]
  clear HS iW
  have HS:=iZ
  clear iZ
  replace HS:=HS.back
  replace HS:=HS.ya.tail
  go_upto_region 4 with fail
  have cR:=aD (HS.bf 2)
  obtain ⟨mF,pL⟩:=HS.ya.hole i0 i1
  refine ef (n:=12) (S:=fun w'=>w'.cell? ⟨b3,0,none⟩=some (.slice A0 ks.length c0)∧w'.cell? ⟨b3,1,none⟩=some (.slice (some ⟨g1,0,none⟩) ps.length q1)∧w'.cell? ⟨b3,2,none⟩=some (.slice (some ⟨g2,0,none⟩) ss.length q2)∧w'.cell? ⟨b3,3,none⟩=some (.slice A3 ib.length c3)∧w'.cell? ⟨b3,4,none⟩=some (.int .i64 sd)∧w'.cell? ⟨g1,i.toNat,none⟩=some (.slice AP P.length qP)) (ds:=[11]) (bl 12 0) (by kernel_rfl) rfl rfl ⟨cR.1,cR.2.1,cR.2.2.1,cR.2.2.2.1,cR.2.2.2.2.1,mF⟩ (fun an=> ?_);refine bW bJ.Ao bJ.uh (fun aC eE=> ?_)
  clear cR mF pL
  replace HS:=HS.drew
  generalize World.drew _=vO at HS an⊢
  refine ag 0 (some 35) 12 1 aC ?_
  refine cl 1 (some 36) 12 3 aC eE an ?_ (hy:=by rintro w' ⟨s0,s1,s2,s3,s4,s5⟩;go_simp;with_reducible rfl)
  refine ag 2 (some 37) 12 7 aC ?_
  refine ag 3 (some 38) 12 15 aC ?_
  refine cl 4 (some 39) 12 31 aC eE an ?_ (hy:=by rintro w' ⟨s0,s1,s2,s3,s4,s5⟩;go_simp;with_reducible rfl)
  refine ag 5 (some 40) 12 63 aC ?_
  refine ag 6 (some 41) 12 127 aC ?_
  refine cl 7 (some 42) 12 255 aC eE an ?_ (hy:=by rintro w' ⟨s0,s1,s2,s3,s4,s5⟩;go_simp;with_reducible rfl)
  refine ag 8 (some 43) 12 511 aC ?_
  refine gv 9 (some 44) 12 1023 aC (fun K hK=> ?_)
  refine gw Tryz.func114 (by kernel_rfl) rfl #[.slice AP P.length qP,.string s] (by rfl) rfl rfl (by (try simp only [List.map_toArray,List.map_cons,List.map_nil]);first|done|rfl) ?_
  have dj:=ek.calls k _ _ P s P' _ (HS.jb 4).2.2 (HS.jb 4).2.1 T3.out
  refine dj.mono ?_
  clear dj an
  rintro e W_ ⟨u_,rfl,bQ,bn⟩
  refine ⟨_,rfl,?_⟩
  replace HS:=HS.new (A:=rA Kd.string 9 u_ P') bn bQ
  obtain ⟨AP1,qP1,rfl⟩:=HS.lJ 0
  clear bQ bn
  have cR:=aD (HS.bf 3)
  obtain ⟨mF,pL⟩:=HS.mM.hole i0 i1
  refine hK.out _ _ ⟨cR.1,cR.2.1,cR.2.2.1,cR.2.2.2.1,cR.2.2.2.2.1,mF⟩ (fun an=> ?_)
  clear hK K cR mF pL
  refine dF (a':= ?_) ?_ ?_
  rotate_left
  ·show Act.put _ (some 44) _=_
   simp only [Act.put,List.setIfInBounds_toArray,List.set_cons_zero,List.set_cons_succ,bX,cL]
   rfl
  refine ag 10 (some 45) 12 2047 aC ?_
  refine mm (i:=11) (N:=none) (bl 12 4095) rfl rfl (jH aC.out (by kernel_rfl)) (by decide) (fun K hK=> ?_)
  clear an
  obtain ⟨mF,pL⟩:=HS.mM.hole i0 i1
  refine kW (w1:= ?_) (by rfl) rfl ?_ ?_
  rotate_left
  ·go_simp
   rfl
  clear mF pL
  replace HS:=HS.mM.Dk i0 i1 (.slice AP1 P'.length qP1) rfl
  refine hK.out _ _ ?_
  clear hK K
  refine fm (cW aC.out (by kernel_rfl)) ?_
  clear aC eE
  obtain ⟨uI,iW,iZ⟩:=HS.gen
  rw [iW]
  clear HS iW
  have HS:=iZ
  clear iZ
  replace HS:=HS.back
  replace HS:=HS.mM.tail
  have oW:=aD (HS.bf 2)
  have cR:=aD (HS.bf 3)
  go_wp2
  have HF:=HS.ko 2 (.slice A0 ks.length c0) (.slice (some ⟨g1,0,none⟩) ps.length q1) (.slice (some ⟨g2,0,none⟩) ss.length q2) (.slice A3 ib.length c3) (.int .i64 sd)
  refine bodyPost_ret (results_cell_row rfl _ _ b6 27 #[.slice A0 ks.length c0,.slice (some ⟨g1,0,none⟩) ps.length q1,.slice (some ⟨g2,0,none⟩) ss.length q2,.slice A3 ib.length c3,.int .i64 sd] (0,0) _ rfl (by exact (HF.bf 2).out) Tryz.underlying27 rfl (by kernel_rfl)) rfl ?_
  replace HS:=HF
  replace HS:=HS.mN.tail
  replace HS:=HS.mN.tail
  exact ⟨rfl,HS.ya.mN.mN.ya⟩
def bw.T12:Bool×List (List Nat×List Nat):=(true,[([],[]),([0],[0]),([],[]),([],[]),([3],[3]),([],[]),([4,5],[4,5]),([6],[6]),([],[]),([8],[8]),([9],[9]),([7,10],[7,10]),([1,2,0,1,2,3,4,5,6,7,8,9,10,11],[1,2]),([12,11,11,0,1,2,3,4,5,6,7,8,9,10,11],[11,12])])
def bw.B12:List Nat:=[0,1,0,0,8,0,56,120,0,256,768,2040,4095,8191]
theorem bw.Xe:gq .any (opsOf Tryz.f53 12)=bw.T12:=by kernel_rfl
theorem bw.Vj:eF bw.T12.2 bw.B12=true:=by kernel_rfl
def bw.l0 (k:Nat) (i:Int) (z:Bool):List ByteArray→Nt→Option Nt
  |[],n=>some n
  |s::r,n=>if i<(n.ks.length:Int) then (dJ.f k (rd n.ks i) s).bind fun (x,y,b,o)=>if o=false then bw.l0 k i z r n else if z=false then (if x=1 then (bJ.f k n (wrap64 (i+1)) y).bind fun n'=>bw.l0 k i z r n' else bw.l0 k i z r n) else (bD.f (wrap64 (x-2)) 0 3).bind fun c=>if c=false then bw.l0 k i z r n else if b=(⟨#[]⟩:ByteArray) then bw.l0 k i z r n else if 0≤wrap64 (x-2)∧wrap64 (x-2)<(n.ib.length:Int) then (if (n.ib.getD (wrap64 (x-2)).toNat []).length<60 then bw.l0 k i z r ⟨n.ks,n.ps,n.ss,n.ib.set (wrap64 (x-2)).toNat (n.ib.getD (wrap64 (x-2)).toNat []++[b]),n.sd⟩ else bw.l0 k i z r n) else none else none
def bw.f (k:Nat) (n:Nt) (i:Int):Option Nt:=if 0≤i∧i<(n.ps.length:Int)∧i<(n.ks.length:Int)∧0<n.ib.length∧(n.ps.getD i.toNat []).length≤1048576 then bw.l0 k i (i==wrap64 ((n.ks.length:Int)-1)) (n.ps.getD i.toNat []) ⟨n.ks,n.ps.set i.toNat [],n.ss,n.ib,n.sd⟩ else none
theorem bw.calls {k:Nat} {v0 v1 v2 v3:Value} {n m:Nt} {i:Int} {L:List SA} {w0 w:World} (hs:Sep w0 w (fH v0 v1 v2 v3 n++L)) (h:bw.f k n i=some m):
    Calls Tryz.prog 53 #[.agg #[v0,v1,v2,v3,.int .i64 n.sd],.int .i64 i] w fun e w'=>e= .returned (.agg #[v0,v1,v2,v3,.int .i64 n.sd])∧Sep w0 w' (fH v0 v1 v2 v3 m++L):=by
 have mX:=Tryz.underlying27
 obtain ⟨ks,ps,ss,ib,sd⟩:=n
 have HS:Sep w0 w (rA KI 3 v0 ks::sA KT 62 v1 ps::sA KT 62 v2 ss::sA KT 62 v3 ib::L):=hs
 clear hs
 unfold bw.f at h
 dsimp only at h⊢
 replace h:=cZ h;obtain ⟨⟨i0,i1,i2,i3,i4⟩,h⟩:=h
 obtain ⟨A2,c2,rfl⟩:=HS.jZ 2
 obtain ⟨g0,q0,rfl⟩:=HS.vN 0 (hx:=by omega)
 obtain ⟨g1,q1,rfl⟩:=HS.addr 1 (hx:=by omega)
 obtain ⟨g3,q3,rfl⟩:=HS.addr 3 (hx:=by omega)
 have p0:(0≤i)=True:=eq_true i0
 have p1:(i<(ps.length:Int))=True:=eq_true i1
 have p2:(i<(ks.length:Int))=True:=eq_true i2
 obtain ⟨AP,qP,HS,-,-⟩:=HS.m7.zf i i0 i1
 generalize ps.getD i.toNat []=P at HS h i4
 have I4:=ak i4;have H':=ak h;clear i4 h
 have hz_:∃z,(i==wrap64 ((ks.length:Int)-1))=z:=⟨_,rfl⟩
 obtain ⟨z,hz⟩:=hz_
 rw [hz] at H'
 go_enter Tryz.func53,Tryz.ntmps53
 go_upto_region 3 with (first|((with_reducible refine ax (N:=2) rfl ?_);refine cm 2 #[.slice (some ⟨g0,0,none⟩) ks.length q0,.slice (some ⟨g1,0,none⟩) ps.length q1,.slice A2 ss.length c2,.slice (some ⟨g3,0,none⟩) ib.length q3,.int .i64 sd] 27 ?_;intro b2 cg W_ bQ bn;replace HS:=HS.box cg bQ bn;clear cg bQ bn;have fl:=aD (HS.bf 0))|((with_reducible refine ax (N:=4) rfl ?_);refine cm 4 #[.slice none 0 0,.slice none 0 0,.slice none 0 0,.slice none 0 0,.int .i64 0] 27 ?_;intro b4 cg W_ bQ bn;replace HS:=HS.box cg bQ bn;clear cg bQ bn;clear fl;have fo:=aD (HS.bf 0);clear fo;have fo:=aD (HS.bf 0);have fl:=aD (HS.bf 1);obtain ⟨mF,pL⟩:=HS.mN.hole i0 i1))
 clear fo fl mF pL
 replace HS:=HS.mN.Dk i0 i1 (.slice none 0 0) rfl
 obtain ⟨uI,iW,iZ⟩:=HS.gen
 rw [iW]
 clear HS iW
 have HS:=iZ
 clear iZ
 replace HS:=HS.qq Kd.string 9
 replace HS:=HS.m7.back
 replace HS:=HS.ya.kG.kG.ya.kG.jI.kG
 try go_wp2
 go_loopg [23] P.length (fun kq v23 w'=>∃(j:Nat) (vw vp ri:List (List ByteArray)),v23= .int .i64 (j:Int)∧Aside0 (bw.l0 k i z (P.drop j) ⟨ks,vw,vp,ri,sd⟩=some m)∧j≤P.length∧P.length-j≤kq∧ri.length=ib.length∧Sep w0 w' (bA b2 #[.slice (some ⟨g0,0,none⟩) ks.length q0,.slice (some ⟨g1,0,none⟩) ps.length q1,.slice A2 ss.length c2,.slice (some ⟨g3,0,none⟩) ib.length q3,.int .i64 sd] 27::bA b4 #[.slice none 0 0,.slice none 0 0,.slice none 0 0,.slice none 0 0,.int .i64 0] 27::rA KI 3 (.slice (some ⟨g0,0,none⟩) ks.length q0) ks::sA KT 62 (.slice (some ⟨g1,0,none⟩) ps.length q1) vw::sA KT 62 (.slice A2 ss.length c2) vp::sA KT 62 (.slice (some ⟨g3,0,none⟩) ib.length q3) ri::rA Kd.string 9 (.slice AP P.length qP) P::L))
 case atStart=>exact ⟨0,_,_,_,rfl,H',Nat.zero_le _,Nat.le_refl _,rfl,HS⟩
 case round=>
  clear HS H'
  obtain ⟨j,vw,vp,ri,rfl,HA,j1,j2,Dm,HS⟩:=hrel
  have h:=HA.out;clear HA
  by_cases hj:j<P.length
  ·obtain ⟨s,X5⟩:∃s,aV ByteArray.empty P (j:Int)=s:=⟨_,rfl⟩
   have hd:P.drop j=s::P.drop (j+1):=by rw [←X5,List.drop_eq_getElem_cons hj];simp [aV,List.getD_eq_getElem?_getD,List.getElem?_eq_getElem hj]
   rw [hd] at h
   simp only [bw.l0] at h
   rw [if_pos i2] at h
   replace h:=bS h;obtain ⟨⟨x,y,b,o⟩,T1,h⟩:=h
   obtain ⟨gP,qP',e⟩:=HS.vN 6 (hx:=by omega)
   obtain rfl:AP=some ⟨gP,0,none⟩:=by injection e
   clear e
   have Fs:decide ((j:Int)<(P.length:Int))=true:=decide_eq_true (by omega)
   have pj0:(0≤(j:Int))=True:=eq_true (by omega)
   have XK:((j:Int)<(P.length:Int))=True:=eq_true (by omega)
   have TE:=HS.cellS 6 (n:=P.length) (j:Int) (by omega) (by omega)
   rw [X5] at TE
   rw [Int.toNat_natCast] at TE
   have TQ:=HS.DA 2 i i0 i2
   have fl:=aD (HS.bf 0)
   go_upto_region 7 with (first|(go_at_call 88;refine (dJ.calls k _ _ x y b o _ T1.out).mono ?_;rintro e W_ ⟨rfl,bn⟩;replace HS:=HS.below bn;clear bn TE TQ;clear fl;have fl:=aD (HS.bf 0);have TQ:=HS.DA 2 i i0 i2)|((with_reducible refine ax (N:=8) rfl ?_);refine cm 8 #[.int .i64 0,.string (⟨#[]⟩:ByteArray),.string (⟨#[]⟩:ByteArray)] 105 ?_;intro b8 cg W_ bQ bn;replace HS:=HS.box cg bQ bn;clear cg bQ bn;clear fl;have jY:=cA (HS.bf 0);clear TQ;clear jY;have fl:=aD (HS.bf 1);have jY:=cA (HS.bf 0)))
   clear fl jY
   obtain ⟨uI,iW,iZ⟩:=(((HS.dg 0 0 (.int .i64 x) #[.int .i64 x,.string (⟨#[]⟩:ByteArray),.string (⟨#[]⟩:ByteArray)]).dg 0 1 (.string y) #[.int .i64 x,.string y,.string (⟨#[]⟩:ByteArray)]).dg 0 2 (.string b) #[.int .i64 x,.string y,.string b]).gen
   rw [iW]
   clear HS iW
   have HS:=iZ
   clear iZ
   have fl:=aD (HS.bf 1)
   have jY:=cA (HS.bf 0)
   go_upto_region 9 with fail
   generalize wrap64 (x-2)=u at h⊢
   cases o with
   |false=>
    rw [if_pos rfl] at h
    go_wp2
    replace HS:=HS.tail
    go_roundg (P.length-(j+1))
    case measure=>omega
    case rel=>exact ⟨j+1,vw,vp,ri,gm hj I4.out,⟨h⟩,hj,Nat.le_refl _,Dm,HS⟩
   |true=>
    rw [if_neg (by decide)] at h
    cases z with
    |false=>
     rw [if_pos rfl] at h
     by_cases hx:x=1
     ·rw [if_pos hx] at h
      have Tu:(x==1)=true:=beq_iff_eq.2 hx
      clear hx
      replace h:=bS h;obtain ⟨⟨N0,Kr,Kp,N1,Kq⟩,T3,h⟩:=h
      obtain ⟨e1,e2,e3⟩:=bJ.keeps T3.out
      dsimp only at e1 e2 e3
      replace e1:=e1.symm;replace e2:=e2.symm;replace e3:=e3.symm
      subst e1 e2 e3
      go_wp2_with (first|(go_at_call 89;have dj:=bJ.calls (n:=⟨ks,vw,vp,ri,sd⟩) (HS.kG.kG.kG.kG) T3.out;refine dj.mono ?_;clear dj;rintro e W_ ⟨rfl,ij⟩;clear HS;have HS:=ij;clear ij;dsimp only [fH,List.cons_append,List.nil_append] at HS;clear fl jY;have fl:=aD (HS.bf 5);have jY:=cA (HS.bf 4)))
      replace HS:=HS.jI.XI (.slice (some ⟨g0,0,none⟩) ks.length q0) (.slice (some ⟨g1,0,none⟩) ps.length q1) (.slice A2 ss.length c2) (.slice (some ⟨g3,0,none⟩) ib.length q3) (.int .i64 sd)
      replace HS:=HS.jI.tail
      go_roundg (P.length-(j+1))
      case measure=>omega
      case rel=>exact ⟨j+1,Kr,Kp,ri,gm hj I4.out,⟨h⟩,hj,Nat.le_refl _,Dm,HS.kG.jI.jI.jI.jI.kG.kG⟩
     ·rw [if_neg hx] at h
      have Tu:(x==1)=false:=beq_eq_false_iff_ne.2 hx
      clear hx
      go_wp2
      replace HS:=HS.tail
      go_roundg (P.length-(j+1))
      case measure=>omega
      case rel=>exact ⟨j+1,vw,vp,ri,gm hj I4.out,⟨h⟩,hj,Nat.le_refl _,Dm,HS⟩
    |true=>
     rw [if_neg (by decide)] at h
     replace h:=bS h;obtain ⟨c,T2,h⟩:=h
     rcases Bool.eq_false_or_eq_true (x==1) with Tu|Tu
     all_goals
      cases c with
      |false=>
       rw [if_pos rfl] at h
       go_wp2_with (first|(go_at_call 79;refine (bD.calls _ _ _ _ _ T2.out).mono ?_;rintro e W_ ⟨rfl,gX,rfl⟩;replace HS:=HS.drewN gX;generalize World.drewN _ gX=W_ at HS⊢;clear fl jY;have fl:=aD (HS.bf 1);have jY:=cA (HS.bf 0)))
       replace HS:=HS.tail
       go_roundg (P.length-(j+1))
       case measure=>omega
       case rel=>exact ⟨j+1,vw,vp,ri,gm hj I4.out,⟨h⟩,hj,Nat.le_refl _,Dm,HS⟩
      |true=>
       rw [if_neg (by decide)] at h
       by_cases hb:b=(⟨#[]⟩:ByteArray)
       ·rw [if_pos hb] at h
        subst hb
        go_wp2_with (first|(go_at_call 79;refine (bD.calls _ _ _ _ _ T2.out).mono ?_;rintro e W_ ⟨rfl,gX,rfl⟩;replace HS:=HS.drewN gX;generalize World.drewN _ gX=W_ at HS⊢;clear fl jY;have fl:=aD (HS.bf 1);have jY:=cA (HS.bf 0)))
        replace HS:=HS.tail
        go_roundg (P.length-(j+1))
        case measure=>omega
        case rel=>exact ⟨j+1,vw,vp,ri,gm hj I4.out,⟨h⟩,hj,Nat.le_refl _,Dm,HS⟩
       ·rw [if_neg hb] at h
        have hbb:=nU hb
        clear hb
        replace h:=cZ h;obtain ⟨⟨u0,u1⟩,h⟩:=h
        rw [Dm] at u1
        have pu0:(0≤u)=True:=eq_true u0
        have pu1:(u<(ib.length:Int))=True:=eq_true u1
        obtain ⟨AI,qI,HS,-,-⟩:=HS.kG.zf u u0 u1
        generalize hI:ri.getD u.toNat []=I at HS h
        have GI:=ak hI;clear hI
        clear fl jY
        have fl:=aD (HS.bf 3)
        have jY:=cA (HS.bf 2)
        obtain ⟨kF,l8⟩:=HS.hole u0 u1
        by_cases hn:I.length<60
        ·rw [if_pos hn] at h
         have hnb:decide ((I.length:Int)<60)=true:=decide_eq_true (by omega)
         generalize hIb:I++[b]=I' at h
         go_upto_region 12 with (first|(go_at_call 79;refine (bD.calls _ _ _ _ _ T2.out).mono ?_;rintro e W_ ⟨rfl,gX,rfl⟩;replace HS:=HS.drewN gX;generalize World.drewN _ gX=W_ at HS⊢;clear fl jY kF l8;have fl:=aD (HS.bf 3);have jY:=cA (HS.bf 2);obtain ⟨kF,l8⟩:=HS.hole u0 u1))
         clear fl jY kF l8
         have fl:=aD (HS.bf 3)
         have jY:=cA (HS.bf 2)
         obtain ⟨kF,l8⟩:=HS.hole u0 u1
         refine ef (n:=14) (S:=fun w'=>w'.cell? ⟨b2,0,none⟩=some (.slice (some ⟨g0,0,none⟩) ks.length q0)∧w'.cell? ⟨b2,1,none⟩=some (.slice (some ⟨g1,0,none⟩) ps.length q1)∧w'.cell? ⟨b2,2,none⟩=some (.slice A2 ss.length c2)∧w'.cell? ⟨b2,3,none⟩=some (.slice (some ⟨g3,0,none⟩) ib.length q3)∧w'.cell? ⟨b2,4,none⟩=some (.int .i64 sd)∧w'.cell? ⟨b8,0,none⟩=some (.int .i64 x)∧w'.cell? ⟨b8,1,none⟩=some (.string y)∧w'.cell? ⟨b8,2,none⟩=some (.string b)∧w'.cell? ⟨g3,u.toNat,none⟩=some (.slice AI I.length qI)) (ds:=[13]) (bl 14 0) (by kernel_rfl) rfl rfl ⟨fl.1,fl.2.1,fl.2.2.1,fl.2.2.2.1,fl.2.2.2.2.1,jY.1,jY.2.1,jY.2.2.1,kF⟩ (fun an=> ?_);refine bW bw.Xe bw.Vj (fun aC eE=> ?_)
         clear fl jY kF l8
         replace HS:=HS.drew
         generalize World.drew _=vO at HS an⊢
         refine ag 0 (some 86) 14 1 aC ?_
         refine cl 1 (some 87) 14 3 aC eE an ?_ (hy:=by rintro w' ⟨s0,s1,s2,s3,s4,s5,s6,s7,s8⟩;go_simp;with_reducible rfl)
         refine ag 2 (some 88) 14 7 aC ?_
         refine ag 3 (some 89) 14 15 aC ?_
         refine cl 4 (some 90) 14 31 aC eE an ?_ (hy:=by rintro w' ⟨s0,s1,s2,s3,s4,s5,s6,s7,s8⟩;go_simp;with_reducible rfl)
         refine ag 5 (some 91) 14 63 aC ?_
         refine ag 6 (some 92) 14 127 aC ?_
         refine cl 7 (some 93) 14 255 aC eE an ?_ (hy:=by rintro w' ⟨s0,s1,s2,s3,s4,s5,s6,s7,s8⟩;go_simp;with_reducible rfl)
         refine ag 8 (some 94) 14 511 aC ?_
         refine cl 9 (some 95) 14 1023 aC eE an ?_ (hy:=by rintro w' ⟨s0,s1,s2,s3,s4,s5,s6,s7,s8⟩;go_simp;with_reducible rfl)
         refine gv 10 (some 96) 14 2047 aC (fun K hK=> ?_)
         clear an
         refine Kd.jW Kd.string _ 9 ?hg (N:=96) ?hd (xs:=([b]:List ByteArray)) (inner:=[.string b]) (ok:=fun _=>True) (okp:=fun _=>True) ?hr ?hp (fun _ hk=>hk) trivial (Below.refl _ _) (Nat.le_refl _) (by simp) ?_
         (case hd=>rfl)
         (case hg=>rfl)
         (case hr=>first|(go_simp;done)|(go_simp;rfl))
         (case hp=>exact bN.one (show Kd.M Kd.string _ _ _ b [.string b] from rfl) (bN.none _ _))
         intro vU W_ bQ bn _ _
         replace HS:=HS.new (A:=rA Kd.string 9 vU [b]) bn bQ
         clear bQ bn
         obtain ⟨AU,qU,rfl⟩:=HS.lJ 0
         have fl:=aD (HS.bf 4)
         have jY:=cA (HS.bf 3)
         obtain ⟨kF,l8⟩:=HS.m7.hole u0 u1
         refine hK.out _ _ ⟨fl.1,fl.2.1,fl.2.2.1,fl.2.2.2.1,fl.2.2.2.2.1,jY.1,jY.2.1,jY.2.2.1,kF⟩ (fun an=> ?_)
         clear hK K fl jY kF l8
         refine dF (a':= ?_) ?_ ?_
         rotate_left
         ·show Act.put _ (some 96) _=_
          simp only [Act.put,List.setIfInBounds_toArray,List.set_cons_zero,List.set_cons_succ,bX,cL]
          rfl
         refine gv 11 (some 97) 14 4095 aC (fun K hK=> ?_)
         clear an
         have HU:=(HS.jb 0).2.2
         replace HS:=HS.mN
         refine Sep.append Kd.string (by rfl) (.tmp 93) (.tmp 96) 62 9 (.string ⟨#[]⟩) 16 rfl Tryz.underlying62 mK rfl (by decide) (by omega) (.slice AI I.length qI) I [b] AU 1 qU rfl rfl HS HU (fun _ _ _ _ h=>h) (by omega) ?_
         clear HS HU
         intro vI W_ HS
         rw [hIb] at HS
         obtain ⟨AI1,qI1,rfl⟩:=HS.lJ 0
         have fl:=aD (HS.bf 4)
         have jY:=cA (HS.bf 3)
         obtain ⟨kF,l8⟩:=HS.mN.hole u0 u1
         refine hK.out _ _ ⟨fl.1,fl.2.1,fl.2.2.1,fl.2.2.2.1,fl.2.2.2.2.1,jY.1,jY.2.1,jY.2.2.1,kF⟩ (fun an=> ?_)
         clear hK K fl jY kF l8
         refine dF (a':= ?_) ?_ ?_
         rotate_left
         ·show Act.put _ (some 97) _=_
          simp only [Act.put,List.setIfInBounds_toArray,List.set_cons_zero,List.set_cons_succ,bX,cL]
          rfl
         refine ag 12 (some 98) 14 8191 aC ?_
         refine mm (i:=13) (N:=none) (bl 14 16383) rfl rfl (jH aC.out (by kernel_rfl)) (by decide) (fun K hK=> ?_)
         clear an
         obtain ⟨kF,l8⟩:=HS.mN.hole u0 u1
         refine kW (w1:= ?_) (by rfl) rfl ?_ ?_
         rotate_left
         ·go_simp
          rfl
         clear kF l8
         replace HS:=HS.mN.Dk u0 u1 (.slice AI1 I'.length qI1) rfl
         refine hK.out _ _ ?_
         clear hK K
         refine fm (cW aC.out (by kernel_rfl)) ?_
         clear aC eE
         obtain ⟨uI,iW,iZ⟩:=HS.gen
         rw [iW]
         clear HS iW
         have HS:=iZ
         clear iZ
         replace HS:=HS.back
         have TT:(ri.set u.toNat I').length=ib.length:=by rw [List.length_set];exact Dm
         go_wp2
         replace HS:=HS.mN.tail
         replace HS:=HS.m7.tail
         go_roundg (P.length-(j+1))
         case measure=>omega
         case rel=>exact ⟨j+1,vw,vp,ri.set u.toNat I',gm hj I4.out,⟨h⟩,hj,Nat.le_refl _,TT,HS.kG.m7.kG.kG.kG.kG.kG⟩
        ·rw [if_neg hn] at h
         have hnb:decide ((I.length:Int)<60)=false:=decide_eq_false (by omega)
         go_wp2_with (first|(go_at_call 79;refine (bD.calls _ _ _ _ _ T2.out).mono ?_;rintro e W_ ⟨rfl,gX,rfl⟩;replace HS:=HS.drewN gX;generalize World.drewN _ gX=W_ at HS⊢;clear fl jY kF l8;have fl:=aD (HS.bf 3);have jY:=cA (HS.bf 2);obtain ⟨kF,l8⟩:=HS.hole u0 u1))
         replace HS:=HS.rY GI
         replace HS:=HS.m7.tail
         go_roundg (P.length-(j+1))
         case measure=>omega
         case rel=>exact ⟨j+1,vw,vp,ri,gm hj I4.out,⟨h⟩,hj,Nat.le_refl _,Dm,HS.kG.m7.kG.kG.kG.kG.kG⟩
  ·have hd:P.drop j=[]:=List.drop_eq_nil_of_le (by omega)
   rw [hd] at h
   simp only [bw.l0] at h
   obtain rfl:=Option.some.inj h
   have Fs:decide ((j:Int)<(P.length:Int))=false:=decide_eq_false (by omega)
   have fl:=aD (HS.bf 0)
   have fo:=aD (HS.bf 1)
   go_wp2
   have HF:=HS.m7.XI (.slice (some ⟨g0,0,none⟩) ks.length q0) (.slice (some ⟨g1,0,none⟩) ps.length q1) (.slice A2 ss.length c2) (.slice (some ⟨g3,0,none⟩) ib.length q3) (.int .i64 sd)
   refine bodyPost_ret (results_cell_row rfl _ _ b4 27 #[.slice (some ⟨g0,0,none⟩) ks.length q0,.slice (some ⟨g1,0,none⟩) ps.length q1,.slice A2 ss.length c2,.slice (some ⟨g3,0,none⟩) ib.length q3,.int .i64 sd] (0,0) _ rfl (by exact (HF.bf 0).out) Tryz.underlying27 rfl (by kernel_rfl)) rfl ?_
   replace HS:=HF
   replace HS:=HS.tail
   replace HS:=HS.tail
   replace HS:=HS.mM.tail
   exact ⟨rfl,HS⟩
theorem bw.nV {k:Nat} {i:Int} {z:Bool} :∀ {P:List ByteArray} {n m:Nt},bw.l0 k i z P n=some m→m.ks=n.ks∧m.sd=n.sd
 |[],n,m,h=>by
  simp only [bw.l0] at h
  obtain rfl:=Option.some.inj h
  exact ⟨rfl,rfl⟩
 |s::r,n,m,h=>by
  have ih:∀n':Nt,bw.l0 k i z r n'=some m→m.ks=n'.ks∧m.sd=n'.sd:=fun n' h'=>bw.nV h'
  simp only [bw.l0] at h
  replace h:=cZ h;obtain ⟨-,h⟩:=h
  replace h:=bS h;obtain ⟨⟨x,y,b,o⟩,-,h⟩:=h
  dsimp only at h
  repeat' split at h
  all_goals
   first
   |exact ih _ h
   |(replace h:=bS h;obtain ⟨n',T,h⟩:=h;obtain ⟨e1,e2,e3⟩:=bJ.keeps T.out;have:=ih _ h;exact ⟨this.1.trans e1,this.2.trans e3⟩)
   |(replace h:=bS h;obtain ⟨c,-,h⟩:=h;(repeat' split at h);(all_goals first|exact ih _ h|(have h2:=ih _ h;exact h2)|cases h))
theorem bw.keeps {k:Nat} {n m:Nt} {i:Int} (h:bw.f k n i=some m):m.ks=n.ks∧m.sd=n.sd:=by
 unfold bw.f at h
 replace h:=cZ h;obtain ⟨-,h⟩:=h
 exact bw.nV (n:=⟨n.ks,n.ps.set i.toNat [],n.ss,n.ib,n.sd⟩) h
def gR.f (a0:ByteArray):Option (Bool):=some (decide ((a0.size:Int)<16))
theorem gR.calls (a0:ByteArray) (r:Bool) (w:World) (h:gR.f a0=some r):
  Calls Tryz.prog 128 #[.string a0] w fun e w'=>e= .returned (.bool r)∧cH w w':=by
 have H:(some (decide ((a0.size:Int)<16)))=some r:=h
 clear h
 obtain rfl:=Option.some.inj H
 go_enter Tryz.func128,Tryz.ntmps128
 go_wp2
 go_ret
 exact ⟨er,gh⟩
def fR.f (a0:ByteArray):Option (ByteArray):=if a0.size+1≤9223372036854775807 then (if 0≤(wrap64 (15-(a0.size:Int))) then (if (wrap64 (15-(a0.size:Int)):Int).toNat≤281474976710656 then ((some (List.replicate (wrap64 (15-(a0.size:Int)):Int).toNat 0:List Int)).bind fun uJ=>(if (a0++(⟨#[128]⟩:ByteArray)).size+(strOfNums uJ).size≤9223372036854775807 then (some ((a0++(⟨#[128]⟩:ByteArray))++(strOfNums uJ))) else (none))) else (none)) else (none)) else (none)
theorem fR.calls (a0:ByteArray) (r:ByteArray) (w:World) (h:fR.f a0=some r):
  Calls Tryz.prog 129 #[.string a0] w fun e w'=>e= .returned (.string r)∧Below w.heap.size w w':=by
 have HB:=ak (Below.refl w.heap.size w)
 have H:(if a0.size+1≤9223372036854775807 then (if 0≤(wrap64 (15-(a0.size:Int))) then (if (wrap64 (15-(a0.size:Int)):Int).toNat≤281474976710656 then ((some (List.replicate (wrap64 (15-(a0.size:Int)):Int).toNat 0:List Int)).bind fun uJ=>(if (a0++(⟨#[128]⟩:ByteArray)).size+(strOfNums uJ).size≤9223372036854775807 then (some ((a0++(⟨#[128]⟩:ByteArray))++(strOfNums uJ))) else (none))) else (none)) else (none)) else (none))=some r:=h
 clear h;replace H:=cZ H;obtain ⟨c2,H⟩:=H;have oQ:=eq_true c2
 have DI:decide (a0.size+1≤9223372036854775807)=true:=decide_eq_true c2
 try have aeV:(9223372036854775807<a0.size+1)=False:=eq_false (Nat.not_lt.2 c2)
 obtain ⟨Pc,PE⟩:∃j_:Int,(wrap64 (15-(a0.size:Int)))=j_:=⟨_,rfl⟩
 replace H:(if 0≤(Pc) then (if (Pc:Int).toNat≤281474976710656 then ((some (List.replicate (Pc:Int).toNat 0:List Int)).bind fun uJ=>(if (a0++(⟨#[128]⟩:ByteArray)).size+(strOfNums uJ).size≤9223372036854775807 then (some ((a0++(⟨#[128]⟩:ByteArray))++(strOfNums uJ))) else (none))) else (none)) else (none))=some r:=by first|(rw [PE] at H;exact H)|(simp only [PE] at H⊢;exact H)
 have afF:(IntKind.i64.wrap (15-(a0.size:Int)))=Pc:=(bX _).trans PE
 replace H:=cZ H;obtain ⟨c4,H⟩:=H;have iI:=eq_true c4
 have Zi:decide (0≤(Pc))=true:=decide_eq_true c4
 clear c4;replace H:=cZ H;obtain ⟨c5,H⟩:=H;have jg:=eq_true c5
 have BZ:decide ((Pc:Int).toNat≤281474976710656)=true:=decide_eq_true c5
 clear c5
 obtain ⟨uJ,eZ⟩:∃y_:List Int,y_=(List.replicate (Pc:Int).toNat 0):=⟨_,rfl⟩
 replace H:(if (a0++(⟨#[128]⟩:ByteArray)).size+(strOfNums uJ).size≤9223372036854775807 then (some ((a0++(⟨#[128]⟩:ByteArray))++(strOfNums uJ))) else (none))=some r:=yH
 have RS:=ak eZ;clear eZ;replace H:=cZ H;obtain ⟨c6,H⟩:=H;have jz:=eq_true c6
 have qz:decide ((a0++(⟨#[128]⟩:ByteArray)).size+(strOfNums uJ).size≤9223372036854775807)=true:=decide_eq_true c6
 try have J0:(9223372036854775807<(a0++(⟨#[128]⟩:ByteArray)).size+(strOfNums uJ).size)=False:=eq_false (Nat.not_lt.2 c6)
 obtain rfl:=Option.some.inj H
 go_enter Tryz.func129,Tryz.ntmps129
 go_wp2_with (first|((with_reducible refine ax (N:=8) rfl ?_);refine Kd.Np (Kd.int .u8) _ 5 rfl (N:=8) rfl 56 _ _ rfl Pc rfl rfl Tryz.underlying56 (.int .u8 0) 1 rR rfl (by decide) (by omega) 0 (ok:=fun _=>True) (okp:=fun _=>True) rfl (fun _ hk=>hk) trivial (da) (Nat.le_trans (Nat.mul_le_mul_right _ (da:Pc.toNat≤281474976710656)) (by omega)) (Below.refl _ _) (Nat.le_refl _) ?_;intro agL w7 Ks hb cg dZ;clear cg dZ;(first|rw [←RS.out] at Ks|(simp only [Int.reduceToNat] at Ks;rw [←RS.out] at Ks));have abb:=ak (Kd.dB Ks (bC (ai HB)));replace HB:=ak (aE (ai HB) hb);clear hb Ks;have aho:=iP (P:=Tryz.prog) Tryz.underlying56 Tryz.underlying5 Tryz.underlying9 (Kd.iG abb.out)))
 go_ret
 exact ⟨by first|rfl|(simp [oP,oO]<;>rfl)|(simp only [←PE];first|rfl|(simp [oP,oO]<;>rfl))|(simp [*,oP,oO]<;>rfl),ai HB⟩
end Go.Proofs.YtihekdlcfohkkaaGreatDoor.QFnNet
