-- printed by this session's own program (wip/tools/pp.py: the kit's print.py with changes); Lean checks it
import Derived.Test.YtihekdlcfohkkaaGreatDoorQFnNetx0
import Derived.Test.YtihekdlcfohkkaaGreatDoorQFnNetx1
namespace Go.Proofs.YtihekdlcfohkkaaGreatDoor.QFnNet
open Go.RowKit Go.Proofs.YtihekdlcfohkkaaGreatDoorW.PrintWords Go.Proofs.YtihekdlcfohkkaaGreatDoorW.PrintLast Go.Proofs.YtihekdlcfohkkaaGreatDoorW.PrintMore
attribute [local go_sem] max2_int min2_int max_two min_two max_three min_three max_four min_four strLss strGtr strLeq strGeq
set_option linter.unusedVariables false
set_option linter.unusedSimpArgs false
set_option maxHeartbeats 16000000
set_option maxRecDepth 100000
structure Nt where
  ks:List Int
  ps:List (List ByteArray)
  ss:List (List ByteArray)
  ib:List (List ByteArray)
  sd:Int
abbrev KI:Kd Int:=Kd.int .i64
abbrev KT:Kd (List ByteArray):=Kd.slice 9 Kd.string
def NC (W:World) (v0 v1 v2 v3:Value) (n:Nt):Prop:=∃A0 c0 A1 c1 A2 c2 A3 c3,(v0= .slice A0 n.ks.length c0∧v1= .slice A1 n.ps.length c1∧v2= .slice A2 n.ss.length c2∧v3= .slice A3 n.ib.length c3)∧(KI.C W A0 n.ks.length n.ks∧n.ks.length≤c0)∧(KT.C W A1 n.ps.length n.ps∧n.ps.length≤c1)∧(KT.C W A2 n.ss.length n.ss∧n.ss.length≤c2)∧(KT.C W A3 n.ib.length n.ib∧n.ib.length≤c3)
def fH (v0 v1 v2 v3:Value) (n:Nt):List SA:=[rA KI 3 v0 n.ks,sA KT 62 v1 n.ps,sA KT 62 v2 n.ss,sA KT 62 v3 n.ib]
theorem NC.of {W:World} {b:Nat} {c:Nat→Nat} {i:Nat} {v0 v1 v2 v3:Value} {n:Nt} (h:dD c b W i (fH v0 v1 v2 v3 n)):NC W v0 v1 v2 v3 n:=by
  obtain ⟨h0,h1,h2,h3,-⟩:=h
  obtain ⟨A0,c0,e0,l0,r0⟩:=Kd.ur h0
  obtain ⟨A1,c1,e1,l1,r1⟩:=Kd.Cf h1
  obtain ⟨A2,c2,e2,l2,r2⟩:=Kd.Cf h2
  obtain ⟨A3,c3,e3,l3,r3⟩:=Kd.Cf h3
  exact ⟨A0,c0,A1,c1,A2,c2,A3,c3,⟨e0,e1,e2,e3⟩,⟨r0,l0⟩,⟨r1,l1⟩,⟨r2,l2⟩,⟨r3,l3⟩⟩
theorem dD.mid {c:Nat→Nat} {b:Nat} {W:World} :∀(L0:List SA) {L:List SA} {i:Nat},dD c b W i (L0++L)→dD c b W (i+L0.length) L
  |[],_,_,h=>h
  | _ :: L0, _, i, h => by
    have:=dD.mid L0 (i:=i+1) h.2
    rw [List.length_cons,show i+(L0.length+1)=i+1+L0.length from by omega]
    exact this
theorem dD.left {c:Nat→Nat} {b:Nat} {W:World} :∀(L0:List SA) {L:List SA} {i:Nat},dD c b W i (L0++L)→dD c b W i L0
  |[],_,_,_=>trivial
  |_::L0,_,_,h=>⟨h.1,dD.left L0 h.2⟩
theorem rL {w0 W:World} {L:List SA} {v0 v1 v2 v3:Value} {n:Nt} (h:Sep w0 W L) (m:Nat) (e:(L.drop m).take 4=fH v0 v1 v2 v3 n:=by rfl):NC W v0 v1 v2 v3 n:=by
  obtain ⟨_,c,h⟩:=h
  have h':dD c w0.heap.size W 0 (L.take m++((L.drop m).take 4++(L.drop m).drop 4)):=by rw [List.take_append_drop,List.take_append_drop];exact h
  have:=dD.left _ (dD.mid _ h')
  rw [e] at this
  exact NC.of this
theorem NC.acE {W:World} {v0 v1 v2 v3:Value} {n:Nt} (h:NC W v0 v1 v2 v3 n):(∃A c,v0= .slice A n.ks.length c)∧(∃A c,v1= .slice A n.ps.length c)∧(∃A c,v2= .slice A n.ss.length c)∧(∃A c,v3= .slice A n.ib.length c):=by
  obtain ⟨A0,c0,A1,c1,A2,c2,A3,c3,⟨e0,e1,e2,e3⟩,_⟩:=h
  exact ⟨⟨_,_,e0⟩,⟨_,_,e1⟩,⟨_,_,e2⟩,⟨_,_,e3⟩⟩
theorem NC.below {W W1:World} {v0 v1 v2 v3:Value} {n:Nt} (h:NC W v0 v1 v2 v3 n) (hb:Below W.heap.size W W1):NC W1 v0 v1 v2 v3 n:=by
  obtain ⟨A0,c0,A1,c1,A2,c2,A3,c3,e,⟨r0,l0⟩,⟨r1,l1⟩,⟨r2,l2⟩,⟨r3,l3⟩⟩:=h
  exact ⟨A0,c0,A1,c1,A2,c2,A3,c3,e,⟨Kd.aH r0 hb,l0⟩,⟨Kd.aH r1 hb,l1⟩,⟨Kd.aH r2 hb,l2⟩,⟨Kd.aH r3 hb,l3⟩⟩
def wW (w:World) (n:Nt) (b:Bool) (e:Ending) (w':World):Prop:=∃v0 v1 v2 v3:Value,e= .returned (.tuple #[.agg #[v0,v1,v2,v3,.int .i64 n.sd],.bool b])∧(∃c,dD c w.heap.size w' 0 (fH v0 v1 v2 v3 n))∧Below w.heap.size w w'
def D4 (w:World) (n:Nt) (e:Ending) (w':World):Prop:=∃v0 v1 v2 v3:Value,e= .returned (.agg #[v0,v1,v2,v3,.int .i64 n.sd])∧(∃c,dD c w.heap.size w' 0 (fH v0 v1 v2 v3 n))∧Below w.heap.size w w'
theorem O6 {w w':World} {v0 v1 v2 v3:Value} {r1:List Int} {r2 r3 r4:List (List ByteArray)} {g1 g2 g3:Nat} {sd:Int} (h0:KI.R 3 w' w.heap.size (fun _=>True) v0 r1) (h1:Kd.S KT 62 w' w.heap.size (fun k_=>k_=g1) v1 r2) (h2:Kd.S KT 62 w' w.heap.size (fun k_=>k_=g2) v2 r3) (h3:Kd.S KT 62 w' w.heap.size (fun k_=>k_=g3) v3 r4) (hn:g1≠g2∧g1≠g3∧g2≠g3):∃c,dD c w.heap.size w' 0 (fH v0 v1 v2 v3 ⟨r1,r2,r3,r4,sd⟩):=by
  classical
  obtain ⟨n1,n2,n3⟩:=hn
  refine ⟨fun k=>if (∃cells,w'.heap[k]? =some (.cells cells 3 (0,0))) then 0 else if k=g1 then 1 else if k=g2 then 2 else if k=g3 then 3 else 4,?_,?_,?_,?_,trivial⟩
  · refine Kd.bF (Kd.jc h0) (fun k hk=>if_pos ?_)
    obtain ⟨_,_,_,q,hq,hc⟩:=hk
    have:q=3:=by simpa [Kd.int,Kd.scalar] using hq
    subst this
    exact hc
  all_goals
    first
    |refine Kd.lR (Kd.uo h1) (fun k hk=> ?_)
    |refine Kd.lR (Kd.uo h2) (fun k hk=> ?_)
    |refine Kd.lR (Kd.uo h3) (fun k hk=> ?_)
    obtain ⟨hk,_,_,q,hq,cells,hc⟩:=hk
    have jy:¬∃cells,w'.heap[k]? =some (.cells cells 3 (0,0)):=by
      rintro ⟨BY,u5⟩
      rw [hc] at u5
      injection u5 with u5
      injection u5 with _ u5
      subst u5
      simp [Kd.slice,Kd.string,Kd.scalar] at hq
    simp only [if_neg jy]
    subst hk
  · rw [if_pos rfl]
  · rw [if_neg (Ne.symm n1),if_pos rfl]
  · rw [if_neg (Ne.symm n2),if_neg (Ne.symm n3),if_pos rfl]
theorem gm {j n:Nat} (h:j<n) (hn:n≤1048576):Value.int .i64 (wrap64 ((j:Int)+1))=Value.int .i64 ((j+1:Nat):Int):=by
  rw [IntWalk.wrap64_in _ (by omega)]
  rfl
theorem nU {b:ByteArray} (h:¬b=(⟨#[]⟩:ByteArray)):b.toList.isEmpty=false:=by
  rw [List.isEmpty_eq_false_iff]
  intro e
  rw [ByteArray.toList_eq] at e
  exact h (congrArg ByteArray.mk (Array.toList_inj.1 e))
theorem C6 {w W:World} {L:List SA} {v0 v1 v2 v3:Value} {n:Nt} (h:Sep w W (fH v0 v1 v2 v3 n++L)):∃c,dD c w.heap.size W 0 (fH v0 v1 v2 v3 n):=by
  obtain ⟨_,c,h⟩:=h
  exact ⟨c,dD.left _ h⟩
theorem OZ {w W:World} {L:List SA} (h:Sep w W L):∃c,dD c w.heap.size W 0 (fH (.slice none 0 0) (.slice none 0 0) (.slice none 0 0) (.slice none 0 0) ⟨[],[],[],[],0⟩):=
  C6 ((((h.Jr KT 62).Jr KT 62).Jr KT 62).qq KI 3)
def eI.T1:Bool×List (List Nat×List Nat):=(true,[([],[]),([0],[0]),([1],[1]),([],[]),([3],[3]),([4,2],[4]),([],[]),([6],[6]),([7,5],[7]),([],[]),([9],[9]),([10,8],[10]),([],[]),([12],[12]),([2,5,8,11,13],[2,5,8,11,13]),([14,11,0,1,2,3,4,5,6,7,8,9,10,11,12,13,14],[14])])
def eI.B1:List Nat:=[0,1,3,0,8,31,0,64,255,0,512,2047,0,4096,16383,32767]
theorem eI.Ej:gq .any (opsOf Tryz.f55 1)=eI.T1:=by kernel_rfl
theorem eI.yA:eF eI.T1.2 eI.B1=true:=by kernel_rfl
def eI.f (k:Nat) (n:Nt):Option Nt:=(cP.f n.ks).bind fun t0=>(cS.f k n.ps).bind fun t1=>(cS.f k n.ss).bind fun t2=>(cS.f k n.ib).bind fun t3=>some ⟨t0,t1,t2,t3,n.sd⟩
theorem eI.calls {k:Nat} {v0 v1 v2 v3:Value} {n r:Nt} {w:World} (hn:NC w v0 v1 v2 v3 n) (h:eI.f k n=some r):
    Calls Tryz.prog 55 #[.agg #[v0,v1,v2,v3,.int .i64 n.sd]] w (D4 w r):=by
 obtain ⟨A0,c0,A1,c1,A2,c2,A3,c3,⟨rfl,rfl,rfl,rfl⟩,⟨x0,y0⟩,⟨x1,y1⟩,⟨x2,y2⟩,⟨x3,y3⟩⟩:=hn
 have X0:=ak x0;have X1:=ak x1;have X2:=ak x2;have X3:=ak x3;have Y0:=ak y0;have Y1:=ak y1;have Y2:=ak y2;have Y3:=ak y3
 clear x0 x1 x2 x3 y0 y1 y2 y3
 obtain ⟨ks,ps,ss,ib,sd⟩:=n
 dsimp only at X0 X1 X2 X3 Y0 Y1 Y2 Y3⊢
 have mX:=Tryz.underlying27
 have HS:=Sep.nil w
 unfold eI.f at h
 dsimp only at h
 replace h:=bS h;obtain ⟨t0,T0,h⟩:=h
 replace h:=bS h;obtain ⟨t1,T1,h⟩:=h
 replace h:=bS h;obtain ⟨t2,T2,h⟩:=h
 replace h:=bS h;obtain ⟨t3,T3,h⟩:=h
 obtain rfl:=Option.some.inj h
 clear h
 go_enter Tryz.func55,Tryz.ntmps55
 go_upto_region 1 with (first|((with_reducible refine ax (N:=1) rfl ?_);refine cm 1 #[.slice A0 ks.length c0,.slice A1 ps.length c1,.slice A2 ss.length c2,.slice A3 ib.length c3,.int .i64 sd] 27 ?_;intro b1 cg W_ bQ bn;replace HS:=HS.box cg bQ bn;clear cg bQ bn;have gi:=aD (HS.bf 0))|((with_reducible refine ax (N:=2) rfl ?_);refine cm 2 #[.slice none 0 0,.slice none 0 0,.slice none 0 0,.slice none 0 0,.int .i64 0] 27 ?_;intro b2 cg W_ bQ bn;replace HS:=HS.box cg bQ bn;clear cg bQ bn;clear gi;have fl:=aD (HS.bf 0);clear fl;have fl:=aD (HS.bf 0);have gi:=aD (HS.bf 1)))
 clear fl gi
 have gi:=aD (HS.bf 1)
 refine ef (n:=16) (S:=fun w'=>w'.cell? ⟨b1,0,none⟩=some (.slice A0 ks.length c0)∧w'.cell? ⟨b1,1,none⟩=some (.slice A1 ps.length c1)∧w'.cell? ⟨b1,2,none⟩=some (.slice A2 ss.length c2)∧w'.cell? ⟨b1,3,none⟩=some (.slice A3 ib.length c3)∧w'.cell? ⟨b1,4,none⟩=some (.int .i64 sd)) (ds:=[]) (bl 16 0) (by kernel_rfl) rfl rfl ⟨gi.1,gi.2.1,gi.2.2.1,gi.2.2.2.1,gi.2.2.2.2.1⟩ (fun an=> ?_);refine bW eI.Ej eI.yA (fun aC eE=> ?_)
 clear gi
 replace HS:=HS.drew
 generalize World.drew _=vO at HS an⊢
 refine ag 0 (some 3) 16 1 aC ?_
 refine cl 1 (some 4) 16 3 aC eE an ?_ (hy:=by rintro w' ⟨s0,s1,s2,s3,s4⟩;go_simp;with_reducible rfl)
 refine ag 3 (some 6) 16 11 aC ?_
 refine cl 4 (some 7) 16 27 aC eE an ?_ (hy:=by rintro w' ⟨s0,s1,s2,s3,s4⟩;go_simp;with_reducible rfl)
 refine ag 6 (some 9) 16 91 aC ?_
 refine cl 7 (some 10) 16 219 aC eE an ?_ (hy:=by rintro w' ⟨s0,s1,s2,s3,s4⟩;go_simp;with_reducible rfl)
 refine ag 9 (some 12) 16 731 aC ?_
 refine cl 10 (some 13) 16 1755 aC eE an ?_ (hy:=by rintro w' ⟨s0,s1,s2,s3,s4⟩;go_simp;with_reducible rfl)
 refine ag 12 (some 15) 16 5851 aC ?_
 refine cl 13 (some 16) 16 14043 aC eE an ?_ (hy:=by rintro w' ⟨s0,s1,s2,s3,s4⟩;go_simp;with_reducible rfl)
 refine gv 2 (some 5) 16 14047 aC (fun K hK=> ?_)
 refine gw Tryz.func85 (by kernel_rfl) rfl #[.slice A0 ks.length c0] (by rfl) rfl rfl (by (try simp only [List.map_toArray,List.map_cons,List.map_nil]);first|done|rfl) ?_
 have dj:=cP.calls _ _ ks t0 _ (Kd.aH X0.out HS.base) Y0.out T0.out
 refine dj.mono ?_
 clear dj an
 rintro e W_ ⟨u0,rfl,bQ,bn⟩
 refine ⟨_,rfl,?_⟩
 replace HS:=HS.new (A:=rA KI 3 u0 t0) bn bQ
 obtain ⟨B0,d0,rfl⟩:=HS.lJ 0
 clear bQ bn
 have gi:=aD (HS.bf 2)
 refine hK.out _ _ ⟨gi.1,gi.2.1,gi.2.2.1,gi.2.2.2.1,gi.2.2.2.2.1⟩ (fun an=> ?_)
 clear hK K gi
 refine dF (a':= ?_) ?_ ?_
 rotate_left
 ·show Act.put _ (some 5) _=_
  simp only [Act.put,List.setIfInBounds_toArray,List.set_cons_zero,List.set_cons_succ,bX,cL]
  rfl
 refine gv 5 (some 8) 16 14079 aC (fun K hK=> ?_)
 refine gw Tryz.func91 (by kernel_rfl) rfl #[.slice A1 ps.length c1] (by rfl) rfl rfl (by (try simp only [List.map_toArray,List.map_cons,List.map_nil]);first|done|rfl) ?_
 have dj:=cS.calls k _ _ ps t1 _ (Kd.aH X1.out HS.base) Y1.out T1.out
 refine dj.mono ?_
 clear dj an
 rintro e W_ ⟨u1,rfl,bQ,bn⟩
 refine ⟨_,rfl,?_⟩
 replace HS:=HS.new (A:=sA KT 62 u1 t1) bn bQ
 obtain ⟨B1,d1,rfl⟩:=HS.jZ 0
 clear bQ bn
 have gi:=aD (HS.bf 3)
 refine hK.out _ _ ⟨gi.1,gi.2.1,gi.2.2.1,gi.2.2.2.1,gi.2.2.2.2.1⟩ (fun an=> ?_)
 clear hK K gi
 refine dF (a':= ?_) ?_ ?_
 rotate_left
 ·show Act.put _ (some 8) _=_
  simp only [Act.put,List.setIfInBounds_toArray,List.set_cons_zero,List.set_cons_succ,bX,cL]
  rfl
 refine gv 8 (some 11) 16 14335 aC (fun K hK=> ?_)
 refine gw Tryz.func91 (by kernel_rfl) rfl #[.slice A2 ss.length c2] (by rfl) rfl rfl (by (try simp only [List.map_toArray,List.map_cons,List.map_nil]);first|done|rfl) ?_
 have dj:=cS.calls k _ _ ss t2 _ (Kd.aH X2.out HS.base) Y2.out T2.out
 refine dj.mono ?_
 clear dj an
 rintro e W_ ⟨u2,rfl,bQ,bn⟩
 refine ⟨_,rfl,?_⟩
 replace HS:=HS.new (A:=sA KT 62 u2 t2) bn bQ
 obtain ⟨B2,d2,rfl⟩:=HS.jZ 0
 clear bQ bn
 have gi:=aD (HS.bf 4)
 refine hK.out _ _ ⟨gi.1,gi.2.1,gi.2.2.1,gi.2.2.2.1,gi.2.2.2.2.1⟩ (fun an=> ?_)
 clear hK K gi
 refine dF (a':= ?_) ?_ ?_
 rotate_left
 ·show Act.put _ (some 11) _=_
  simp only [Act.put,List.setIfInBounds_toArray,List.set_cons_zero,List.set_cons_succ,bX,cL]
  rfl
 refine gv 11 (some 14) 16 16383 aC (fun K hK=> ?_)
 refine gw Tryz.func91 (by kernel_rfl) rfl #[.slice A3 ib.length c3] (by rfl) rfl rfl (by (try simp only [List.map_toArray,List.map_cons,List.map_nil]);first|done|rfl) ?_
 have dj:=cS.calls k _ _ ib t3 _ (Kd.aH X3.out HS.base) Y3.out T3.out
 refine dj.mono ?_
 clear dj an
 rintro e W_ ⟨u3,rfl,bQ,bn⟩
 refine ⟨_,rfl,?_⟩
 replace HS:=HS.new (A:=sA KT 62 u3 t3) bn bQ
 obtain ⟨B3,d3,rfl⟩:=HS.jZ 0
 clear bQ bn
 have gi:=aD (HS.bf 5)
 refine hK.out _ _ ⟨gi.1,gi.2.1,gi.2.2.1,gi.2.2.2.1,gi.2.2.2.2.1⟩ (fun an=> ?_)
 clear hK K gi
 refine dF (a':= ?_) ?_ ?_
 rotate_left
 ·show Act.put _ (some 14) _=_
  simp only [Act.put,List.setIfInBounds_toArray,List.set_cons_zero,List.set_cons_succ,bX,cL]
  rfl
 refine ag 14 (some 17) 16 32767 aC ?_
 refine gv 15 none 16 65535 aC (fun K hK=> ?_)
 clear an
 have fl:=aD (HS.bf 4)
 refine kW (w1:= ?_) (by rfl) rfl ?_ ?_
 rotate_left
 ·go_simp
  rfl
 replace HS:=(((((HS.dg 4 0 (.slice B0 t0.length d0) #[.slice B0 t0.length d0,.slice none 0 0,.slice none 0 0,.slice none 0 0,.int .i64 0]).dg 4 1 (.slice B1 t1.length d1) #[.slice B0 t0.length d0,.slice B1 t1.length d1,.slice none 0 0,.slice none 0 0,.int .i64 0]).dg 4 2 (.slice B2 t2.length d2) #[.slice B0 t0.length d0,.slice B1 t1.length d1,.slice B2 t2.length d2,.slice none 0 0,.int .i64 0]).dg 4 3 (.slice B3 t3.length d3) #[.slice B0 t0.length d0,.slice B1 t1.length d1,.slice B2 t2.length d2,.slice B3 t3.length d3,.int .i64 0]).dg 4 4 (.int .i64 sd) #[.slice B0 t0.length d0,.slice B1 t1.length d1,.slice B2 t2.length d2,.slice B3 t3.length d3,.int .i64 sd])
 clear fl
 have gi:=aD (HS.bf 5)
 refine hK.out _ _ ⟨gi.1,gi.2.1,gi.2.2.1,gi.2.2.2.1,gi.2.2.2.2.1⟩ (fun an=> ?_)
 clear hK K gi
 refine fm (cW aC.out (by kernel_rfl)) ?_
 clear aC eE an
 go_wp2
 refine bodyPost_ret (results_cell_row rfl _ _ b2 27 #[.slice B0 t0.length d0,.slice B1 t1.length d1,.slice B2 t2.length d2,.slice B3 t3.length d3,.int .i64 sd] (0,0) _ rfl (by exact (HS.bf 4).out) Tryz.underlying27 rfl (by kernel_rfl)) rfl ?_
 exact ⟨_,_,_,_,rfl,(HS.sel [3,2,1,0]).YY,HS.base⟩
def dQ.f (a0:ByteArray):Option (Bool):=some (a0.toList !=a0.toList)
theorem dQ.calls (a0:ByteArray) (r:Bool) (w:World) (h:dQ.f a0=some r):
  Calls Tryz.prog 165 #[.string a0] w fun e w'=>e= .returned (.bool r)∧cH w w':=by
 have H:(some (a0.toList !=a0.toList))=some r:=h
 clear h
 obtain rfl:=Option.some.inj H
 go_enter Tryz.func165,Tryz.ntmps165
 go_wp2
 go_ret
 exact ⟨er,gh⟩
def fq.f (a0:ByteArray) (a1:ByteArray):Option (Bool):=(dQ.f a0).bind fun t147=>(if t147=true then ((dQ.f a1).bind fun t148=>(if t148=true then (some (Op.bytesLess a0.toList a1.toList)) else (some true))) else (some (Op.bytesLess a0.toList a1.toList)))
theorem fq.calls (a0:ByteArray) (a1:ByteArray) (r:Bool) (w:World) (h:fq.f a0 a1=some r):
  Calls Tryz.prog 149 #[.string a0,.string a1] w fun e w'=>e= .returned (.bool r)∧cH w w':=by
 have H:((dQ.f a0).bind fun t147=>(if t147=true then ((dQ.f a1).bind fun t148=>(if t148=true then (some (Op.bytesLess a0.toList a1.toList)) else (some true))) else (some (Op.bytesLess a0.toList a1.toList))))=some r:=h
 clear h;replace H:=bS H;obtain ⟨t147,A3,H⟩:=H
 by_cases c4:t147=true
 ·subst c4
  have H1:((dQ.f a1).bind fun t148=>(if t148=true then (some (Op.bytesLess a0.toList a1.toList)) else (some true)))=some r:=by rw [if_pos rfl] at H;exact H
  clear H
  have H:=H1
  clear H1;replace H:=bS H;obtain ⟨t148,A5,H⟩:=H
  by_cases c6:t148=true
  ·subst c6
   have H1:(some (Op.bytesLess a0.toList a1.toList))=some r:=by rw [if_pos rfl] at H;exact H
   clear H
   have H:=H1
   clear H1
   obtain rfl:=Option.some.inj H
   go_enter Tryz.func149,Tryz.ntmps149
   go_wp2_with (first|((with_reducible refine eG (f:=165) rfl ?_);refine kS (some 6) rfl Tryz.func165 #[.string a0] rfl ?_;(with_reducible refine (dQ.calls a0 true _ A3.out).mono ?_);rintro e w' ⟨rfl,⟨nd,rfl⟩⟩;refine ⟨_,rfl,?_⟩)|(go_at_call 165;(with_reducible refine (dQ.calls a1 true _ A5.out).mono ?_);rintro e w' ⟨rfl,⟨nd,rfl⟩⟩))
   go_ret
   exact ⟨er,gh⟩
  ·replace c6:=Bool.eq_false_iff.mpr c6
   subst c6
   have H1:(some true)=some r:=by rw [if_neg (show¬(false=true) by decide)] at H;exact H
   clear H
   have H:=H1
   clear H1
   obtain rfl:=Option.some.inj H
   go_enter Tryz.func149,Tryz.ntmps149
   go_wp2_with (first|((with_reducible refine eG (f:=165) rfl ?_);refine kS (some 6) rfl Tryz.func165 #[.string a0] rfl ?_;(with_reducible refine (dQ.calls a0 true _ A3.out).mono ?_);rintro e w' ⟨rfl,⟨nd,rfl⟩⟩;refine ⟨_,rfl,?_⟩)|(go_at_call 165;(with_reducible refine (dQ.calls a1 false _ A5.out).mono ?_);rintro e w' ⟨rfl,⟨nd,rfl⟩⟩))
   go_ret
   exact ⟨er,gh⟩
 ·replace c4:=Bool.eq_false_iff.mpr c4
  subst c4
  have H1:(some (Op.bytesLess a0.toList a1.toList))=some r:=by rw [if_neg (show¬(false=true) by decide)] at H;exact H
  clear H
  have H:=H1
  clear H1
  obtain rfl:=Option.some.inj H
  go_enter Tryz.func149,Tryz.ntmps149
  go_wp2_with (first|(go_at_call 165;(with_reducible refine (dQ.calls a0 false _ A3.out).mono ?_);rintro e w' ⟨rfl,⟨nd,rfl⟩⟩))
  go_ret
  exact ⟨er,gh⟩
def dY.f (a0:ByteArray):Option (Bool):=some (a0.toList !=a0.toList)
theorem dY.calls (a0:ByteArray) (r:Bool) (w:World) (h:dY.f a0=some r):
  Calls Tryz.prog 150 #[.string a0] w fun e w'=>e= .returned (.bool r)∧cH w w':=by
 have H:(some (a0.toList !=a0.toList))=some r:=h
 clear h
 obtain rfl:=Option.some.inj H
 go_enter Tryz.func150,Tryz.ntmps150
 go_wp2
 go_ret
 exact ⟨er,gh⟩
def az.l0:Nat→List ByteArray→ByteArray→Int→Int→Int→Option (Int×Bool)
  |0,_,_,_,_,_=>none
  |k+1,x0,x1,x6,x7,x8=>if x7<x8 then (if 0≤(wrap64 ((IntKind.u64.wrap (wrap64 (x7+x8)))/2)) then (if (wrap64 ((IntKind.u64.wrap (wrap64 (x7+x8)))/2))<(x0.length:Int) then ((fq.f (aV ByteArray.empty x0 (wrap64 ((IntKind.u64.wrap (wrap64 (x7+x8)))/2))) x1).bind fun t150=>(if t150=true then (az.l0 k x0 x1 x6 (wrap64 ((wrap64 ((IntKind.u64.wrap (wrap64 (x7+x8)))/2))+1)) x8) else (az.l0 k x0 x1 x6 x7 (wrap64 ((IntKind.u64.wrap (wrap64 (x7+x8)))/2))))) else (none)) else (none)) else (if x7<x6 then (if 0≤x7 then (if x7<(x0.length:Int) then (if (aV ByteArray.empty x0 x7).toList=x1.toList then (some (x7,true)) else ((dY.f (aV ByteArray.empty x0 x7)).bind fun t153=>(if t153=true then ((dY.f x1).bind fun t154=>(some (x7,t154))) else (some (x7,false))))) else (none)) else (none)) else (some (x7,false)))
def az.f (k:Nat) (l0:List ByteArray) (a1:ByteArray):Option (Int×Bool):=az.l0 k l0 a1 (l0.length:Int) 0 (l0.length:Int)
theorem az.calls (k:Nat) (A0:Option Addr) (c0:Nat) (l0:List ByteArray) (a1:ByteArray) (r1:Int) (r2:Bool) (w:World) (eT:Kd.C Kd.string w A0 l0.length l0) (fE:l0.length≤c0) (h:az.f k l0 a1=some (r1,r2)):
  Calls Tryz.prog 133 #[.slice A0 l0.length c0,.string a1] w fun e w'=>e= .returned (.tuple #[.int .i64 r1,.bool r2])∧cH w w':=by
 have fB:=ak eT;have jD:=ak fE;clear eT fE
 have H:(az.l0 k l0 a1 (l0.length:Int) 0 (l0.length:Int))=some (r1,r2):=h
 clear h
 have H':=ak H
 clear H
 go_enter Tryz.func133,Tryz.ntmps133
 go_wp2
 go_loopg [7,8] k (fun kq v7 v8 w'=>∃(de:Int) (cO:Int),v7= .int .i64 de∧v8= .int .i64 cO∧Aside0 (az.l0 kq l0 a1 (l0.length:Int) de cO=some (r1,r2))∧Aside0 (kq≤k)∧cH w w')
 case atStart=>exact ⟨(0),((l0.length:Int)),er,er,H',⟨Nat.le_refl _⟩,gh⟩
 case round=>
  clear H'
  obtain ⟨de,cO,rfl,rfl,HA,fP,⟨m1,rfl⟩⟩:=hrel
  cases gk with
  |zero=>exact absurd HA.out (by simp [az.l0])
  |succ k1=>
   have H:=HA.out;clear HA
   simp only [az.l0] at H
   by_cases c3:de<cO
   ·rw [if_pos c3] at H
    have jh:=decide_eq_true c3
    clear c3
    obtain ⟨Eb,Fq⟩:∃j_:Int,(wrap64 ((IntKind.u64.wrap (wrap64 (de+cO)))/2))=j_:=⟨_,rfl⟩
    replace H:(if 0≤(Eb) then (if (Eb)<(l0.length:Int) then ((fq.f (aV ByteArray.empty l0 (Eb)) a1).bind fun t150=>(if t150=true then (az.l0 k1 l0 a1 (l0.length:Int) (wrap64 ((Eb)+1)) cO) else (az.l0 k1 l0 a1 (l0.length:Int) de Eb))) else (none)) else (none))=some (r1,r2):=by first|(rw [Fq] at H;exact H)|(simp only [Fq] at H⊢;exact H)
    have afE:(IntKind.i64.wrap ((IntKind.u64.wrap (wrap64 (de+cO)))/2))=Eb:=(bX _).trans Fq
    replace H:=cZ H;obtain ⟨c5,H⟩:=H;have jg:=decide_eq_true c5;clear c5;replace H:=cZ H;obtain ⟨c6,H⟩:=H;have jz:=decide_eq_true c6;clear c6;replace H:=bS H;obtain ⟨t150,A7,H⟩:=H
    by_cases c8:t150=true
    ·subst c8
     have H1:(az.l0 k1 l0 a1 (l0.length:Int) (wrap64 ((Eb)+1)) cO)=some (r1,r2):=by rw [if_pos rfl] at H;exact H
     clear H
     have H:=H1
     clear H1
     have H':=ak H
     clear H
     obtain ⟨ade,acW,aad,UY,Pu⟩:=m5 (Kd.bh fB.out (Eb))
     cases UY
     go_wp2_with (first|((with_reducible refine eG (f:=149) rfl ?_);refine BU (some 27) rfl rfl Tryz.func149 (by kernel_rfl) rfl #[.string (aV ByteArray.empty l0 (Eb)),.string a1] rfl (by (try simp only [List.map_toArray,List.map_cons,List.map_nil]);first|done|(simp only [Fq];rfl)|rfl|(simp only [List.length_drop,List.length_take];rfl)) ?_;(with_reducible refine (fq.calls (aV ByteArray.empty l0 (Eb)) a1 true _ A7.out).mono ?_);rintro e w' ⟨rfl,⟨nd,rfl⟩⟩;refine ⟨_,rfl,?_⟩))
     go_roundg k1
     case measure=>have:=fP.out;omega
     case rel=>exact ⟨(wrap64 ((Eb)+1)),(cO),(by first|rfl|(simp;done)|(simp only [←Fq]<;>(first|rfl|simp))|(simp [*];done)),er,H',⟨by have:=fP.out;omega⟩,gh⟩
    ·replace c8:=Bool.eq_false_iff.mpr c8
     subst c8
     have H1:(az.l0 k1 l0 a1 (l0.length:Int) de Eb)=some (r1,r2):=by rw [if_neg (show¬(false=true) by decide)] at H;exact H
     clear H
     have H:=H1
     clear H1
     have H':=ak H
     clear H
     obtain ⟨ade,acW,aad,UY,Pu⟩:=m5 (Kd.bh fB.out (Eb))
     cases UY
     go_wp2_with (first|((with_reducible refine eG (f:=149) rfl ?_);refine BU (some 27) rfl rfl Tryz.func149 (by kernel_rfl) rfl #[.string (aV ByteArray.empty l0 (Eb)),.string a1] rfl (by (try simp only [List.map_toArray,List.map_cons,List.map_nil]);first|done|(simp only [Fq];rfl)|rfl|(simp only [List.length_drop,List.length_take];rfl)) ?_;(with_reducible refine (fq.calls (aV ByteArray.empty l0 (Eb)) a1 false _ A7.out).mono ?_);rintro e w' ⟨rfl,⟨nd,rfl⟩⟩;refine ⟨_,rfl,?_⟩))
     go_roundg k1
     case measure=>have:=fP.out;omega
     case rel=>exact ⟨(de),(Eb),er,(by first|rfl|(simp;done)|(simp only [←Fq]<;>(first|rfl|simp))|(simp [*];done)),H',⟨by have:=fP.out;omega⟩,gh⟩
   ·rw [if_neg c3] at H
    have jh:=decide_eq_false c3
    clear c3
    by_cases c9:de<(l0.length:Int)
    ·rw [if_pos c9] at H
     have lQ:=decide_eq_true c9
     clear c9;replace H:=cZ H;obtain ⟨gu,H⟩:=H;have kC:=decide_eq_true gu;clear gu;replace H:=cZ H;obtain ⟨lp,H⟩:=H;have lW:=decide_eq_true lp;clear lp
     by_cases nL:(aV ByteArray.empty l0 de).toList=a1.toList
     ·rw [if_pos nL] at H
      have pU:=kI nL
      have RB:=kH nL
      clear nL
      simp only [Option.some.injEq,Prod.mk.injEq] at H
      obtain ⟨rfl,rfl⟩:=H
      have Lp:0≤(de:Int):=da
      have Lm:de<(l0.length:Int):=da
      obtain ⟨Iq,ME,He⟩:=Kd.bh fB.out de Lp Lm
      cases ME
      replace Lp:=eq_true Lp;replace Lm:=eq_true Lm;go_wp2
      go_ret2
      exact ⟨er,gh⟩
     ·rw [if_neg nL] at H
      have pU:=jV nL
      have RB:=jU nL
      replace H:=bS H;obtain ⟨t153,rC,H⟩:=H
      by_cases nv:t153=true
      ·subst nv
       have H1:((dY.f a1).bind fun t154=>(some (de,t154)))=some (r1,r2):=by rw [if_pos rfl] at H;exact H
       clear H
       have H:=H1
       clear H1;replace H:=bS H;obtain ⟨t154,A15,H⟩:=H
       simp only [Option.some.injEq,Prod.mk.injEq] at H
       obtain ⟨rfl,rfl⟩:=H
       obtain ⟨Lp,Lm,Iq,ME,He⟩:=m5 (Kd.bh fB.out de)
       cases ME
       obtain ⟨adb,acV,Nl,UX,Pt⟩:=m5 (Kd.bh fB.out de)
       obtain rfl:Iq=Nl:=(by injection UX)
       go_wp2_with (first|(go_at_call 150;(with_reducible refine (dY.calls (aV ByteArray.empty l0 de) true _ rC.out).mono ?_);rintro e w' ⟨rfl,⟨nd,rfl⟩⟩)|(go_at_call 150;(with_reducible refine (dY.calls a1 t154 _ A15.out).mono ?_);rintro e w' ⟨rfl,⟨nd,rfl⟩⟩))
       go_ret2
       exact ⟨er,gh⟩
      ·replace nv:=Bool.eq_false_iff.mpr nv
       subst nv
       have H1:(some (de,false))=some (r1,r2):=by rw [if_neg (show¬(false=true) by decide)] at H;exact H
       clear H
       have H:=H1
       clear H1
       simp only [Option.some.injEq,Prod.mk.injEq] at H
       obtain ⟨rfl,rfl⟩:=H
       obtain ⟨Lp,Lm,Iq,ME,He⟩:=m5 (Kd.bh fB.out de)
       cases ME
       obtain ⟨adb,acV,Nl,UX,Pt⟩:=m5 (Kd.bh fB.out de)
       obtain rfl:Iq=Nl:=(by injection UX)
       go_wp2_with (first|(go_at_call 150;(with_reducible refine (dY.calls (aV ByteArray.empty l0 de) false _ rC.out).mono ?_);rintro e w' ⟨rfl,⟨nd,rfl⟩⟩))
       go_ret2
       exact ⟨er,gh⟩
    ·rw [if_neg c9] at H
     have lQ:=decide_eq_false c9
     clear c9
     simp only [Option.some.injEq,Prod.mk.injEq] at H
     obtain ⟨rfl,rfl⟩:=H;go_wp2
     go_ret2
     exact ⟨er,gh⟩
def eC.f (k:Nat) (l0:List ByteArray) (a1:ByteArray):Option (List ByteArray):=(az.f k l0 a1).bind fun t=>((bq.f l0).bind fun c=>(if c.length≤4194304 then (if 0≤t.1 then (if t.1≤(c.length:Int) then (some (c.take t.1.toNat++a1::c.drop t.1.toNat)) else (none)) else (none)) else (none)))
theorem eC.calls (k:Nat) (A0:Option Addr) (c0:Nat) (l0:List ByteArray) (a1:ByteArray) (r:List ByteArray) (w:World) (eT:Kd.C Kd.string w A0 l0.length l0) (fE:l0.length≤c0) (h:eC.f k l0 a1=some r):
  Calls Tryz.prog 119 #[.slice A0 l0.length c0,.string a1] w fun e w'=>∃kV:Value,e= .returned (kV)∧Kd.R Kd.string 9 w' w.heap.size (fun _=>True) kV r∧Below w.heap.size w w':=by
 have fB:=ak eT;have jD:=ak fE;clear eT fE
 have HB:=ak (Below.refl w.heap.size w)
 unfold eC.f at h
 replace h:=bS h
 obtain ⟨⟨t1,t2⟩,A1,h⟩:=h
 replace h:=bS h
 obtain ⟨c,A2,h⟩:=h
 replace h:=cZ h
 obtain ⟨c1,h⟩:=h
 replace h:=cZ h
 obtain ⟨c2,h⟩:=h
 replace h:=cZ h
 obtain ⟨c3,h⟩:=h
 dsimp only at c2 c3 h
 obtain ⟨i,rfl⟩:=Int.eq_ofNat_of_zero_le c2
 obtain rfl:=Option.some.inj h
 rw [Int.toNat_natCast]
 clear h
 have LI:=ak (show i≤c.length by omega)
 have LC:=ak c1;clear c1 c2 c3
 go_enter Tryz.func119,Tryz.ntmps119
 go_wp2_with (first|(go_at_call 133;(with_reducible refine (az.calls k _ _ l0 a1 (i:Int) t2 _ fB.out jD.out A1.out).mono ?_);rintro e w1 ⟨rfl,⟨nd,rfl⟩⟩)|(go_at_call 105;(with_reducible refine (bq.calls _ _ l0 c _ ?side1 ?side2 A2.out).mono ?_);(case side1=>exact cd fB.out);(case side2=>exact jD.out);rintro e w2 ⟨v14,rfl,ho,hb⟩;have HO:=ak (Kd.dB ho (bC (ai HB)));replace HB:=ak (aE (ai HB) hb);clear ho hb)|((with_reducible refine ax (N:=17) rfl ?_);refine Kd.gy Kd.string _ 9 ?hg (N:=17) ?hd (xs:=([a1]:List ByteArray)) (inner:=[.string a1]) (ok:=fun _=>True) (okp:=fun _=>True) ?hr ?hp (fun _ hk=>hk) trivial (Below.refl _ _) (Nat.le_refl _) (by simp) ?_;(case hd=>rfl);(case hg=>rfl);(case hr=>exact qg);(case hp=>exact (bN.one (show Kd.M Kd.string _ _ _ (a1) [.string a1] from rfl) (bN.none _ _)));intro v17 w3 Q4 hb3 cg dZ;clear cg dZ;have HU:=ak (Kd.dB (Kd.bF (Kd.qN Q4 (Kd.rH (fy HO))) (fun _ h_=>h_.2)) (bC (ai HB)));replace HO:=ak (Kd.ey (fy HO) hb3);replace HB:=ak (aE (ai HB) hb3);clear Q4 hb3)|(go_at_call 134;(with_reducible refine (Fh.calls (ai HB) (fy HO) (fy HU) LI.out LC.out).mono ?_);rintro e w4 ⟨v18,rfl,ho,hb⟩;clear HO HU;have HO:=ak ho;replace HB:=ak hb;clear ho hb))
 go_ret
 exact ⟨_,rfl,HO.out,HB.out⟩
def bV.T1:Bool×List (List Nat×List Nat):=(true,[([],[]),([0],[0]),([1],[1]),([2],[2]),([],[]),([],[]),([5],[5]),([6],[6]),([7],[7]),([],[]),([],[]),([10],[10]),([11],[11]),([12],[12]),([],[]),([13,14],[13,14]),([15],[15]),([],[]),([16,17],[16,17]),([],[]),([19],[19]),([20],[20]),([21],[21]),([],[]),([22,23],[22,23]),([24],[24]),([],[]),([25,26,18],[25,26]),([3,4,0,1,2,3,4,8,10,11,12,13,14,15,16,17,18,22,25,27],[3,4]),([28,18,27,0,1,2,3,4,8,10,11,12,13,14,15,16,17,18,22,25,27],[18,28]),([8,9,0,1,2,3,4,5,6,7,8,9,10,11,12,13,14,15,16,17,18,19,20,21,22,23,24,25,26,27,28,29],[8,9]),([30,27,29,0,1,2,3,4,5,6,7,8,9,10,11,12,13,14,15,16,17,18,19,20,21,22,23,24,25,26,27,28,29],[27,30])])
def bV.B1:List Nat:=[0,1,3,7,0,0,32,96,224,0,0,1024,3072,7168,0,31744,64512,0,261120,0,524288,1572864,3670016,0,16252928,33030144,0,134216704,268434943,536870399,1073741823,2147483647]
theorem bV.Ej:gq .any (opsOf Tryz.f98 1)=bV.T1:=by kernel_rfl
theorem bV.yA:eF bV.T1.2 bV.B1=true:=by kernel_rfl
def bV.f (k:Nat) (n:Nt) (i:Int) (s:ByteArray):Option Nt:=if 0≤i∧i<(n.ps.length:Int)∧i<(n.ss.length:Int) then (cI.f k (n.ss.getD i.toNat []) s).bind fun b=>if b=true∨(n.ss.getD i.toNat []).length=100 then some n else (eC.f k (n.ss.getD i.toNat []) s).bind fun S=>(eC.f k (n.ps.getD i.toNat []) s).bind fun P=>some ⟨n.ks,n.ps.set i.toNat P,n.ss.set i.toNat S,n.ib,n.sd⟩ else none
theorem bV.keeps {k:Nat} {n m:Nt} {i:Int} {s:ByteArray} (h:bV.f k n i s=some m):m.ks=n.ks∧m.ib=n.ib∧m.sd=n.sd:=by
 unfold bV.f at h
 replace h:=cZ h;obtain ⟨-,h⟩:=h
 replace h:=bS h;obtain ⟨b,-,h⟩:=h
 split at h
 ·obtain rfl:=Option.some.inj h;exact ⟨rfl,rfl,rfl⟩
 ·replace h:=bS h;obtain ⟨_,-,h⟩:=h;replace h:=bS h;obtain ⟨_,-,h⟩:=h;obtain rfl:=Option.some.inj h;exact ⟨rfl,rfl,rfl⟩
theorem bV.calls {k:Nat} {v0 v1 v2 v3:Value} {n m:Nt} {i:Int} {s:ByteArray} {L:List SA} {w0 w:World} {b0:Nat} (hs:Sep w0 w (bA b0 #[v0,v1,v2,v3,.int .i64 n.sd] 27::fH v0 v1 v2 v3 n++L)) (h:bV.f k n i s=some m):
    Calls Tryz.prog 98 #[.pointer (some ⟨b0,0,none⟩),.int .i64 i,.string s] w fun e w'=>e= .returned (.tuple #[])∧Sep w0 w' (bA b0 #[v0,v1,v2,v3,.int .i64 n.sd] 27::fH v0 v1 v2 v3 m++L):=by
 have mX:=Tryz.underlying27
 obtain ⟨ks,ps,ss,ib,sd⟩:=n
 have HS:Sep w0 w (bA b0 #[v0,v1,v2,v3,.int .i64 sd] 27::rA KI 3 v0 ks::sA KT 62 v1 ps::sA KT 62 v2 ss::sA KT 62 v3 ib::L):=hs
 clear hs
 unfold bV.f at h
 dsimp only at h⊢
 replace h:=cZ h;obtain ⟨⟨i0,i1,i2⟩,h⟩:=h
 obtain ⟨A0,c0,rfl⟩:=HS.lJ 1
 obtain ⟨A3,c3,rfl⟩:=HS.jZ 4
 obtain ⟨g1,q1,rfl⟩:=HS.addr 2 (hx:=by omega)
 obtain ⟨g2,q2,rfl⟩:=HS.addr 3 (hx:=by omega)
 have p0:(0≤i)=True:=eq_true i0
 have p1:(i<(ps.length:Int))=True:=eq_true i1
 have p2:(i<(ss.length:Int))=True:=eq_true i2
 obtain ⟨AP,qP,HS,-,-⟩:=HS.mN.zf i i0 i1
 obtain ⟨AS,qS,HS,-,-⟩:=HS.mM.zf i i0 i2
 generalize hS:ss.getD i.toNat []=S at HS h
 generalize hP:ps.getD i.toNat []=P at HS h
 have GS:=ak hS;have GP:=ak hP;clear hS hP
 replace h:=bS h;obtain ⟨b,T1,h⟩:=h
 by_cases hb:b=true∨S.length=100
 ·rw [if_pos hb] at h
  obtain rfl:=Option.some.inj h
  clear h
  have hl:b=false→((S.length:Int)==100)=true:=fun e=>beq_iff_eq.2 (by rcases hb with h|h;(rw [e] at h;cases h);omega)
  clear hb
  cases b
  all_goals
   first|replace hl:=hl rfl|clear hl
   go_enter Tryz.func98,Tryz.ntmps98
   have cK:=aD (HS.bf 4)
   obtain ⟨gf,iR⟩:=HS.hole i0 i2
   go_wp2_with (first|(go_at_call 73;have dj:=cI.calls k _ _ S s _ _ (HS.jb 1).2.2 (HS.jb 1).2.1 T1.out;refine dj.mono ?_;clear dj;rintro e W_ ⟨rfl,gX,rfl⟩;replace HS:=HS.drewN gX;generalize World.drewN _ gX=W_ at HS⊢;clear cK gf iR;have cK:=aD (HS.bf 4);obtain ⟨gf,iR⟩:=HS.hole i0 i2))
   refine bodyPost_ret (results_none rfl _ _ _) rfl ?_
   replace HS:=HS.rY GS
   replace HS:=HS.mN.mN.rY GP
   exact ⟨rfl,HS.mM.mN.mN.mM.mM⟩
 ·rw [if_neg hb] at h
  obtain ⟨PS,PR⟩:=not_or.1 hb
  obtain rfl:b=false:=by simpa using PS
  have hl:((S.length:Int)==100)=false:=beq_eq_false_iff_ne.2 (fun e=>PR (by omega))
  clear hb PS PR
  replace h:=bS h;obtain ⟨S',T2,h⟩:=h
  replace h:=bS h;obtain ⟨P',T3,h⟩:=h
  obtain rfl:=Option.some.inj h
  clear h
  go_enter Tryz.func98,Tryz.ntmps98
  have cK:=aD (HS.bf 4)
  obtain ⟨gf,iR⟩:=HS.hole i0 i2
  go_upto_region 1 with (first|(go_at_call 73;have dj:=cI.calls k _ _ S s _ _ (HS.jb 1).2.2 (HS.jb 1).2.1 T1.out;refine dj.mono ?_;clear dj;rintro e W_ ⟨rfl,gX,rfl⟩;replace HS:=HS.drewN gX;generalize World.drewN _ gX=W_ at HS⊢;clear cK gf iR;have cK:=aD (HS.bf 4);obtain ⟨gf,iR⟩:=HS.hole i0 i2))
  clear cK gf iR
  have cK:=aD (HS.bf 4)
  obtain ⟨gf,iR⟩:=HS.hole i0 i2
  obtain ⟨mF,pL⟩:=HS.mN.hole i0 i1
  refine ef (n:=32) (S:=fun w'=>w'.cell? ⟨b0,0,none⟩=some (.slice A0 ks.length c0)∧w'.cell? ⟨b0,1,none⟩=some (.slice (some ⟨g1,0,none⟩) ps.length q1)∧w'.cell? ⟨b0,2,none⟩=some (.slice (some ⟨g2,0,none⟩) ss.length q2)∧w'.cell? ⟨b0,3,none⟩=some (.slice A3 ib.length c3)∧w'.cell? ⟨b0,4,none⟩=some (.int .i64 sd)∧w'.cell? ⟨g2,i.toNat,none⟩=some (.slice AS S.length qS)∧w'.cell? ⟨g1,i.toNat,none⟩=some (.slice AP P.length qP)) (ds:=[29,31]) (bl 32 0) (by kernel_rfl) rfl rfl ⟨cK.1,cK.2.1,cK.2.2.1,cK.2.2.2.1,cK.2.2.2.2.1,gf,mF⟩ (fun an=> ?_);refine bW bV.Ej bV.yA (fun aC eE=> ?_)
  clear cK gf iR mF pL
  replace HS:=HS.drew
  generalize World.drew _=vO at HS an⊢
  refine ag 0 (some 26) 32 1 aC ?_
  refine ag 1 (some 27) 32 3 aC ?_
  refine ag 2 (some 28) 32 7 aC ?_
  refine cl 3 (some 29) 32 15 aC eE an ?_ (hy:=by rintro w' ⟨s0,s1,s2,s3,s4,s5,s6⟩;go_simp;with_reducible rfl)
  refine ag 4 (some 30) 32 31 aC ?_
  refine ag 5 (some 31) 32 63 aC ?_
  refine ag 6 (some 32) 32 127 aC ?_
  refine ag 7 (some 33) 32 255 aC ?_
  refine cl 8 (some 34) 32 511 aC eE an ?_ (hy:=by rintro w' ⟨s0,s1,s2,s3,s4,s5,s6⟩;go_simp;with_reducible rfl)
  refine ag 9 (some 35) 32 1023 aC ?_
  refine ag 10 (some 36) 32 2047 aC ?_
  refine ag 11 (some 37) 32 4095 aC ?_
  refine ag 12 (some 38) 32 8191 aC ?_
  refine cl 13 (some 39) 32 16383 aC eE an ?_ (hy:=by rintro w' ⟨s0,s1,s2,s3,s4,s5,s6⟩;go_simp;with_reducible rfl)
  refine ag 14 (some 40) 32 32767 aC ?_
  refine ag 15 (some 41) 32 65535 aC ?_
  refine cl 16 (some 42) 32 131071 aC eE an ?_ (hy:=by rintro w' ⟨s0,s1,s2,s3,s4,s5,s6⟩;go_simp;with_reducible rfl)
  refine ag 17 (some 43) 32 262143 aC ?_
  refine ag 19 (some 45) 32 786431 aC ?_
  refine ag 20 (some 46) 32 1835007 aC ?_
  refine ag 21 (some 47) 32 3932159 aC ?_
  refine cl 22 (some 48) 32 8126463 aC eE an ?_ (hy:=by rintro w' ⟨s0,s1,s2,s3,s4,s5,s6⟩;go_simp;with_reducible rfl)
  refine ag 23 (some 49) 32 16515071 aC ?_
  refine ag 24 (some 50) 32 33292287 aC ?_
  refine cl 25 (some 51) 32 66846719 aC eE an ?_ (hy:=by rintro w' ⟨s0,s1,s2,s3,s4,s5,s6⟩;go_simp;with_reducible rfl)
  refine ag 26 (some 52) 32 133955583 aC ?_
  refine gv 18 (some 44) 32 134217727 aC (fun K hK=> ?_)
  refine gw Tryz.func119 (by kernel_rfl) rfl #[.slice AS S.length qS,.string s] (by rfl) rfl rfl (by (try simp only [List.map_toArray,List.map_cons,List.map_nil]);first|done|rfl) ?_
  have dj:=eC.calls k _ _ S s S' _ (HS.jb 1).2.2 (HS.jb 1).2.1 T2.out
  refine dj.mono ?_
  clear dj an
  rintro e W_ ⟨u_,rfl,bQ,bn⟩
  refine ⟨_,rfl,?_⟩
  replace HS:=HS.new (A:=rA Kd.string 9 u_ S') bn bQ
  obtain ⟨AS1,qS1,rfl⟩:=HS.lJ 0
  clear bQ bn
  have cK:=aD (HS.bf 5)
  obtain ⟨gf,iR⟩:=HS.m7.hole i0 i2
  obtain ⟨mF,pL⟩:=HS.ya.hole i0 i1
  refine hK.out _ _ ⟨cK.1,cK.2.1,cK.2.2.1,cK.2.2.2.1,cK.2.2.2.2.1,gf,mF⟩ (fun an=> ?_)
  clear hK K cK gf iR mF pL
  refine dF (a':= ?_) ?_ ?_
  rotate_left
  ·show Act.put _ (some 44) _=_
   simp only [Act.put,List.setIfInBounds_toArray,List.set_cons_zero,List.set_cons_succ,bX,cL]
   rfl
  refine gv 27 (some 53) 32 268435455 aC (fun K hK=> ?_)
  refine gw Tryz.func119 (by kernel_rfl) rfl #[.slice AP P.length qP,.string s] (by rfl) rfl rfl (by (try simp only [List.map_toArray,List.map_cons,List.map_nil]);first|done|rfl) ?_
  have dj:=eC.calls k _ _ P s P' _ (HS.jb 4).2.2 (HS.jb 4).2.1 T3.out
  refine dj.mono ?_
  clear dj an
  rintro e W_ ⟨u_,rfl,bQ,bn⟩
  refine ⟨_,rfl,?_⟩
  replace HS:=HS.new (A:=rA Kd.string 9 u_ P') bn bQ
  obtain ⟨AP1,qP1,rfl⟩:=HS.lJ 0
  clear bQ bn
  have cK:=aD (HS.bf 6)
  obtain ⟨gf,iR⟩:=HS.mN.hole i0 i2
  obtain ⟨mF,pL⟩:=HS.mM.hole i0 i1
  refine hK.out _ _ ⟨cK.1,cK.2.1,cK.2.2.1,cK.2.2.2.1,cK.2.2.2.2.1,gf,mF⟩ (fun an=> ?_)
  clear hK K cK gf iR mF pL
  refine dF (a':= ?_) ?_ ?_
  rotate_left
  ·show Act.put _ (some 53) _=_
   simp only [Act.put,List.setIfInBounds_toArray,List.set_cons_zero,List.set_cons_succ,bX,cL]
   rfl
  refine ag 28 (some 54) 32 536870911 aC ?_
  refine mm (i:=29) (N:=none) (bl 32 1073741823) rfl rfl (jH aC.out (by kernel_rfl)) (by decide) (fun K hK=> ?_)
  clear an
  obtain ⟨gf,iR⟩:=HS.mN.hole i0 i2
  refine kW (w1:= ?_) (by rfl) rfl ?_ ?_
  rotate_left
  ·go_simp
   rfl
  clear gf iR
  replace HS:=HS.mN.Dk i0 i2 (.slice AS1 S'.length qS1) rfl
  refine hK.out _ _ ?_
  clear hK K
  obtain ⟨uI,iW,iZ⟩:=HS.gen
  rw [iW]
  clear HS iW
  have HS:=iZ
  clear iZ
  refine ag 30 (some 55) 32 2147483647 aC ?_
  refine mm (i:=31) (N:=none) (bl 32 4294967295) rfl rfl (jH aC.out (by kernel_rfl)) (by decide) (fun K hK=> ?_)
  obtain ⟨mF,pL⟩:=HS.mM.hole i0 i1
  refine kW (w1:= ?_) (by rfl) rfl ?_ ?_
  rotate_left
  ·go_simp
   rfl
  clear mF pL
  replace HS:=HS.mM.Dk i0 i1 (.slice AP1 P'.length qP1) rfl
  refine hK.out _ _ ?_
  clear hK K
  refine fm (cW aC.out (by kernel_rfl)) ?_
  clear aC eE
  obtain ⟨uI,iW,iZ⟩:=HS.gen
  rw [iW]
  clear HS iW
  have HS:=iZ
  clear iZ
  replace HS:=HS.mN.m7.back
  replace HS:=HS.mN.mN.back
  go_wp2
  refine bodyPost_end (results_none rfl _ _ _) rfl ?_
  replace HS:=HS.mN.tail
  replace HS:=HS.mN.tail
  exact ⟨rfl,HS.mM.m7.mN.mM.mM⟩
def l6.f (a0:Int):Option (Bool):=(aM.f a0 0 65535).bind fun t162=>(some t162)
theorem l6.calls (a0:Int) (r:Bool) (w:World) (h:l6.f a0=some r):
  Calls Tryz.prog 122 #[.int .i64 a0] w fun e w'=>e= .returned (.bool r)∧cH w w':=by
 have H:((aM.f a0 0 65535).bind fun t162=>(some t162))=some r:=h
 clear h;replace H:=bS H;obtain ⟨t162,A2,H⟩:=H
 obtain rfl:=Option.some.inj H
 go_enter Tryz.func122,Tryz.ntmps122
 go_wp2_with (first|(go_at_call 70;(with_reducible refine (aM.calls a0 0 65535 t162 _ A2.out).mono ?_);rintro e w' ⟨rfl,⟨nd,rfl⟩⟩))
 go_ret
 exact ⟨er,gh⟩
def ot (a b:ByteArray):ByteArray:=strOfNums ((List.range a.size).map fun (i:Nat)=>Go.bits .xor .u8 (bt a (i:Int)) (bt b (i:Int)))
def lY (a b:ByteArray) (g:Nat) (i:Int) (W:World):Prop:=∃cs e mk,W.heap[g]? =some (.cells cs e (cs.size,mk))∧a.size≤cs.size∧∀j,j<a.size→cs[j]? =some (.int .u8 (if (j:Int)<i then Go.bits .xor .u8 (bt a (j:Int)) (bt b (j:Int)) else bt a (j:Int)))
theorem lY.start (a b:ByteArray) (W:World) (e:TypeId):lY a b W.heap.size 0 (Lib.bytesWorld W e a):=by
 refine ⟨_,_,_,Lib.bytesWorld_at_new W e a,?_,fun j hj=> ?_⟩
 ·simp [Lib.bytesCells]
 ·have h:=Lib.bytesWorld_cell W e a j hj
  have h':j<a.data.toList.length:=by rw [Dw];exact hj
  simp only [World.cell?,Lib.bytesWorld_at_new] at h
  rw [if_neg (by omega)]
  refine Eq.trans (b:=some (Value.int .u8 (a.data.toList.getD j 0).toNat)) h ?_
  have h2:(a.data.toList.getD j 0).toNat=bt a (j:Int):=by
   have h3:(j:Int).toNat<a.size:=by omega
   simp only [bt,dif_pos h3,List.getD_eq_getElem?_getD,List.getElem?_eq_getElem h',Option.getD_some]
   rfl
  rw [h2]
theorem lY.cell {a b:ByteArray} {g:Nat} {i:Int} {W:World} (h:lY a b g i W) (h0:0≤i) (h1:i<(a.size:Int)):W.cell? ⟨g,i.toNat,none⟩=some (.int .u8 (bt a i))∧W.frozen? ⟨g,i.toNat,none⟩=false:=by
 obtain ⟨cs,e,mk,hc,hs,hv⟩:=h
 have hi:i.toNat<a.size:=by omega
 have hv':=hv i.toNat hi
 rw [if_neg (by omega),Int.toNat_of_nonneg h0] at hv'
 constructor
 ·simp only [World.cell?,hc]
  exact hv'
 ·simp only [World.frozen?,hc]
  simp
  omega
theorem lY.put {a b:ByteArray} {g:Nat} {i:Int} {W:World} (h:lY a b g i W) (h0:0≤i) (h1:i<(a.size:Int)) (hm:a.size≤1048576):lY a b g (wrap64 (i+1)) (W.setCell ⟨g,i.toNat,none⟩ (.int .u8 (Go.bits .xor .u8 (bt a i) (bt b i)))):=by
 obtain ⟨cs,e,mk,hc,hs,hv⟩:=h
 refine ⟨cs.setIfInBounds i.toNat (.int .u8 (Go.bits .xor .u8 (bt a i) (bt b i))),e,mk,by simp [World.setCell,Array.getElem?_modify,hc],by simpa using hs,fun j hj=> ?_⟩
 have hw:wrap64 (i+1)=i+1:=IntWalk.wrap64_in _ (by omega)
 rw [Array.getElem?_setIfInBounds,hw]
 by_cases e1:i.toNat=j
 ·subst e1
  rw [if_pos rfl,if_pos (by omega),if_pos (by omega),Int.toNat_of_nonneg h0]
 ·rw [if_neg e1,hv j hj]
  by_cases e2:(j:Int)<i
  ·rw [if_pos e2,if_pos (by omega)]
  ·rw [if_neg e2,if_neg (by omega)]
theorem lY.drew {a b:ByteArray} {g:Nat} {i:Int} {W:World} (h:lY a b g i W) (n:Nat):lY a b g i (W.drewN n):=h
theorem lY.done {a b:ByteArray} {g:Nat} {i:Int} {W:World} (h:lY a b g i W) (h1:¬i<(a.size:Int)) (hl:a.size≤9223372036854775807):ew W .u8 (some ⟨g,0,none⟩) a.size ((List.range a.size).map fun (i:Nat)=>Go.bits .xor .u8 (bt a (i:Int)) (bt b (i:Int))):=by
 obtain ⟨cs,e,mk,hc,hs,hv⟩:=h
 refine ⟨by simp,hl,fun _=>⟨_,rfl,fun j hj=> ?_⟩⟩
 have:=hv j hj
 rw [if_pos (by omega)] at this
 rw [add_plain]
 simp only [World.cell?,hc]
 simpa [hj] using this
def jP.f (k:Nat) (a0 a1:ByteArray):Option ByteArray:=if a0.size≤a1.size then (if a0.size≤1048576 then some (ot a0 a1) else none) else none
theorem jP.calls (k:Nat) (a0 a1:ByteArray) (r:ByteArray) (w:World) (h:jP.f k a0 a1=some r):
 Calls Tryz.prog 123 #[.string a0,.string a1] w fun e w'=>e= .returned (.string r)∧Below w.heap.size w w':=by
 unfold jP.f at h
 replace h:=cZ h;obtain ⟨hl,h⟩:=h
 replace h:=cZ h;obtain ⟨hm,h⟩:=h
 obtain rfl:=Option.some.inj h
 clear h
 have HL:=ak hl;have HM:=ak hm;clear hl hm
 have HCV:=ak (fun W=>vz (P:=Tryz.prog) 9 56 5 Tryz.underlying9 Tryz.underlying56 Tryz.underlying5 a0 W)
 go_enter Tryz.func123,Tryz.ntmps123
 have Qg:=ak (lY.start a0 a1 w 5)
 have Qr:=ak (vM (Below.refl w.heap.size w) (Nat.le_refl _) 5 a0)
 have NO:=HCV.out w
 clear HCV
 generalize hg:w.heap.size=g at Qg Qr NO
 generalize hW:Lib.bytesWorld w 5 a0=W1 at Qg Qr NO
 generalize Ut:grownCap w a0.size 0 5=cp at NO
 clear hW Ut
 go_wp2_with (simp only [NO,Result.andThen])
 clear NO
 go_loopg [11] a0.size (fun kq v11 w'=>∃(i:Int),v11= .int .i64 i∧0≤i∧i≤a0.size∧(a0.size-i.toNat:Nat)≤kq∧Aside0 (lY a0 a1 g i w')∧Aside0 (Below g w w'))
 case atStart=>exact ⟨0,rfl,Int.le_refl _,by omega,by omega,Qg,Qr⟩
 case round=>
 clear Qg Qr
 obtain ⟨i,rfl,we,Bo,hk,HX,HB⟩:=hrel
 by_cases eO:i<(a0.size:Int)
 ·have c1:decide (i<(a0.size:Int))=true:=decide_eq_true eO
  have p4:0≤i:=we
  have q4:i<(a1.size:Int):=by have:=HL.out;omega
  have hx4:=kD a1 i
  obtain ⟨hz,hf⟩:=HX.out.cell we eO
  have HX2:=ak ((show lY a0 a1 g i wr.drew from HX.out).put we eO HM.out)
  have HB2:=ak (Below.setCell (ig HB.out) (show g≤(Addr.mk g i.toNat none).block from Nat.le_refl _) (.int .u8 (Go.bits .xor .u8 (bt a0 i) (bt a1 i))))
  replace p4:=eq_true p4;replace q4:=eq_true q4;go_wp2
  go_region
  go_wp2
  go_roundg (a0.size-(i+1).toNat)
  case measure=>have:=HM.out;omega
  case rel=>exact ⟨wrap64 (i+1),er,by rw [IntWalk.wrap64_in _ (by have:=HM.out;omega)];omega,by rw [IntWalk.wrap64_in _ (by have:=HM.out;omega)];omega,by rw [IntWalk.wrap64_in _ (by have:=HM.out;omega)];exact Nat.le_refl _,HX2,HB2⟩
 ·have c1:decide (i<(a0.size:Int))=false:=decide_eq_false eO
  have sU:=pS (P:=Tryz.prog) (c:=cp) Tryz.underlying56 Tryz.underlying5 Tryz.underlying9 (HX.out.done eO (by have:=HM.out;omega))
  go_wp2
  go_ret
  subst hg
  exact ⟨er,HB.out⟩
def strings_Repeat.f (k:Nat) (a0:ByteArray) (a1:Int):Option ByteArray:=if 0≤a1 then (if a0.size*a1.toNat≤140737488355328 then (if a1≤9223372036854775807 then some ⟨(Lib.repeatL a0.data.toList a1.toNat).toArray⟩ else none) else none) else none
theorem strings_Repeat.calls (k:Nat) (a0:ByteArray) (a1:Int) (r:ByteArray) (w:World) (h:strings_Repeat.f k a0 a1=some r):
  Calls Tryz.prog 132 #[.string a0,.int .i64 a1] w fun e w'=>e= .returned (.string r)∧Below w.heap.size w w':=by
 unfold strings_Repeat.f at h
 replace h:=cZ h;obtain ⟨h0,h⟩:=h
 replace h:=cZ h;obtain ⟨h1,h⟩:=h
 replace h:=cZ h;obtain ⟨h2,h⟩:=h
 obtain rfl:=Option.some.inj h
 obtain ⟨c,rfl⟩:=Int.eq_ofNat_of_zero_le h0
 exact Any.strings_Repeat K4 Xz a0 c w (by omega) (by simpa using h1)
def nr.f (a0:Int) (a1:Int):Option (Int):=some (Int.tmod (Int.tmod (wrap64 ((wrap64 ((wrap64 ((Int.tmod (wrap64 (a1+(Int.tmod a0 256))) 256)*(Int.tmod (wrap64 (a1+(Int.tmod a0 256))) 256)))+(wrap64 ((Int.tmod (wrap64 (a1+(Int.tmod a0 256))) 256)*(wrap64 (Int.tdiv a0 256))))))+29)) 65521) 256)
theorem nr.calls (a0:Int) (a1:Int) (r:Int) (w:World) (h:nr.f a0 a1=some r):
  Calls Tryz.prog 168 #[.int .i64 a0,.int .i64 a1] w fun e w'=>e= .returned (.int .i64 r)∧cH w w':=by
 have H:(some (Int.tmod (Int.tmod (wrap64 ((wrap64 ((wrap64 ((Int.tmod (wrap64 (a1+(Int.tmod a0 256))) 256)*(Int.tmod (wrap64 (a1+(Int.tmod a0 256))) 256)))+(wrap64 ((Int.tmod (wrap64 (a1+(Int.tmod a0 256))) 256)*(wrap64 (Int.tdiv a0 256))))))+29)) 65521) 256))=some r:=h
 clear h
 obtain rfl:=Option.some.inj H
 go_enter Tryz.func168,Tryz.ntmps168
 go_wp2
 go_ret
 exact ⟨er,gh⟩
def fU.l0:Nat→Int→Int→List Int→Int→Int→Option (Int)
  |0,_,_,_,_,_=>none
  |k+1,x5,x6,gJ,jL,kg=>if kg<jL then (if 0≤kg then (if kg<(gJ.length:Int) then ((nr.f (rd gJ kg) x6).bind fun t164=>(fU.l0 k x6 (Go.bits .xor .i64 x5 t164) gJ jL (wrap64 (kg+1)))) else (none)) else (none)) else (some (wrap64 ((wrap64 (x5*256))+x6)))
def fU.f (k:Nat) (l0:List Int) (a1:Int):Option (Int):=fU.l0 k (wrap64 (Int.tdiv a1 256)) (Int.tmod a1 256) l0 (l0.length:Int) 0
theorem fU.calls (k:Nat) (A0:Option Addr) (c0:Nat) (l0:List Int) (a1:Int) (r:Int) (w:World) (eT:Kd.C (Kd.int .i64) w A0 l0.length l0) (fE:l0.length≤c0) (h:fU.f k l0 a1=some r):
  Calls Tryz.prog 156 #[.slice A0 l0.length c0,.int .i64 a1] w fun e w'=>e= .returned (.int .i64 r)∧cH w w':=by
 have fB:=ak eT;have jD:=ak fE;clear eT fE
 have H:(fU.l0 k (wrap64 (Int.tdiv a1 256)) (Int.tmod a1 256) l0 (l0.length:Int) 0)=some r:=h
 clear h
 have H':=ak H
 clear H
 go_enter Tryz.func156,Tryz.ntmps156
 go_wp2
 go_loopg [5,6,15] k (fun kq v5 v6 v15 w'=>∃(dm:Int) (xh:Int) (mI:Int),v5= .int .i64 dm∧v6= .int .i64 xh∧v15= .int .i64 mI∧Aside0 (fU.l0 kq dm xh l0 (l0.length:Int) mI=some r)∧Aside0 (kq≤k)∧cH w w')
 case atStart=>exact ⟨(wrap64 (Int.tdiv a1 256)),(Int.tmod a1 256),(0),er,er,er,H',⟨Nat.le_refl _⟩,gh⟩
 case round=>
  clear H'
  obtain ⟨dm,xh,mI,rfl,rfl,rfl,HA,fP,⟨m1,rfl⟩⟩:=hrel
  cases gk with
  |zero=>exact absurd HA.out (by simp [fU.l0])
  |succ k1=>
   have H:=HA.out;clear HA
   simp only [fU.l0] at H
   by_cases c3:mI<(l0.length:Int)
   ·rw [if_pos c3] at H
    have jh:=decide_eq_true c3
    clear c3;replace H:=cZ H;obtain ⟨c4,H⟩:=H;have iI:=decide_eq_true c4;clear c4;replace H:=cZ H;obtain ⟨c5,H⟩:=H;have jg:=decide_eq_true c5;clear c5;replace H:=bS H;obtain ⟨t164,A6,H⟩:=H
    have H':=ak H
    clear H
    obtain ⟨ahf,ag4,af7,aeG,abE⟩:=m5 (Kd.jA fB.out mI)
    cases aeG
    go_wp2_with (first|(go_at_call 168;(with_reducible refine (nr.calls (rd l0 mI) xh t164 _ A6.out).mono ?_);rintro e w' ⟨rfl,⟨nd,rfl⟩⟩))
    go_roundg k1
    case measure=>have:=fP.out;omega
    case rel=>exact ⟨(xh),(Go.bits .xor .i64 dm t164),(wrap64 (mI+1)),er,er,er,H',⟨by have:=fP.out;omega⟩,gh⟩
   ·rw [if_neg c3] at H
    have jh:=decide_eq_false c3
    clear c3
    obtain rfl:=Option.some.inj H
    go_wp2
    go_ret
    exact ⟨er,gh⟩
def di.l0:Nat→List Int→Int→ByteArray→List Int→Int→Option (ByteArray)
  |0,_,_,_,_,_=>none
  |k+1,x0,x1,x2,x7,x8=>if x8<(x2.size:Int) then (if 0≤x8 then (if 0≤(wrap64 (x8+1)) then (if (wrap64 (x8+1))<(x2.size:Int) then ((fU.f k x0 (Go.bits .xor .i64 (Go.bits .or .i64 (wrap64 ((wrap64 (bt x2 x8))*256)) (wrap64 (bt x2 (wrap64 (x8+1))))) x1)).bind fun t168=>((some (([(t168/256)%256,(t168)%256]:List Int):List Int)).bind fun sg=>(if x7.length+sg.length<140737488355328 then (di.l0 k x0 t168 x2 (x7++sg) (wrap64 (x8+2))) else (none)))) else (none)) else (none)) else (none)) else (some (strOfNums x7))
def di.f (k:Nat) (l0:List Int) (a1:Int) (a2:ByteArray):Option (ByteArray):=di.l0 k l0 a1 a2 (([]:List Int)) 0
theorem di.calls (k:Nat) (A0:Option Addr) (c0:Nat) (l0:List Int) (a1:Int) (a2:ByteArray) (r:ByteArray) (w:World) (eT:Kd.C (Kd.int .i64) w A0 l0.length l0) (fE:l0.length≤c0) (h:di.f k l0 a1 a2=some r):
  Calls Tryz.prog 139 #[.slice A0 l0.length c0,.int .i64 a1,.string a2] w fun e w'=>e= .returned (.string r)∧Below w.heap.size w w':=by
 have fB:=ak eT;have jD:=ak fE;clear eT fE
 have HB:=ak (Below.refl w.heap.size w)
 have H:(di.l0 k l0 a1 a2 (([]:List Int)) 0)=some r:=h
 clear h
 obtain ⟨WM,eZ⟩:∃y_:List Int,y_=(([]:List Int)):=⟨_,rfl⟩
 replace H:(di.l0 k l0 a1 a2 WM 0)=some r:=yH
 have Aa:=ak eZ;clear eZ
 have H':=ak H
 clear H
 go_enter Tryz.func139,Tryz.ntmps139
 go_wp2_with (first|((with_reducible refine ax (N:=9) rfl ?_);refine Kd.gy (Kd.int .u8) _ 5 ?hg (N:=9) ?hd (xs:=([]:List Int)) (inner:=[]) (ok:=fun _=>True) (okp:=fun _=>True) ?hr ?hp (fun _ hk=>hk) trivial (Below.refl _ _) (Nat.le_refl _) (by simp) ?_;(case hd=>rfl);(case hg=>rfl);(case hr=>exact qg);(case hp=>exact (bN.none _ _));intro W9 w4 Dl hb cg dZ;clear cg dZ;(first|rw [←Aa.out] at Dl|(simp only [Int.reduceToNat] at Dl;rw [←Aa.out] at Dl));have NI:=ak (Kd.dB Dl (bC (ai HB)));replace HB:=ak (aE (ai HB) hb);clear hb Dl))
 repeat (go_quiet (first|((with_reducible refine ax (N:=9) rfl ?_);refine Kd.gy (Kd.int .u8) _ 5 ?hg (N:=9) ?hd (xs:=([]:List Int)) (inner:=[]) (ok:=fun _=>True) (okp:=fun _=>True) ?hr ?hp (fun _ hk=>hk) trivial (Below.refl _ _) (Nat.le_refl _) (by simp) ?_;(case hd=>rfl);(case hg=>rfl);(case hr=>exact qg);(case hp=>exact (bN.none _ _));intro W9 w4 Dl hb cg dZ;clear cg dZ;(first|rw [←Aa.out] at Dl|(simp only [Int.reduceToNat] at Dl;rw [←Aa.out] at Dl));have NI:=ak (Kd.dB Dl (bC (ai HB)));replace HB:=ak (aE (ai HB) hb);clear hb Dl));try go_wp2_with (first|((with_reducible refine ax (N:=9) rfl ?_);refine Kd.gy (Kd.int .u8) _ 5 ?hg (N:=9) ?hd (xs:=([]:List Int)) (inner:=[]) (ok:=fun _=>True) (okp:=fun _=>True) ?hr ?hp (fun _ hk=>hk) trivial (Below.refl _ _) (Nat.le_refl _) (by simp) ?_;(case hd=>rfl);(case hg=>rfl);(case hr=>exact qg);(case hp=>exact (bN.none _ _));intro W9 w4 Dl hb cg dZ;clear cg dZ;(first|rw [←Aa.out] at Dl|(simp only [Int.reduceToNat] at Dl;rw [←Aa.out] at Dl));have NI:=ak (Kd.dB Dl (bC (ai HB)));replace HB:=ak (aE (ai HB) hb);clear hb Dl)))
 go_loopg [1,7,8] k (fun kq v1 v7 v8 w'=>∃(si:Int) (de:List Int) (cO:Int),v1= .int .i64 si∧v8= .int .i64 cO∧Aside0 (di.l0 kq l0 si a2 de cO=some r)∧Aside0 (kq≤k)∧Aside0 (Kd.R (Kd.int .u8) 5 w' w.heap.size (fun _=>True) v7 de)∧Aside0 (Below w.heap.size w w'))
 case atStart=>exact ⟨(a1),(WM),(0),er,er,H',⟨Nat.le_refl _⟩,⟨fy NI⟩,⟨ai HB⟩⟩
 case round=>
  clear H'
  obtain ⟨si,de,cO,rfl,rfl,HA,fP,rI,HB⟩:=hrel
  cases gk with
  |zero=>exact absurd HA.out (by simp [di.l0])
  |succ k1=>
   have H:=HA.out;clear HA
   simp only [di.l0] at H
   by_cases c6:cO<(a2.size:Int)
   ·rw [if_pos c6] at H
    have jz:=decide_eq_true c6
    clear c6;replace H:=cZ H;obtain ⟨c7,H⟩:=H;have rF:=decide_eq_true c7;clear c7
    obtain ⟨lU,tQ⟩:∃j_:Int,(wrap64 (cO+1))=j_:=⟨_,rfl⟩
    replace H:(if 0≤(lU) then (if (lU)<(a2.size:Int) then ((fU.f k1 l0 (Go.bits .xor .i64 (Go.bits .or .i64 (wrap64 ((wrap64 (bt a2 cO))*256)) (wrap64 (bt a2 (lU)))) si)).bind fun t168=>((some (([(t168/256)%256,(t168)%256]:List Int):List Int)).bind fun sg=>(if de.length+sg.length<140737488355328 then (di.l0 k1 l0 t168 a2 (de++sg) (wrap64 (cO+2))) else (none)))) else (none)) else (none))=some r:=by first|(rw [tQ] at H;exact H)|(simp only [tQ] at H⊢;exact H)
    have Q7:(IntKind.i64.wrap (cO+1))=lU:=(bX _).trans tQ
    replace H:=cZ H;obtain ⟨gu,H⟩:=H;have kC:=decide_eq_true gu;clear gu;replace H:=cZ H;obtain ⟨lp,H⟩:=H;have lW:=decide_eq_true lp;clear lp;replace H:=bS H;obtain ⟨t168,rC,H⟩:=H
    obtain ⟨sg,eZ⟩:∃y_:List Int,y_=(([(t168/256)%256,(t168)%256]:List Int)):=⟨_,rfl⟩
    replace H:(if de.length+sg.length<140737488355328 then (di.l0 k1 l0 t168 a2 (de++sg) (wrap64 (cO+2))) else (none))=some r:=yH
    have z8:=ak eZ;clear eZ;replace H:=cZ H;obtain ⟨nv,H⟩:=H;have yL:=ak nv;clear nv
    obtain ⟨WL,eZ⟩:∃y_:List Int,y_=(de++sg):=⟨_,rfl⟩
    replace H:(di.l0 k1 l0 t168 a2 WL (wrap64 (cO+2)))=some r:=yH
    have Nu:=ak eZ;clear eZ
    have H':=ak H
    clear H
    have p8:0≤(cO:Int):=da
    have q8:cO<(a2.size:Int):=da
    have hx8:=kD a2 cO
    replace p8:=eq_true p8;replace q8:=eq_true q8
    have XL:0≤((lU):Int):=da
    have XH:(lU)<(a2.size:Int):=da
    have adn:=kD a2 (lU)
    replace XL:=eq_true XL;replace XH:=eq_true XH
    go_wp2_with (first|(go_at_call 156;(with_reducible refine (fU.calls k1 _ _ l0 (Go.bits .xor .i64 (Go.bits .or .i64 (wrap64 ((wrap64 (bt a2 cO))*256)) (wrap64 (bt a2 (lU)))) si) t168 _ ?side1 ?side2 rC.out).mono ?_);(case side1=>exact cd (Kd.aH fB.out HB.out));(case side2=>exact jD.out);rintro e w' ⟨rfl,⟨nd,rfl⟩⟩;(try first|exact ⟨rfl,_,World.drewN_drewN _ _ _⟩|exact ⟨rfl,_,Eq.trans (World.drewN_drewN _ _ _) (congrArg (World.drewN _) (Nat.add_assoc _ _ _))⟩))|((with_reducible refine ax (N:=37) rfl ?_);refine Kd.gy (Kd.int .u8) _ 5 ?hg (N:=37) ?hd (xs:=([(t168/256)%256,(t168)%256]:List Int)) (inner:=[.int .u8 ((t168/256)%256),.int .u8 ((t168)%256)]) (ok:=fun _=>True) (okp:=fun _=>True) ?hr ?hp (fun _ hk=>hk) trivial (Below.refl _ _) (Nat.le_refl _) (by simp) ?_;(case hd=>rfl);(case hg=>rfl);(case hr=>exact qg);(case hp=>exact (bN.one (show Kd.M (Kd.int .u8) _ _ _ ((t168/256)%256) [.int .u8 ((t168/256)%256)] from rfl) (bN.one (show Kd.M (Kd.int .u8) _ _ _ ((t168)%256) [.int .u8 ((t168)%256)] from rfl) (bN.none _ _))));intro W8 QF jf hb cg dZ;clear cg dZ;(first|rw [←z8.out] at jf|(simp only [Int.reduceToNat] at jf;rw [←z8.out] at jf));have mw:=ak (Kd.dB (Kd.qN jf (Kd.rH (fy rI))) (bC (ai HB)));replace rI:=ak (Kd.mq (fy rI) (Kd.nE jf) hb);replace HB:=ak (aE (ai HB) hb);clear hb jf;obtain ⟨wq,wk,ua⟩:=Kd.dc mw.out;subst ua)|((with_reducible refine cr (b:= .append) (xs:= #[.tmp 31,.tmp 37]) rfl ?_);at_builtin;refine Kd.eK (Kd.int .u8) (w0:=w) w.heap.size rfl (.tmp 31) (.tmp 37) 56 5 (.int .u8 0) 1 rfl Tryz.underlying56 rR rfl (by decide) (by omega) u7 de sg _ _ _ (fun k_=>some k_≠(.slice wq sg.length wk:Value).ownBlock) (fun _=>False) rfl rfl ?aO ?aR (fun _ _ h=>h) (fun _ h=>h.elim) ?aF ?aB ?aS ?aL ?_;(case aR=>exact cd (Kd.bL mw.out).2.2);(case aB=>exact (ai HB));(case aF=>exact (fun k_ hk=>Kd.sL (Kd.rH (fy mw)) k_ hk));(case aO=>exact (by (with_reducible repeat (first|apply Kd.cu|apply Kd.ct|apply Kd.cy));exact Kd.bF rI.out (fun _ hk=>hk.2)));(case aS=>exact (bC (ai HB)));(case aL=>have:=yL.out;omega);intro v173 Ko ho hb hg gV;rw [←Nu.out] at ho;replace mw:=ak (Kd.oc (ok:=(fun _=>True)) (fy mw) hg gV);replace HB:=ak (hb);have NH:=ak (ho);clear rI;clear ho hb hg gV))
    repeat (go_quiet (first|(go_at_call 156;(with_reducible refine (fU.calls k1 _ _ l0 (Go.bits .xor .i64 (Go.bits .or .i64 (wrap64 ((wrap64 (bt a2 cO))*256)) (wrap64 (bt a2 (lU)))) si) t168 _ ?side1 ?side2 rC.out).mono ?_);(case side1=>exact cd (Kd.aH fB.out HB.out));(case side2=>exact jD.out);rintro e w' ⟨rfl,⟨nd,rfl⟩⟩;(try first|exact ⟨rfl,_,World.drewN_drewN _ _ _⟩|exact ⟨rfl,_,Eq.trans (World.drewN_drewN _ _ _) (congrArg (World.drewN _) (Nat.add_assoc _ _ _))⟩))|((with_reducible refine ax (N:=37) rfl ?_);refine Kd.gy (Kd.int .u8) _ 5 ?hg (N:=37) ?hd (xs:=([(t168/256)%256,(t168)%256]:List Int)) (inner:=[.int .u8 ((t168/256)%256),.int .u8 ((t168)%256)]) (ok:=fun _=>True) (okp:=fun _=>True) ?hr ?hp (fun _ hk=>hk) trivial (Below.refl _ _) (Nat.le_refl _) (by simp) ?_;(case hd=>rfl);(case hg=>rfl);(case hr=>exact qg);(case hp=>exact (bN.one (show Kd.M (Kd.int .u8) _ _ _ ((t168/256)%256) [.int .u8 ((t168/256)%256)] from rfl) (bN.one (show Kd.M (Kd.int .u8) _ _ _ ((t168)%256) [.int .u8 ((t168)%256)] from rfl) (bN.none _ _))));intro W8 QF jf hb cg dZ;clear cg dZ;(first|rw [←z8.out] at jf|(simp only [Int.reduceToNat] at jf;rw [←z8.out] at jf));have mw:=ak (Kd.dB (Kd.qN jf (Kd.rH (fy rI))) (bC (ai HB)));replace rI:=ak (Kd.mq (fy rI) (Kd.nE jf) hb);replace HB:=ak (aE (ai HB) hb);clear hb jf;obtain ⟨wq,wk,ua⟩:=Kd.dc mw.out;subst ua)|((with_reducible refine cr (b:= .append) (xs:= #[.tmp 31,.tmp 37]) rfl ?_);at_builtin;refine Kd.eK (Kd.int .u8) (w0:=w) w.heap.size rfl (.tmp 31) (.tmp 37) 56 5 (.int .u8 0) 1 rfl Tryz.underlying56 rR rfl (by decide) (by omega) u7 de sg _ _ _ (fun k_=>some k_≠(.slice wq sg.length wk:Value).ownBlock) (fun _=>False) rfl rfl ?aO ?aR (fun _ _ h=>h) (fun _ h=>h.elim) ?aF ?aB ?aS ?aL ?_;(case aR=>exact cd (Kd.bL mw.out).2.2);(case aB=>exact (ai HB));(case aF=>exact (fun k_ hk=>Kd.sL (Kd.rH (fy mw)) k_ hk));(case aO=>exact (by (with_reducible repeat (first|apply Kd.cu|apply Kd.ct|apply Kd.cy));exact Kd.bF rI.out (fun _ hk=>hk.2)));(case aS=>exact (bC (ai HB)));(case aL=>have:=yL.out;omega);intro v173 Ko ho hb hg gV;rw [←Nu.out] at ho;replace mw:=ak (Kd.oc (ok:=(fun _=>True)) (fy mw) hg gV);replace HB:=ak (hb);have NH:=ak (ho);clear rI;clear ho hb hg gV));try go_wp2_with (first|(go_at_call 156;(with_reducible refine (fU.calls k1 _ _ l0 (Go.bits .xor .i64 (Go.bits .or .i64 (wrap64 ((wrap64 (bt a2 cO))*256)) (wrap64 (bt a2 (lU)))) si) t168 _ ?side1 ?side2 rC.out).mono ?_);(case side1=>exact cd (Kd.aH fB.out HB.out));(case side2=>exact jD.out);rintro e w' ⟨rfl,⟨nd,rfl⟩⟩;(try first|exact ⟨rfl,_,World.drewN_drewN _ _ _⟩|exact ⟨rfl,_,Eq.trans (World.drewN_drewN _ _ _) (congrArg (World.drewN _) (Nat.add_assoc _ _ _))⟩))|((with_reducible refine ax (N:=37) rfl ?_);refine Kd.gy (Kd.int .u8) _ 5 ?hg (N:=37) ?hd (xs:=([(t168/256)%256,(t168)%256]:List Int)) (inner:=[.int .u8 ((t168/256)%256),.int .u8 ((t168)%256)]) (ok:=fun _=>True) (okp:=fun _=>True) ?hr ?hp (fun _ hk=>hk) trivial (Below.refl _ _) (Nat.le_refl _) (by simp) ?_;(case hd=>rfl);(case hg=>rfl);(case hr=>exact qg);(case hp=>exact (bN.one (show Kd.M (Kd.int .u8) _ _ _ ((t168/256)%256) [.int .u8 ((t168/256)%256)] from rfl) (bN.one (show Kd.M (Kd.int .u8) _ _ _ ((t168)%256) [.int .u8 ((t168)%256)] from rfl) (bN.none _ _))));intro W8 QF jf hb cg dZ;clear cg dZ;(first|rw [←z8.out] at jf|(simp only [Int.reduceToNat] at jf;rw [←z8.out] at jf));have mw:=ak (Kd.dB (Kd.qN jf (Kd.rH (fy rI))) (bC (ai HB)));replace rI:=ak (Kd.mq (fy rI) (Kd.nE jf) hb);replace HB:=ak (aE (ai HB) hb);clear hb jf;obtain ⟨wq,wk,ua⟩:=Kd.dc mw.out;subst ua)|((with_reducible refine cr (b:= .append) (xs:= #[.tmp 31,.tmp 37]) rfl ?_);at_builtin;refine Kd.eK (Kd.int .u8) (w0:=w) w.heap.size rfl (.tmp 31) (.tmp 37) 56 5 (.int .u8 0) 1 rfl Tryz.underlying56 rR rfl (by decide) (by omega) u7 de sg _ _ _ (fun k_=>some k_≠(.slice wq sg.length wk:Value).ownBlock) (fun _=>False) rfl rfl ?aO ?aR (fun _ _ h=>h) (fun _ h=>h.elim) ?aF ?aB ?aS ?aL ?_;(case aR=>exact cd (Kd.bL mw.out).2.2);(case aB=>exact (ai HB));(case aF=>exact (fun k_ hk=>Kd.sL (Kd.rH (fy mw)) k_ hk));(case aO=>exact (by (with_reducible repeat (first|apply Kd.cu|apply Kd.ct|apply Kd.cy));exact Kd.bF rI.out (fun _ hk=>hk.2)));(case aS=>exact (bC (ai HB)));(case aL=>have:=yL.out;omega);intro v173 Ko ho hb hg gV;rw [←Nu.out] at ho;replace mw:=ak (Kd.oc (ok:=(fun _=>True)) (fy mw) hg gV);replace HB:=ak (hb);have NH:=ak (ho);clear rI;clear ho hb hg gV)))
    go_roundg k1
    case measure=>have:=fP.out;omega
    case rel=>exact ⟨(t168),(WL),(wrap64 (cO+2)),er,er,H',⟨by have:=fP.out;omega⟩,⟨by (with_reducible repeat (first|apply Kd.cu|apply Kd.ct|apply Kd.cy));exact Kd.bF NH.out (fun _ hk=>trivial)⟩,⟨ai HB⟩⟩
   ·rw [if_neg c6] at H
    have jz:=decide_eq_false c6
    clear c6
    obtain rfl:=Option.some.inj H
    have Yi:=iP (P:=Tryz.prog) Tryz.underlying56 Tryz.underlying5 Tryz.underlying9 (Kd.iG rI.out)
    go_wp2
    repeat (go_quiet (fail);try go_wp2)
    go_ret
    exact ⟨jT,ai HB⟩
def kL.f (k:Nat) (a0:Int) (a1:Int):Option (ByteArray):=(strings_Repeat.f k (⟨#[0]⟩:ByteArray) a1).bind fun t178=>((di.f k (([a0,a0,a0]:List Int)) a0 t178).bind fun t179=>(some t179))
theorem kL.calls (k:Nat) (a0:Int) (a1:Int) (r:ByteArray) (w:World) (h:kL.f k a0 a1=some r):
  Calls Tryz.prog 124 #[.int .i64 a0,.int .i64 a1] w fun e w'=>e= .returned (.string r)∧Below w.heap.size w w':=by
 have HB:=ak (Below.refl w.heap.size w)
 have H:((strings_Repeat.f k (⟨#[0]⟩:ByteArray) a1).bind fun t178=>((di.f k (([a0,a0,a0]:List Int)) a0 t178).bind fun t179=>(some t179)))=some r:=h
 clear h
 obtain ⟨WK,eZ⟩:∃y_:List Int,y_=(([a0,a0,a0]:List Int)):=⟨_,rfl⟩
 replace H:((strings_Repeat.f k (⟨#[0]⟩:ByteArray) a1).bind fun t178=>((di.f k WK a0 t178).bind fun t179=>(some t179)))=some r:=yH
 have RY:=ak eZ;clear eZ;replace H:=bS H;obtain ⟨t178,A3,H⟩:=H
 replace H:=bS H;obtain ⟨t179,A4,H⟩:=H
 obtain rfl:=Option.some.inj H
 go_enter Tryz.func124,Tryz.ntmps124
 go_wp2_with (first|((with_reducible refine ax (N:=8) rfl ?_);refine Kd.gy (Kd.int .i64) _ 3 ?hg (N:=8) ?hd (xs:=([a0,a0,a0]:List Int)) (inner:=[.int .i64 a0,.int .i64 a0,.int .i64 a0]) (ok:=fun _=>True) (okp:=fun _=>True) ?hr ?hp (fun _ hk=>hk) trivial (Below.refl _ _) (Nat.le_refl _) (by simp) ?_;(case hd=>rfl);(case hg=>rfl);(case hr=>exact qg);(case hp=>exact (bN.one (show Kd.M (Kd.int .i64) _ _ _ a0 [.int .i64 a0] from rfl) (bN.one (show Kd.M (Kd.int .i64) _ _ _ a0 [.int .i64 a0] from rfl) (bN.one (show Kd.M (Kd.int .i64) _ _ _ a0 [.int .i64 a0] from rfl) (bN.none _ _)))));intro agQ w5 Ya hb cg dZ;clear cg dZ;(first|rw [←RY.out] at Ya|(simp only [Int.reduceToNat] at Ya;rw [←RY.out] at Ya));have yN:=ak (Kd.dB Ya (bC (ai HB)));replace HB:=ak (aE (ai HB) hb);clear hb Ya)|(go_at_call 132;(with_reducible refine (strings_Repeat.calls k (⟨#[0]⟩:ByteArray) a1 t178 _ A3.out).mono ?_);rintro e w7 ⟨rfl,hb⟩;replace yN:=ak (Kd.ey (fy yN) hb);replace HB:=ak (aE (ai HB) hb);(try clear hb);obtain ⟨Ao8,co8,eo8⟩:=Kd.dc yN.out;subst eo8)|(go_at_call 139;(with_reducible refine (di.calls k _ _ WK a0 t178 t179 _ ?side1 ?side2 A4.out).mono ?_);(case side1=>exact cd (Kd.bL yN.out).2.2);(case side2=>exact (Kd.bL yN.out).2.1);rintro e w9 ⟨rfl,hb⟩;replace yN:=ak (Kd.ey (fy yN) hb);replace HB:=ak (aE (ai HB) hb);(try clear hb)))
 go_ret
 exact ⟨jT,ai HB⟩
def jQ.f (a0:Int):Option (Bool):=(aM.f a0 1 250).bind fun t180=>(some t180)
theorem jQ.calls (a0:Int) (r:Bool) (w:World) (h:jQ.f a0=some r):
  Calls Tryz.prog 125 #[.int .i64 a0] w fun e w'=>e= .returned (.bool r)∧cH w w':=by
 have H:((aM.f a0 1 250).bind fun t180=>(some t180))=some r:=h
 clear h;replace H:=bS H;obtain ⟨t180,A2,H⟩:=H
 obtain rfl:=Option.some.inj H
 go_enter Tryz.func125,Tryz.ntmps125
 go_wp2_with (first|(go_at_call 70;(with_reducible refine (aM.calls a0 1 250 t180 _ A2.out).mono ?_);rintro e w' ⟨rfl,⟨nd,rfl⟩⟩))
 go_ret
 exact ⟨er,gh⟩
end Go.Proofs.YtihekdlcfohkkaaGreatDoor.QFnNet
