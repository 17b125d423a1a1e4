-- printed by this session's own program (wip/tools/pp.py: the kit's print.py with changes); Lean checks it
import Derived.Test.YtihekdlcfohkkaaGreatDoorQFnNetsx0
import Derived.Test.YtihekdlcfohkkaaGreatDoorQFnNetsx1
namespace Go.Proofs.YtihekdlcfohkkaaGreatDoor.QFnNets
open Go.RowKit Go.Proofs.YtihekdlcfohkkaaGreatDoorW.PrintWords Go.Proofs.YtihekdlcfohkkaaGreatDoorW.PrintLast Go.Proofs.YtihekdlcfohkkaaGreatDoorW.PrintMore
attribute [local go_sem] max2_int min2_int max_two min_two max_three min_three max_four min_four strLss strGtr strLeq strGeq
set_option linter.unusedVariables false
set_option linter.unusedSimpArgs false
set_option maxHeartbeats 16000000
set_option maxRecDepth 100000
structure Nt where
  ks:List Int
  ps:List (List ByteArray)
  ss:List (List ByteArray)
  ib:List (List ByteArray)
  sd:Int
abbrev KI:Kd Int:=Kd.int .i64
abbrev KT:Kd (List ByteArray):=Kd.slice 9 Kd.string
def NC (W:World) (v0 v1 v2 v3:Value) (n:Nt):Prop:=∃A0 c0 A1 c1 A2 c2 A3 c3,(v0= .slice A0 n.ks.length c0∧v1= .slice A1 n.ps.length c1∧v2= .slice A2 n.ss.length c2∧v3= .slice A3 n.ib.length c3)∧(KI.C W A0 n.ks.length n.ks∧n.ks.length≤c0)∧(KT.C W A1 n.ps.length n.ps∧n.ps.length≤c1)∧(KT.C W A2 n.ss.length n.ss∧n.ss.length≤c2)∧(KT.C W A3 n.ib.length n.ib∧n.ib.length≤c3)
def eO (v0 v1 v2 v3:Value) (n:Nt):List SA:=[rA KI 3 v0 n.ks,sA KT 62 v1 n.ps,sA KT 62 v2 n.ss,sA KT 62 v3 n.ib]
theorem NC.of {W:World} {b:Nat} {c:Nat→Nat} {i:Nat} {v0 v1 v2 v3:Value} {n:Nt} (h:dG c b W i (eO v0 v1 v2 v3 n)):NC W v0 v1 v2 v3 n:=by
  obtain ⟨h0,h1,h2,h3,-⟩:=h
  obtain ⟨A0,c0,e0,l0,r0⟩:=Kd.uS h0
  obtain ⟨A1,c1,e1,l1,r1⟩:=Kd.DL h1
  obtain ⟨A2,c2,e2,l2,r2⟩:=Kd.DL h2
  obtain ⟨A3,c3,e3,l3,r3⟩:=Kd.DL h3
  exact ⟨A0,c0,A1,c1,A2,c2,A3,c3,⟨e0,e1,e2,e3⟩,⟨r0,l0⟩,⟨r1,l1⟩,⟨r2,l2⟩,⟨r3,l3⟩⟩
theorem dG.mid {c:Nat→Nat} {b:Nat} {W:World} :∀(L0:List SA) {L:List SA} {i:Nat},dG c b W i (L0++L)→dG c b W (i+L0.length) L
  |[],_,_,h=>h
  | _ :: L0, _, i, h => by
    have:=dG.mid L0 (i:=i+1) h.2
    rw [List.length_cons,show i+(L0.length+1)=i+1+L0.length from by omega]
    exact this
theorem dG.left {c:Nat→Nat} {b:Nat} {W:World} :∀(L0:List SA) {L:List SA} {i:Nat},dG c b W i (L0++L)→dG c b W i L0
  |[],_,_,_=>trivial
  |_::L0,_,_,h=>⟨h.1,dG.left L0 h.2⟩
theorem jW {w0 W:World} {L:List SA} {v0 v1 v2 v3:Value} {n:Nt} (h:Sep w0 W L) (m:Nat) (e:(L.drop m).take 4=eO v0 v1 v2 v3 n:=by rfl):NC W v0 v1 v2 v3 n:=by
  obtain ⟨_,c,h⟩:=h
  have h':dG c w0.heap.size W 0 (L.take m++((L.drop m).take 4++(L.drop m).drop 4)):=by rw [List.take_append_drop,List.take_append_drop];exact h
  have:=dG.left _ (dG.mid _ h')
  rw [e] at this
  exact NC.of this
theorem NC.afj {W:World} {v0 v1 v2 v3:Value} {n:Nt} (h:NC W v0 v1 v2 v3 n):(∃A c,v0= .slice A n.ks.length c)∧(∃A c,v1= .slice A n.ps.length c)∧(∃A c,v2= .slice A n.ss.length c)∧(∃A c,v3= .slice A n.ib.length c):=by
  obtain ⟨A0,c0,A1,c1,A2,c2,A3,c3,⟨e0,e1,e2,e3⟩,_⟩:=h
  exact ⟨⟨_,_,e0⟩,⟨_,_,e1⟩,⟨_,_,e2⟩,⟨_,_,e3⟩⟩
theorem NC.below {W W1:World} {v0 v1 v2 v3:Value} {n:Nt} (h:NC W v0 v1 v2 v3 n) (hb:Below W.heap.size W W1):NC W1 v0 v1 v2 v3 n:=by
  obtain ⟨A0,c0,A1,c1,A2,c2,A3,c3,e,⟨r0,l0⟩,⟨r1,l1⟩,⟨r2,l2⟩,⟨r3,l3⟩⟩:=h
  exact ⟨A0,c0,A1,c1,A2,c2,A3,c3,e,⟨Kd.aD r0 hb,l0⟩,⟨Kd.aD r1 hb,l1⟩,⟨Kd.aD r2 hb,l2⟩,⟨Kd.aD r3 hb,l3⟩⟩
def qc (w:World) (n:Nt) (b:Bool) (e:Ending) (w':World):Prop:=∃v0 v1 v2 v3:Value,e= .returned (.tuple #[.agg #[v0,v1,v2,v3,.int .i64 n.sd],.bool b])∧(∃c,dG c w.heap.size w' 0 (eO v0 v1 v2 v3 n))∧Below w.heap.size w w'
def uX (w:World) (n:Nt) (e:Ending) (w':World):Prop:=∃v0 v1 v2 v3:Value,e= .returned (.agg #[v0,v1,v2,v3,.int .i64 n.sd])∧(∃c,dG c w.heap.size w' 0 (eO v0 v1 v2 v3 n))∧Below w.heap.size w w'
theorem Rw {w w':World} {v0 v1 v2 v3:Value} {r1:List Int} {r2 r3 r4:List (List ByteArray)} {g1 g2 g3:Nat} {sd:Int} (h0:KI.R 3 w' w.heap.size (fun _=>True) v0 r1) (h1:Kd.S KT 62 w' w.heap.size (fun k_=>k_=g1) v1 r2) (h2:Kd.S KT 62 w' w.heap.size (fun k_=>k_=g2) v2 r3) (h3:Kd.S KT 62 w' w.heap.size (fun k_=>k_=g3) v3 r4) (hn:g1≠g2∧g1≠g3∧g2≠g3):∃c,dG c w.heap.size w' 0 (eO v0 v1 v2 v3 ⟨r1,r2,r3,r4,sd⟩):=by
  classical
  obtain ⟨n1,n2,n3⟩:=hn
  refine ⟨fun k=>if (∃cells,w'.heap[k]? =some (.cells cells 3 (0,0))) then 0 else if k=g1 then 1 else if k=g2 then 2 else if k=g3 then 3 else 4,?_,?_,?_,?_,trivial⟩
  · refine Kd.bJ (Kd.kf h0) (fun k hk=>if_pos ?_)
    obtain ⟨_,_,_,q,hq,hc⟩:=hk
    have:q=3:=by simpa [Kd.int,Kd.scalar] using hq
    subst this
    exact hc
  all_goals
    first
    |refine Kd.l8 (Kd.uQ h1) (fun k hk=> ?_)
    |refine Kd.l8 (Kd.uQ h2) (fun k hk=> ?_)
    |refine Kd.l8 (Kd.uQ h3) (fun k hk=> ?_)
    obtain ⟨hk,_,_,q,hq,cells,hc⟩:=hk
    have iP:¬∃cells,w'.heap[k]? =some (.cells cells 3 (0,0)):=by
      rintro ⟨HW,By⟩
      rw [hc] at By
      injection By with By
      injection By with _ By
      subst By
      simp [Kd.slice,Kd.string,Kd.scalar] at hq
    simp only [if_neg iP]
    subst hk
  · rw [if_pos rfl]
  · rw [if_neg (Ne.symm n1),if_pos rfl]
  · rw [if_neg (Ne.symm n2),if_neg (Ne.symm n3),if_pos rfl]
theorem gZ {j n:Nat} (h:j<n) (hn:n≤1048576):Value.int .i64 (wrap64 ((j:Int)+1))=Value.int .i64 ((j+1:Nat):Int):=by
  rw [IntWalk.wrap64_in _ (by omega)]
  rfl
theorem oe {b:ByteArray} (h:¬b=(⟨#[]⟩:ByteArray)):b.toList.isEmpty=false:=by
  rw [List.isEmpty_eq_false_iff]
  intro e
  rw [ByteArray.toList_eq] at e
  exact h (congrArg ByteArray.mk (Array.toList_inj.1 e))
theorem ld {w W:World} {L:List SA} {v0 v1 v2 v3:Value} {n:Nt} (h:Sep w W (eO v0 v1 v2 v3 n++L)):∃c,dG c w.heap.size W 0 (eO v0 v1 v2 v3 n):=by
  obtain ⟨_,c,h⟩:=h
  exact ⟨c,dG.left _ h⟩
theorem rU {w W:World} {L:List SA} (h:Sep w W L):∃c,dG c w.heap.size W 0 (eO (.slice none 0 0) (.slice none 0 0) (.slice none 0 0) (.slice none 0 0) ⟨[],[],[],[],0⟩):=
  ld ((((h.KY KT 62).KY KT 62).KY KT 62).tg KI 3)
def cT.T1:Bool×List (List Nat×List Nat):=(true,[([],[]),([],[]),([1],[1]),([0,2],[0,2]),([],[]),([4],[4]),([5,3],[5]),([],[]),([7],[7]),([8,6],[8]),([],[]),([10],[10]),([11,9],[11]),([],[]),([13],[13]),([3,6,9,12,14],[3,6,9,12,14]),([15,12,0,1,2,3,4,5,6,7,8,9,10,11,12,13,14,15],[15])])
def cT.B1:List Nat:=[0,0,2,7,0,16,63,0,128,511,0,1024,4095,0,8192,32767,65535]
theorem cT.FY:gz .any (opsOf Tryz.f52 1)=cT.T1:=by kernel_rfl
theorem cT.zK:dZ cT.T1.2 cT.B1=true:=by kernel_rfl
def cT.f (k:Nat) (n:Nt):Option Nt:=if n.ks.length≤1048576 then (dA.f k n.ps).bind fun t1=>(dA.f k n.ss).bind fun t2=>(dA.f k n.ib).bind fun t3=>some ⟨n.ks,t1,t2,t3,n.sd⟩ else none
theorem cT.calls {k:Nat} {v0 v1 v2 v3:Value} {n r:Nt} {w:World} (hn:NC w v0 v1 v2 v3 n) (h:cT.f k n=some r):
    Calls Tryz.prog 52 #[.agg #[v0,v1,v2,v3,.int .i64 n.sd]] w (uX w r):=by
 obtain ⟨A0,c0,A1,c1,A2,c2,A3,c3,⟨rfl,rfl,rfl,rfl⟩,⟨x0,y0⟩,⟨x1,y1⟩,⟨x2,y2⟩,⟨x3,y3⟩⟩:=hn
 have X0:=ak x0;have X1:=ak x1;have X2:=ak x2;have X3:=ak x3;have Y0:=ak y0;have Y1:=ak y1;have Y2:=ak y2;have Y3:=ak y3
 clear x0 x1 x2 x3 y0 y1 y2 y3
 obtain ⟨ks,ps,ss,ib,sd⟩:=n
 dsimp only at X0 X1 X2 X3 Y0 Y1 Y2 Y3⊢
 have lg:=Tryz.underlying27
 have HS:=Sep.nil w
 unfold cT.f at h
 dsimp only at h
 replace h:=dy h;obtain ⟨hn,h⟩:=h
 have HN:=ak hn;clear hn
 replace h:=bS h;obtain ⟨t1,T1,h⟩:=h
 replace h:=bS h;obtain ⟨t2,T2,h⟩:=h
 replace h:=bS h;obtain ⟨t3,T3,h⟩:=h
 obtain rfl:=Option.some.inj h
 clear h
 go_enter Tryz.func52,Tryz.ntmps52
 go_upto_region 1 with (first|((with_reducible refine av (N:=1) rfl ?_);refine bN 1 #[.slice A0 ks.length c0,.slice A1 ps.length c1,.slice A2 ss.length c2,.slice A3 ib.length c3,.int .i64 sd] 27 ?_;intro b1 bK W_ bD aW;replace HS:=HS.box bK bD aW;clear bK bD aW;have fY:=an (HS.aI 0))|((with_reducible refine av (N:=2) rfl ?_);refine bN 2 #[.slice none 0 0,.slice none 0 0,.slice none 0 0,.slice none 0 0,.int .i64 0] 27 ?_;intro b2 bK W_ bD aW;replace HS:=HS.box bK bD aW;clear bK bD aW;clear fY;have cJ:=an (HS.aI 0);clear cJ;have cJ:=an (HS.aI 0);have fY:=an (HS.aI 1)))
 clear cJ fY
 have fY:=an (HS.aI 1)
 refine dV (n:=17) (S:=fun w'=>w'.cell? ⟨b1,0,none⟩=some (.slice A0 ks.length c0)∧w'.cell? ⟨b1,1,none⟩=some (.slice A1 ps.length c1)∧w'.cell? ⟨b1,2,none⟩=some (.slice A2 ss.length c2)∧w'.cell? ⟨b1,3,none⟩=some (.slice A3 ib.length c3)∧w'.cell? ⟨b1,4,none⟩=some (.int .i64 sd)) (ds:=[]) (bl 17 0) (by kernel_rfl) rfl rfl ⟨fY.1,fY.2.1,fY.2.2.1,fY.2.2.2.1,fY.2.2.2.2.1⟩ (fun ah=> ?_);refine bZ cT.FY cT.zK (fun aA ef=> ?_)
 clear fY
 replace HS:=HS.drew
 generalize World.drew _=tD at HS ah⊢
 refine ag 1 (some 4) 17 2 aA ?_
 refine cg 2 (some 5) 17 6 aA ef ah ?_ (hy:=by rintro w' ⟨s0,s1,s2,s3,s4⟩;go_simp;with_reducible rfl)
 refine ag 4 (some 7) 17 22 aA ?_
 refine cg 5 (some 8) 17 54 aA ef ah ?_ (hy:=by rintro w' ⟨s0,s1,s2,s3,s4⟩;go_simp;with_reducible rfl)
 refine ag 7 (some 10) 17 182 aA ?_
 refine cg 8 (some 11) 17 438 aA ef ah ?_ (hy:=by rintro w' ⟨s0,s1,s2,s3,s4⟩;go_simp;with_reducible rfl)
 refine ag 10 (some 13) 17 1462 aA ?_
 refine cg 11 (some 14) 17 3510 aA ef ah ?_ (hy:=by rintro w' ⟨s0,s1,s2,s3,s4⟩;go_simp;with_reducible rfl)
 refine ag 13 (some 16) 17 11702 aA ?_
 refine cg 14 (some 17) 17 28086 aA ef ah ?_ (hy:=by rintro w' ⟨s0,s1,s2,s3,s4⟩;go_simp;with_reducible rfl)
 refine fJ 0 (some 3) 17 28087 aA (fun K hK=> ?_)
 clear ah
 refine Kd.iJ (Kd.int .i64) _ 3 ?hg (N:=3) ?hd (xs:=([]:List Int)) (inner:=[]) (ok:=fun _=>True) (okp:=fun _=>True) ?hr ?hp (fun _ hk=>hk) trivial (Below.refl _ _) (Nat.le_refl _) (by simp) ?_
 (case hd=>rfl)
 (case hg=>rfl)
 (case hr=>first|(go_simp;done)|(go_simp;rfl))
 (case hp=>exact (bT.none _ _))
 intro u0 W_ bD aW _ _
 replace HS:=HS.new (A:=rA KI 3 u0 []) aW bD
 clear bD aW
 have fY:=an (HS.aI 2)
 refine hK.out _ _ ⟨fY.1,fY.2.1,fY.2.2.1,fY.2.2.2.1,fY.2.2.2.2.1⟩ (fun ah=> ?_)
 clear hK K fY
 refine cM (a':= ?_) ?_ ?_
 rotate_left
 ·show Act.put _ (some 3) _=_
  simp only [Act.put,List.setIfInBounds_toArray,List.set_cons_zero,List.set_cons_succ,bW,cA]
  rfl
 refine fJ 3 (some 6) 17 28095 aA (fun K hK=> ?_)
 clear ah
 refine Sep.append KI (by rfl) (.tmp 3) (.tmp 5) 22 3 (.int .i64 0) 8 rfl Tryz.underlying22 yX rfl (by decide) (by omega) u0 [] ks A0 ks.length c0 rfl rfl HS (Kd.aD X0.out HS.base) (fun _ _ _ _ h=>h) ?aL ?_
 (case aL=>have:=HN.out;simp only [List.length_nil];omega)
 clear HS
 intro u4 W_ HS
 rw [List.nil_append] at HS
 obtain ⟨B0,d0,rfl⟩:=HS.lz 0
 have fY:=an (HS.aI 2)
 refine hK.out _ _ ⟨fY.1,fY.2.1,fY.2.2.1,fY.2.2.2.1,fY.2.2.2.2.1⟩ (fun ah=> ?_)
 clear hK K fY
 refine cM (a':= ?_) ?_ ?_
 rotate_left
 ·show Act.put _ (some 6) _=_
  simp only [Act.put,List.setIfInBounds_toArray,List.set_cons_zero,List.set_cons_succ,bW,cA]
  rfl
 refine fJ 6 (some 9) 17 28159 aA (fun K hK=> ?_)
 refine fM Tryz.func87 (by kernel_rfl) rfl #[.slice A1 ps.length c1] (by rfl) rfl rfl (by (try simp only [List.map_toArray,List.map_cons,List.map_nil]);first|done|rfl) ?_
 have cE:=dA.calls k _ _ ps t1 _ (Kd.aD X1.out HS.base) Y1.out T1.out
 refine cE.mono ?_
 clear cE ah
 rintro e W_ ⟨u1,rfl,bD,aW⟩
 refine ⟨_,rfl,?_⟩
 replace HS:=HS.new (A:=sA KT 62 u1 t1) aW bD
 obtain ⟨B1,d1,rfl⟩:=HS.gY 0
 clear bD aW
 have fY:=an (HS.aI 3)
 refine hK.out _ _ ⟨fY.1,fY.2.1,fY.2.2.1,fY.2.2.2.1,fY.2.2.2.2.1⟩ (fun ah=> ?_)
 clear hK K fY
 refine cM (a':= ?_) ?_ ?_
 rotate_left
 ·show Act.put _ (some 9) _=_
  simp only [Act.put,List.setIfInBounds_toArray,List.set_cons_zero,List.set_cons_succ,bW,cA]
  rfl
 refine fJ 9 (some 12) 17 28671 aA (fun K hK=> ?_)
 refine fM Tryz.func87 (by kernel_rfl) rfl #[.slice A2 ss.length c2] (by rfl) rfl rfl (by (try simp only [List.map_toArray,List.map_cons,List.map_nil]);first|done|rfl) ?_
 have cE:=dA.calls k _ _ ss t2 _ (Kd.aD X2.out HS.base) Y2.out T2.out
 refine cE.mono ?_
 clear cE ah
 rintro e W_ ⟨u2,rfl,bD,aW⟩
 refine ⟨_,rfl,?_⟩
 replace HS:=HS.new (A:=sA KT 62 u2 t2) aW bD
 obtain ⟨B2,d2,rfl⟩:=HS.gY 0
 clear bD aW
 have fY:=an (HS.aI 4)
 refine hK.out _ _ ⟨fY.1,fY.2.1,fY.2.2.1,fY.2.2.2.1,fY.2.2.2.2.1⟩ (fun ah=> ?_)
 clear hK K fY
 refine cM (a':= ?_) ?_ ?_
 rotate_left
 ·show Act.put _ (some 12) _=_
  simp only [Act.put,List.setIfInBounds_toArray,List.set_cons_zero,List.set_cons_succ,bW,cA]
  rfl
 refine fJ 12 (some 15) 17 32767 aA (fun K hK=> ?_)
 refine fM Tryz.func87 (by kernel_rfl) rfl #[.slice A3 ib.length c3] (by rfl) rfl rfl (by (try simp only [List.map_toArray,List.map_cons,List.map_nil]);first|done|rfl) ?_
 have cE:=dA.calls k _ _ ib t3 _ (Kd.aD X3.out HS.base) Y3.out T3.out
 refine cE.mono ?_
 clear cE ah
 rintro e W_ ⟨u3,rfl,bD,aW⟩
 refine ⟨_,rfl,?_⟩
 replace HS:=HS.new (A:=sA KT 62 u3 t3) aW bD
 obtain ⟨B3,d3,rfl⟩:=HS.gY 0
 clear bD aW
 have fY:=an (HS.aI 5)
 refine hK.out _ _ ⟨fY.1,fY.2.1,fY.2.2.1,fY.2.2.2.1,fY.2.2.2.2.1⟩ (fun ah=> ?_)
 clear hK K fY
 refine cM (a':= ?_) ?_ ?_
 rotate_left
 ·show Act.put _ (some 15) _=_
  simp only [Act.put,List.setIfInBounds_toArray,List.set_cons_zero,List.set_cons_succ,bW,cA]
  rfl
 refine ag 15 (some 18) 17 65535 aA ?_
 refine fJ 16 none 17 131071 aA (fun K hK=> ?_)
 clear ah
 have cJ:=an (HS.aI 4)
 refine jV (w1:= ?_) (by rfl) rfl ?_ ?_
 rotate_left
 ·go_simp
  rfl
 replace HS:=(((((HS.cq 4 0 (.slice B0 ks.length d0) #[.slice B0 ks.length d0,.slice none 0 0,.slice none 0 0,.slice none 0 0,.int .i64 0]).cq 4 1 (.slice B1 t1.length d1) #[.slice B0 ks.length d0,.slice B1 t1.length d1,.slice none 0 0,.slice none 0 0,.int .i64 0]).cq 4 2 (.slice B2 t2.length d2) #[.slice B0 ks.length d0,.slice B1 t1.length d1,.slice B2 t2.length d2,.slice none 0 0,.int .i64 0]).cq 4 3 (.slice B3 t3.length d3) #[.slice B0 ks.length d0,.slice B1 t1.length d1,.slice B2 t2.length d2,.slice B3 t3.length d3,.int .i64 0]).cq 4 4 (.int .i64 sd) #[.slice B0 ks.length d0,.slice B1 t1.length d1,.slice B2 t2.length d2,.slice B3 t3.length d3,.int .i64 sd])
 clear cJ
 have fY:=an (HS.aI 5)
 refine hK.out _ _ ⟨fY.1,fY.2.1,fY.2.2.1,fY.2.2.2.1,fY.2.2.2.2.1⟩ (fun ah=> ?_)
 clear hK K fY
 refine eZ (cV aA.out (by kernel_rfl)) ?_
 clear aA ef ah
 go_wp2
 refine bodyPost_ret (results_cell_row rfl _ _ b2 27 #[.slice B0 ks.length d0,.slice B1 t1.length d1,.slice B2 t2.length d2,.slice B3 t3.length d3,.int .i64 sd] (0,0) _ rfl (by exact (HS.aI 4).out) Tryz.underlying27 rfl (by kernel_rfl)) rfl ?_
 exact ⟨_,_,_,_,rfl,(HS.sel [3,2,1,0]).abH,HS.base⟩
def gj.f (a0:Int):Option (Bool):=(bE.f a0 0 65535).bind fun t130=>(some t130)
theorem gj.calls (a0:Int) (r:Bool) (w:World) (h:gj.f a0=some r):
  Calls Tryz.prog 109 #[.int .i64 a0] w fun e w'=>e= .returned (.bool r)∧cQ w w':=by
 have H:((bE.f a0 0 65535).bind fun t130=>(some t130))=some r:=h
 clear h;replace H:=bS H;obtain ⟨t130,A2,H⟩:=H
 obtain rfl:=Option.some.inj H
 go_enter Tryz.func109,Tryz.ntmps109
 go_wp2_with (first|(go_at_call 79;(with_reducible refine (bE.calls a0 0 65535 t130 _ A2.out).mono ?_);rintro e w' ⟨rfl,⟨nd,rfl⟩⟩))
 go_ret
 exact ⟨er,gV⟩
def qD (a b:ByteArray):ByteArray:=strOfNums ((List.range a.size).map fun (i:Nat)=>Go.bits .xor .u8 (bt a (i:Int)) (bt b (i:Int)))
def mu (a b:ByteArray) (g:Nat) (i:Int) (W:World):Prop:=∃cs e mk,W.heap[g]? =some (.cells cs e (cs.size,mk))∧a.size≤cs.size∧∀j,j<a.size→cs[j]? =some (.int .u8 (if (j:Int)<i then Go.bits .xor .u8 (bt a (j:Int)) (bt b (j:Int)) else bt a (j:Int)))
theorem mu.start (a b:ByteArray) (W:World) (e:TypeId):mu a b W.heap.size 0 (Lib.bytesWorld W e a):=by
 refine ⟨_,_,_,Lib.bytesWorld_at_new W e a,?_,fun j hj=> ?_⟩
 ·simp [Lib.bytesCells]
 ·have h:=Lib.bytesWorld_cell W e a j hj
  have h':j<a.data.toList.length:=by rw [E7];exact hj
  simp only [World.cell?,Lib.bytesWorld_at_new] at h
  rw [if_neg (by omega)]
  refine Eq.trans (b:=some (Value.int .u8 (a.data.toList.getD j 0).toNat)) h ?_
  have h2:(a.data.toList.getD j 0).toNat=bt a (j:Int):=by
   have h3:(j:Int).toNat<a.size:=by omega
   simp only [bt,dif_pos h3,List.getD_eq_getElem?_getD,List.getElem?_eq_getElem h',Option.getD_some]
   rfl
  rw [h2]
theorem mu.cell {a b:ByteArray} {g:Nat} {i:Int} {W:World} (h:mu a b g i W) (h0:0≤i) (h1:i<(a.size:Int)):W.cell? ⟨g,i.toNat,none⟩=some (.int .u8 (bt a i))∧W.frozen? ⟨g,i.toNat,none⟩=false:=by
 obtain ⟨cs,e,mk,hc,hs,hv⟩:=h
 have hi:i.toNat<a.size:=by omega
 have hv':=hv i.toNat hi
 rw [if_neg (by omega),Int.toNat_of_nonneg h0] at hv'
 constructor
 ·simp only [World.cell?,hc]
  exact hv'
 ·simp only [World.frozen?,hc]
  simp
  omega
theorem mu.put {a b:ByteArray} {g:Nat} {i:Int} {W:World} (h:mu a b g i W) (h0:0≤i) (h1:i<(a.size:Int)) (hm:a.size≤1048576):mu a b g (wrap64 (i+1)) (W.setCell ⟨g,i.toNat,none⟩ (.int .u8 (Go.bits .xor .u8 (bt a i) (bt b i)))):=by
 obtain ⟨cs,e,mk,hc,hs,hv⟩:=h
 refine ⟨cs.setIfInBounds i.toNat (.int .u8 (Go.bits .xor .u8 (bt a i) (bt b i))),e,mk,by simp [World.setCell,Array.getElem?_modify,hc],by simpa using hs,fun j hj=> ?_⟩
 have hw:wrap64 (i+1)=i+1:=IntWalk.wrap64_in _ (by omega)
 rw [Array.getElem?_setIfInBounds,hw]
 by_cases e1:i.toNat=j
 ·subst e1
  rw [if_pos rfl,if_pos (by omega),if_pos (by omega),Int.toNat_of_nonneg h0]
 ·rw [if_neg e1,hv j hj]
  by_cases e2:(j:Int)<i
  ·rw [if_pos e2,if_pos (by omega)]
  ·rw [if_neg e2,if_neg (by omega)]
theorem mu.drew {a b:ByteArray} {g:Nat} {i:Int} {W:World} (h:mu a b g i W) (n:Nat):mu a b g i (W.drewN n):=h
theorem mu.done {a b:ByteArray} {g:Nat} {i:Int} {W:World} (h:mu a b g i W) (h1:¬i<(a.size:Int)) (hl:a.size≤9223372036854775807):eJ W .u8 (some ⟨g,0,none⟩) a.size ((List.range a.size).map fun (i:Nat)=>Go.bits .xor .u8 (bt a (i:Int)) (bt b (i:Int))):=by
 obtain ⟨cs,e,mk,hc,hs,hv⟩:=h
 refine ⟨by simp,hl,fun _=>⟨_,rfl,fun j hj=> ?_⟩⟩
 have:=hv j hj
 rw [if_pos (by omega)] at this
 rw [add_plain]
 simp only [World.cell?,hc]
 simpa [hj] using this
def iB.f (k:Nat) (a0 a1:ByteArray):Option ByteArray:=if a0.size≤a1.size then (if a0.size≤1048576 then some (qD a0 a1) else none) else none
theorem iB.calls (k:Nat) (a0 a1:ByteArray) (r:ByteArray) (w:World) (h:iB.f k a0 a1=some r):
 Calls Tryz.prog 110 #[.string a0,.string a1] w fun e w'=>e= .returned (.string r)∧Below w.heap.size w w':=by
 unfold iB.f at h
 replace h:=dy h;obtain ⟨hl,h⟩:=h
 replace h:=dy h;obtain ⟨hm,h⟩:=h
 obtain rfl:=Option.some.inj h
 clear h
 have HL:=ak hl;have HM:=ak hm;clear hl hm
 have HCV:=ak (fun W=>wj (P:=Tryz.prog) 9 56 5 Tryz.underlying9 Tryz.underlying56 Tryz.underlying5 a0 W)
 go_enter Tryz.func110,Tryz.ntmps110
 have SK:=ak (mu.start a0 a1 w 5)
 have SY:=ak (wQ (Below.refl w.heap.size w) (Nat.le_refl _) 5 a0)
 have Qb:=HCV.out w
 clear HCV
 generalize hg:w.heap.size=g at SK SY Qb
 generalize hW:Lib.bytesWorld w 5 a0=W1 at SK SY Qb
 generalize Xk:grownCap w a0.size 0 5=cp at Qb
 clear hW Xk
 go_wp2_with (simp only [Qb,Result.andThen])
 clear Qb
 go_loopg [11] a0.size (fun kq v11 w'=>∃(i:Int),v11= .int .i64 i∧0≤i∧i≤a0.size∧(a0.size-i.toNat:Nat)≤kq∧Aside0 (mu a0 a1 g i w')∧Aside0 (Below g w w'))
 case atStart=>exact ⟨0,rfl,Int.le_refl _,by omega,by omega,SK,SY⟩
 case round=>
 clear SK SY
 obtain ⟨i,rfl,xj,C3,hk,HX,HB⟩:=hrel
 by_cases fl:i<(a0.size:Int)
 ·have c1:decide (i<(a0.size:Int))=true:=decide_eq_true fl
  have p4:0≤i:=xj
  have q4:i<(a1.size:Int):=by have:=HL.out;omega
  have hx4:=jJ a1 i
  obtain ⟨hz,hf⟩:=HX.out.cell xj fl
  have HX2:=ak ((show mu a0 a1 g i wr.drew from HX.out).put xj fl HM.out)
  have YS:=ak (Below.setCell (iI HB.out) (show g≤(Addr.mk g i.toNat none).block from Nat.le_refl _) (.int .u8 (Go.bits .xor .u8 (bt a0 i) (bt a1 i))))
  replace p4:=eq_true p4;replace q4:=eq_true q4;go_wp2
  go_region
  go_wp2
  go_roundg (a0.size-(i+1).toNat)
  case measure=>have:=HM.out;omega
  case rel=>exact ⟨wrap64 (i+1),er,by rw [IntWalk.wrap64_in _ (by have:=HM.out;omega)];omega,by rw [IntWalk.wrap64_in _ (by have:=HM.out;omega)];omega,by rw [IntWalk.wrap64_in _ (by have:=HM.out;omega)];exact Nat.le_refl _,HX2,YS⟩
 ·have c1:decide (i<(a0.size:Int))=false:=decide_eq_false fl
  have tF:=qj (P:=Tryz.prog) (c:=cp) Tryz.underlying56 Tryz.underlying5 Tryz.underlying9 (HX.out.done fl (by have:=HM.out;omega))
  go_wp2
  go_ret
  subst hg
  exact ⟨er,HB.out⟩
def iU.f (k:Nat) (l0:List Int):Option (Bool):=if (l0.length:Int)≤8 then ((cm.f k l0 0 65535).bind fun t131=>(some t131)) else (some false)
theorem iU.calls (k:Nat) (A0:Option Addr) (c0:Nat) (l0:List Int) (r:Bool) (w:World) (ff:Kd.C (Kd.int .i64) w A0 l0.length l0) (fL:l0.length≤c0) (h:iU.f k l0=some r):
  Calls Tryz.prog 154 #[.slice A0 l0.length c0] w fun e w'=>e= .returned (.bool r)∧cQ w w':=by
 have fZ:=ak ff;have ki:=ak fL;clear ff fL
 have H:(if (l0.length:Int)≤8 then ((cm.f k l0 0 65535).bind fun t131=>(some t131)) else (some false))=some r:=h
 clear h
 by_cases c2:(l0.length:Int)≤8
 ·rw [if_pos c2] at H
  have o5:=decide_eq_true c2
  have Fj:decide (l0.length≤8)=true:=decide_eq_true (by omega)
  clear c2;replace H:=bS H;obtain ⟨t131,A3,H⟩:=H
  obtain rfl:=Option.some.inj H
  go_enter Tryz.func154,Tryz.ntmps154
  go_wp2_with (first|(go_at_call 81;(with_reducible refine (cm.calls k _ _ l0 0 65535 t131 _ ?side1 ?side2 A3.out).mono ?_);(case side1=>exact cd fZ.out);(case side2=>exact ki.out);rintro e w' ⟨rfl,⟨nd,rfl⟩⟩))
  go_ret
  exact ⟨er,gV⟩
 ·rw [if_neg c2] at H
  have o5:=decide_eq_false c2
  have Fj:decide (l0.length≤8)=false:=decide_eq_false (by omega)
  clear c2
  obtain rfl:=Option.some.inj H
  go_enter Tryz.func154,Tryz.ntmps154
  go_wp2
  go_ret
  exact ⟨er,gV⟩
def gC.f (k:Nat) (l0:List Int) (a1:Int) (a2:ByteArray):Option (Bool):=(iU.f k l0).bind fun t132=>(if t132=true then ((gj.f a1).bind fun t133=>(if t133=true then (if (a2.size:Int)≤40 then (some (((a2.size:Int)%2)==0)) else (some false)) else (some false))) else (some false))
theorem gC.calls (k:Nat) (A0:Option Addr) (c0:Nat) (l0:List Int) (a1:Int) (a2:ByteArray) (r:Bool) (w:World) (ff:Kd.C (Kd.int .i64) w A0 l0.length l0) (fL:l0.length≤c0) (h:gC.f k l0 a1 a2=some r):
  Calls Tryz.prog 137 #[.slice A0 l0.length c0,.int .i64 a1,.string a2] w fun e w'=>e= .returned (.bool r)∧cQ w w':=by
 have fZ:=ak ff;have ki:=ak fL;clear ff fL
 have H:((iU.f k l0).bind fun t132=>(if t132=true then ((gj.f a1).bind fun t133=>(if t133=true then (if (a2.size:Int)≤40 then (some (((a2.size:Int)%2)==0)) else (some false)) else (some false))) else (some false)))=some r:=h
 clear h;replace H:=bS H;obtain ⟨t132,A4,H⟩:=H
 by_cases c5:t132=true
 ·subst c5
  have H1:((gj.f a1).bind fun t133=>(if t133=true then (if (a2.size:Int)≤40 then (some (((a2.size:Int)%2)==0)) else (some false)) else (some false)))=some r:=by rw [if_pos rfl] at H;exact H
  clear H
  have H:=H1
  clear H1;replace H:=bS H;obtain ⟨t133,A6,H⟩:=H
  by_cases c7:t133=true
  ·subst c7
   have H1:(if (a2.size:Int)≤40 then (some (((a2.size:Int)%2)==0)) else (some false))=some r:=by rw [if_pos rfl] at H;exact H
   clear H
   have H:=H1
   clear H1
   by_cases c8:(a2.size:Int)≤40
   ·rw [if_pos c8] at H
    have xw:=decide_eq_true c8
    have LF:decide (a2.size≤40)=true:=decide_eq_true (by omega)
    clear c8
    obtain rfl:=Option.some.inj H
    go_enter Tryz.func137,Tryz.ntmps137
    go_wp2_with (first|(go_at_call 154;(with_reducible refine (iU.calls k _ _ l0 true _ ?side1 ?side2 A4.out).mono ?_);(case side1=>exact cd fZ.out);(case side2=>exact ki.out);rintro e w' ⟨rfl,⟨nd,rfl⟩⟩)|(go_at_call 109;(with_reducible refine (gj.calls a1 true _ A6.out).mono ?_);rintro e w' ⟨rfl,⟨nd,rfl⟩⟩))
    go_ret
    exact ⟨er,gV⟩
   ·rw [if_neg c8] at H
    have xw:=decide_eq_false c8
    have LF:decide (a2.size≤40)=false:=decide_eq_false (by omega)
    clear c8
    obtain rfl:=Option.some.inj H
    go_enter Tryz.func137,Tryz.ntmps137
    go_wp2_with (first|(go_at_call 154;(with_reducible refine (iU.calls k _ _ l0 true _ ?side1 ?side2 A4.out).mono ?_);(case side1=>exact cd fZ.out);(case side2=>exact ki.out);rintro e w' ⟨rfl,⟨nd,rfl⟩⟩)|(go_at_call 109;(with_reducible refine (gj.calls a1 true _ A6.out).mono ?_);rintro e w' ⟨rfl,⟨nd,rfl⟩⟩))
    go_ret
    exact ⟨er,gV⟩
  ·replace c7:=Bool.eq_false_iff.mpr c7
   subst c7
   have H1:(some false)=some r:=by rw [if_neg (show¬(false=true) by decide)] at H;exact H
   clear H
   have H:=H1
   clear H1
   obtain rfl:=Option.some.inj H
   go_enter Tryz.func137,Tryz.ntmps137
   go_wp2_with (first|(go_at_call 154;(with_reducible refine (iU.calls k _ _ l0 true _ ?side1 ?side2 A4.out).mono ?_);(case side1=>exact cd fZ.out);(case side2=>exact ki.out);rintro e w' ⟨rfl,⟨nd,rfl⟩⟩)|(go_at_call 109;(with_reducible refine (gj.calls a1 false _ A6.out).mono ?_);rintro e w' ⟨rfl,⟨nd,rfl⟩⟩))
   go_ret
   exact ⟨er,gV⟩
 ·replace c5:=Bool.eq_false_iff.mpr c5
  subst c5
  have H1:(some false)=some r:=by rw [if_neg (show¬(false=true) by decide)] at H;exact H
  clear H
  have H:=H1
  clear H1
  obtain rfl:=Option.some.inj H
  go_enter Tryz.func137,Tryz.ntmps137
  go_wp2_with (first|(go_at_call 154;(with_reducible refine (iU.calls k _ _ l0 false _ ?side1 ?side2 A4.out).mono ?_);(case side1=>exact cd fZ.out);(case side2=>exact ki.out);rintro e w' ⟨rfl,⟨nd,rfl⟩⟩))
  go_ret
  exact ⟨er,gV⟩
def jM.f (a0:Int) (a1:Int):Option (Int):=some (Int.tmod (Int.tmod (wrap64 ((wrap64 ((wrap64 ((Int.tmod (wrap64 (a1+(Int.tmod a0 256))) 256)*(Int.tmod (wrap64 (a1+(Int.tmod a0 256))) 256)))+(wrap64 ((Int.tmod (wrap64 (a1+(Int.tmod a0 256))) 256)*(wrap64 (Int.tdiv a0 256))))))+29)) 65521) 256)
theorem jM.calls (a0:Int) (a1:Int) (r:Int) (w:World) (h:jM.f a0 a1=some r):
  Calls Tryz.prog 155 #[.int .i64 a0,.int .i64 a1] w fun e w'=>e= .returned (.int .i64 r)∧cQ w w':=by
 have H:(some (Int.tmod (Int.tmod (wrap64 ((wrap64 ((wrap64 ((Int.tmod (wrap64 (a1+(Int.tmod a0 256))) 256)*(Int.tmod (wrap64 (a1+(Int.tmod a0 256))) 256)))+(wrap64 ((Int.tmod (wrap64 (a1+(Int.tmod a0 256))) 256)*(wrap64 (Int.tdiv a0 256))))))+29)) 65521) 256))=some r:=h
 clear h
 obtain rfl:=Option.some.inj H
 go_enter Tryz.func155,Tryz.ntmps155
 go_wp2
 go_ret
 exact ⟨er,gV⟩
def ee.l0:Nat→Int→Int→List Int→Int→Int→Option (Int)
  |0,_,_,_,_,_=>none
  |k+1,x5,x6,kD,kV,x16=>if x16<kV then (if 0≤x16 then (if x16<(kD.length:Int) then ((jM.f (rd kD x16) x6).bind fun t135=>(ee.l0 k x6 (Go.bits .xor .i64 x5 t135) kD kV (wrap64 (x16+1)))) else (none)) else (none)) else (some (wrap64 ((wrap64 (256*x5))+x6)))
def ee.f (k:Nat) (l0:List Int) (a1:Int):Option (Int):=ee.l0 k (wrap64 (Int.tdiv a1 256)) (Int.tmod a1 256) l0 (l0.length:Int) 0
theorem ee.calls (k:Nat) (A0:Option Addr) (c0:Nat) (l0:List Int) (a1:Int) (r:Int) (w:World) (ff:Kd.C (Kd.int .i64) w A0 l0.length l0) (fL:l0.length≤c0) (h:ee.f k l0 a1=some r):
  Calls Tryz.prog 138 #[.slice A0 l0.length c0,.int .i64 a1] w fun e w'=>e= .returned (.int .i64 r)∧cQ w w':=by
 have fZ:=ak ff;have ki:=ak fL;clear ff fL
 have H:(ee.l0 k (wrap64 (Int.tdiv a1 256)) (Int.tmod a1 256) l0 (l0.length:Int) 0)=some r:=h
 clear h
 have H':=ak H
 clear H
 go_enter Tryz.func138,Tryz.ntmps138
 go_wp2
 go_loopg [5,6,16] k (fun kq v5 v6 v16 w'=>∃(dM:Int) (yj:Int) (yl:Int),v5= .int .i64 dM∧v6= .int .i64 yj∧v16= .int .i64 yl∧Aside0 (ee.l0 kq dM yj l0 (l0.length:Int) yl=some r)∧Aside0 (kq≤k)∧cQ w w')
 case atStart=>exact ⟨(wrap64 (Int.tdiv a1 256)),(Int.tmod a1 256),(0),er,er,er,H',⟨Nat.le_refl _⟩,gV⟩
 case round=>
  clear H'
  obtain ⟨dM,yj,yl,rfl,rfl,rfl,HA,gf,⟨m1,rfl⟩⟩:=hrel
  cases gk with
  |zero=>exact absurd HA.out (by simp [ee.l0])
  |succ k1=>
   have H:=HA.out;clear HA
   simp only [ee.l0] at H
   by_cases c3:yl<(l0.length:Int)
   ·rw [if_pos c3] at H
    have jX:=decide_eq_true c3
    clear c3;replace H:=dy H;obtain ⟨c4,H⟩:=H;have jn:=decide_eq_true c4;clear c4;replace H:=dy H;obtain ⟨c5,H⟩:=H;have mh:=decide_eq_true c5;clear c5;replace H:=bS H;obtain ⟨t135,A6,H⟩:=H
    have H':=ak H
    clear H
    obtain ⟨ajT,ajH,aiP,ahj,aer⟩:=ng (Kd.jS fZ.out yl)
    cases ahj
    go_wp2_with (first|(go_at_call 155;(with_reducible refine (jM.calls (rd l0 yl) yj t135 _ A6.out).mono ?_);rintro e w' ⟨rfl,⟨nd,rfl⟩⟩))
    go_roundg k1
    case measure=>have:=gf.out;omega
    case rel=>exact ⟨(yj),(Go.bits .xor .i64 dM t135),(wrap64 (yl+1)),er,er,er,H',⟨by have:=gf.out;omega⟩,gV⟩
   ·rw [if_neg c3] at H
    have jX:=decide_eq_false c3
    clear c3
    obtain rfl:=Option.some.inj H
    go_wp2
    go_ret
    exact ⟨er,gV⟩
def dB.l0:Nat→List Int→Int→ByteArray→List Int→Int→Option (ByteArray×Bool)
  |0,_,_,_,_,_=>none
  |k+1,x0,x1,x2,x8,x9=>if x9<(x2.size:Int) then (if 0≤x9 then (if 0≤(wrap64 (x9+1)) then (if (wrap64 (x9+1))<(x2.size:Int) then ((ee.f k x0 (Go.bits .xor .i64 (wrap64 ((wrap64 (256*(wrap64 (bt x2 x9))))+(wrap64 (bt x2 (wrap64 (x9+1)))))) x1)).bind fun t137=>((some (([(wrap64 (Int.tdiv t137 256))%256,(Int.tmod t137 256)%256]:List Int):List Int)).bind fun sX=>(if x8.length+sX.length<140737488355328 then (dB.l0 k x0 t137 x2 (x8++sX) (wrap64 (x9+2))) else (none)))) else (none)) else (none)) else (none)) else (some (strOfNums x8,true))
def dB.f (k:Nat) (l0:List Int) (a1:Int) (a2:ByteArray):Option (ByteArray×Bool):=(gC.f k l0 a1 a2).bind fun t136=>(if t136=true then (dB.l0 k l0 a1 a2 ([]:List Int) 0) else (some ((⟨#[]⟩:ByteArray),false)))
theorem dB.calls (k:Nat) (A0:Option Addr) (c0:Nat) (l0:List Int) (a1:Int) (a2:ByteArray) (r1:ByteArray) (r2:Bool) (w:World) (ff:Kd.C (Kd.int .i64) w A0 l0.length l0) (fL:l0.length≤c0) (h:dB.f k l0 a1 a2=some (r1,r2)):
  Calls Tryz.prog 121 #[.slice A0 l0.length c0,.int .i64 a1,.string a2] w fun e w'=>e= .returned (.tuple #[.string r1,.bool r2])∧Below w.heap.size w w':=by
 have fZ:=ak ff;have ki:=ak fL;clear ff fL
 have HB:=ak (Below.refl w.heap.size w)
 have H:((gC.f k l0 a1 a2).bind fun t136=>(if t136=true then (dB.l0 k l0 a1 a2 ([]:List Int) 0) else (some ((⟨#[]⟩:ByteArray),false))))=some (r1,r2):=h
 clear h;replace H:=bS H;obtain ⟨t136,A4,H⟩:=H
 by_cases c5:t136=true
 ·subst c5
  have H1:(dB.l0 k l0 a1 a2 ([]:List Int) 0)=some (r1,r2):=by rw [if_pos rfl] at H;exact H
  clear H
  have H:=H1
  clear H1
  have H':=ak H
  clear H
  go_enter Tryz.func121,Tryz.ntmps121
  go_wp2_with (first|(go_at_call 137;(with_reducible refine (gC.calls k _ _ l0 a1 a2 true _ ?side1 ?side2 A4.out).mono ?_);(case side1=>exact cd fZ.out);(case side2=>exact ki.out);rintro e w' ⟨rfl,⟨nd,rfl⟩⟩;(try first|exact ⟨rfl,_,World.drewN_drewN _ _ _⟩|exact ⟨rfl,_,Eq.trans (World.drewN_drewN _ _ _) (congrArg (World.drewN _) (Nat.add_assoc _ _ _))⟩)))
  repeat (go_quiet (first|(go_at_call 137;(with_reducible refine (gC.calls k _ _ l0 a1 a2 true _ ?side1 ?side2 A4.out).mono ?_);(case side1=>exact cd fZ.out);(case side2=>exact ki.out);rintro e w' ⟨rfl,⟨nd,rfl⟩⟩;(try first|exact ⟨rfl,_,World.drewN_drewN _ _ _⟩|exact ⟨rfl,_,Eq.trans (World.drewN_drewN _ _ _) (congrArg (World.drewN _) (Nat.add_assoc _ _ _))⟩)));try go_wp2_with (first|(go_at_call 137;(with_reducible refine (gC.calls k _ _ l0 a1 a2 true _ ?side1 ?side2 A4.out).mono ?_);(case side1=>exact cd fZ.out);(case side2=>exact ki.out);rintro e w' ⟨rfl,⟨nd,rfl⟩⟩;(try first|exact ⟨rfl,_,World.drewN_drewN _ _ _⟩|exact ⟨rfl,_,Eq.trans (World.drewN_drewN _ _ _) (congrArg (World.drewN _) (Nat.add_assoc _ _ _))⟩))))
  go_loopg [1,8,9] k (fun kq v1 v8 v9 w'=>∃(sY:Int) (cX:List Int) (hU:Int),v1= .int .i64 sY∧v9= .int .i64 hU∧Aside0 (dB.l0 kq l0 sY a2 cX hU=some (r1,r2))∧Aside0 (kq≤k)∧Aside0 (Kd.R (Kd.int .u8) 5 w' w.heap.size (fun _=>True) v8 cX)∧Aside0 (Below w.heap.size w w'))
  case atStart=>exact ⟨(a1),(([]:List Int)),(0),er,er,H',⟨Nat.le_refl _⟩,⟨CD⟩,⟨aq HB⟩⟩
  case round=>
   clear H'
   (try clear c5)
   obtain ⟨sY,cX,hU,rfl,rfl,HA,gf,su,HB⟩:=hrel
   cases gk with
   |zero=>exact absurd HA.out (by simp [dB.l0])
   |succ k1=>
    have H:=HA.out;clear HA
    simp only [dB.l0] at H
    by_cases c6:hU<(a2.size:Int)
    ·rw [if_pos c6] at H
     have kO:=decide_eq_true c6
     clear c6;replace H:=dy H;obtain ⟨c7,H⟩:=H;have tw:=decide_eq_true c7;clear c7
     obtain ⟨mc,uw⟩:∃j_:Int,(wrap64 (hU+1))=j_:=⟨_,rfl⟩
     replace H:(if 0≤(mc) then (if (mc)<(a2.size:Int) then ((ee.f k1 l0 (Go.bits .xor .i64 (wrap64 ((wrap64 (256*(wrap64 (bt a2 hU))))+(wrap64 (bt a2 (mc))))) sY)).bind fun t137=>((some (([(wrap64 (Int.tdiv t137 256))%256,(Int.tmod t137 256)%256]:List Int):List Int)).bind fun sX=>(if cX.length+sX.length<140737488355328 then (dB.l0 k1 l0 t137 a2 (cX++sX) (wrap64 (hU+2))) else (none)))) else (none)) else (none))=some (r1,r2):=by first|(rw [uw] at H;exact H)|(simp only [uw] at H⊢;exact H)
     have TG:(IntKind.i64.wrap (hU+1))=mc:=(bW _).trans uw
     replace H:=dy H;obtain ⟨gW,H⟩:=H;have kY:=decide_eq_true gW;clear gW;replace H:=dy H;obtain ⟨mY,H⟩:=H;have nM:=decide_eq_true mY;clear mY;replace H:=bS H;obtain ⟨t137,sn,H⟩:=H
     obtain ⟨sX,ez⟩:∃y_:List Int,y_=(([(wrap64 (Int.tdiv t137 256))%256,(Int.tmod t137 256)%256]:List Int)):=⟨_,rfl⟩
     replace H:(if cX.length+sX.length<140737488355328 then (dB.l0 k1 l0 t137 a2 (cX++sX) (wrap64 (hU+2))) else (none))=some (r1,r2):=yH
     have BU:=ak ez;clear ez;replace H:=dy H;obtain ⟨oI,H⟩:=H;have zU:=ak oI;clear oI
     obtain ⟨Z5,ez⟩:∃y_:List Int,y_=(cX++sX):=⟨_,rfl⟩
     replace H:(dB.l0 k1 l0 t137 a2 Z5 (wrap64 (hU+2)))=some (r1,r2):=yH
     have PC:=ak ez;clear ez
     have H':=ak H
     clear H
     have p8:0≤(hU:Int):=da
     have q8:hU<(a2.size:Int):=da
     have hx8:=jJ a2 hU
     replace p8:=eq_true p8;replace q8:=eq_true q8
     have p12:0≤((mc):Int):=da
     have q12:(mc)<(a2.size:Int):=da
     have af4:=jJ a2 (mc)
     replace p12:=eq_true p12;replace q12:=eq_true q12
     go_wp2_with (first|(go_at_call 138;(with_reducible refine (ee.calls k1 _ _ l0 (Go.bits .xor .i64 (wrap64 ((wrap64 (256*(wrap64 (bt a2 hU))))+(wrap64 (bt a2 (mc))))) sY) t137 _ ?side1 ?side2 sn.out).mono ?_);(case side1=>exact cd (Kd.aD fZ.out HB.out));(case side2=>exact ki.out);rintro e w' ⟨rfl,⟨nd,rfl⟩⟩;(try first|exact ⟨rfl,_,World.drewN_drewN _ _ _⟩|exact ⟨rfl,_,Eq.trans (World.drewN_drewN _ _ _) (congrArg (World.drewN _) (Nat.add_assoc _ _ _))⟩))|((with_reducible refine av (N:=43) rfl ?_);refine Kd.gD (Kd.int .u8) _ 5 ?hg (N:=43) ?hd (xs:=([(wrap64 (Int.tdiv t137 256))%256,(Int.tmod t137 256)%256]:List Int)) (inner:=[.int .u8 ((wrap64 (Int.tdiv t137 256))%256),.int .u8 ((Int.tmod t137 256)%256)]) (ok:=fun _=>True) (okp:=fun _=>True) ?hr ?hp (fun _ hk=>hk) trivial (Below.refl _ _) (Nat.le_refl _) (by simp) ?_;(case hd=>rfl);(case hg=>rfl);(case hr=>exact rZ);(case hp=>exact (bT.one (show Kd.M (Kd.int .u8) _ _ _ ((wrap64 (Int.tdiv t137 256))%256) [.int .u8 ((wrap64 (Int.tdiv t137 256))%256)] from rfl) (bT.one (show Kd.M (Kd.int .u8) _ _ _ ((Int.tmod t137 256)%256) [.int .u8 ((Int.tmod t137 256)%256)] from rfl) (bT.none _ _))));intro v139 Ti ju hb bK dP;clear bK dP;(first|rw [←BU.out] at ju|(simp only [Int.reduceToNat] at ju;rw [←BU.out] at ju));have mW:=ak (Kd.dz (Kd.l9 ju (Kd.ji (dH su))) (aX (aq HB)));replace su:=ak (Kd.iX (dH su) (Kd.j3 ju) hb);replace HB:=ak (aH (aq HB) hb);clear hb ju;obtain ⟨xA,xq,uH⟩:=Kd.de mW.out;subst uH)|((with_reducible refine bw (b:= .append) (xs:= #[.tmp 36,.tmp 43]) rfl ?_);at_builtin;refine Kd.cH (Kd.int .u8) (w0:=w) w.heap.size rfl (.tmp 36) (.tmp 43) 56 5 (.int .u8 0) 1 rfl Tryz.underlying56 sG rfl (by decide) (by omega) u8 cX sX _ _ _ (fun k_=>some k_≠(.slice xA sX.length xq:Value).ownBlock) (fun _=>False) rfl rfl ?aO ?aR (fun _ _ h=>h) (fun _ h=>h.elim) ?aF ?aB ?aS ?aL ?_;(case aR=>exact cd (Kd.aJ mW.out).2.2);(case aB=>exact (aq HB));(case aF=>exact (fun k_ hk=>Kd.gI (Kd.ji (dH mW)) k_ hk));(case aO=>exact (by (with_reducible repeat (first|apply Kd.cz|apply Kd.cy|apply Kd.cD));exact Kd.bJ su.out (fun _ hk=>hk.2)));(case aS=>exact (aX (aq HB)));(case aL=>have:=zU.out;omega);intro aai L6 ho hb hg eC;rw [←PC.out] at ho;replace mW:=ak (Kd.cF (ok:=(fun _=>True)) (dH mW) hg eC);replace HB:=ak (hb);have P5:=ak (ho);clear su;clear ho hb hg eC))
     repeat (go_quiet (first|(go_at_call 138;(with_reducible refine (ee.calls k1 _ _ l0 (Go.bits .xor .i64 (wrap64 ((wrap64 (256*(wrap64 (bt a2 hU))))+(wrap64 (bt a2 (mc))))) sY) t137 _ ?side1 ?side2 sn.out).mono ?_);(case side1=>exact cd (Kd.aD fZ.out HB.out));(case side2=>exact ki.out);rintro e w' ⟨rfl,⟨nd,rfl⟩⟩;(try first|exact ⟨rfl,_,World.drewN_drewN _ _ _⟩|exact ⟨rfl,_,Eq.trans (World.drewN_drewN _ _ _) (congrArg (World.drewN _) (Nat.add_assoc _ _ _))⟩))|((with_reducible refine av (N:=43) rfl ?_);refine Kd.gD (Kd.int .u8) _ 5 ?hg (N:=43) ?hd (xs:=([(wrap64 (Int.tdiv t137 256))%256,(Int.tmod t137 256)%256]:List Int)) (inner:=[.int .u8 ((wrap64 (Int.tdiv t137 256))%256),.int .u8 ((Int.tmod t137 256)%256)]) (ok:=fun _=>True) (okp:=fun _=>True) ?hr ?hp (fun _ hk=>hk) trivial (Below.refl _ _) (Nat.le_refl _) (by simp) ?_;(case hd=>rfl);(case hg=>rfl);(case hr=>exact rZ);(case hp=>exact (bT.one (show Kd.M (Kd.int .u8) _ _ _ ((wrap64 (Int.tdiv t137 256))%256) [.int .u8 ((wrap64 (Int.tdiv t137 256))%256)] from rfl) (bT.one (show Kd.M (Kd.int .u8) _ _ _ ((Int.tmod t137 256)%256) [.int .u8 ((Int.tmod t137 256)%256)] from rfl) (bT.none _ _))));intro v139 Ti ju hb bK dP;clear bK dP;(first|rw [←BU.out] at ju|(simp only [Int.reduceToNat] at ju;rw [←BU.out] at ju));have mW:=ak (Kd.dz (Kd.l9 ju (Kd.ji (dH su))) (aX (aq HB)));replace su:=ak (Kd.iX (dH su) (Kd.j3 ju) hb);replace HB:=ak (aH (aq HB) hb);clear hb ju;obtain ⟨xA,xq,uH⟩:=Kd.de mW.out;subst uH)|((with_reducible refine bw (b:= .append) (xs:= #[.tmp 36,.tmp 43]) rfl ?_);at_builtin;refine Kd.cH (Kd.int .u8) (w0:=w) w.heap.size rfl (.tmp 36) (.tmp 43) 56 5 (.int .u8 0) 1 rfl Tryz.underlying56 sG rfl (by decide) (by omega) u8 cX sX _ _ _ (fun k_=>some k_≠(.slice xA sX.length xq:Value).ownBlock) (fun _=>False) rfl rfl ?aO ?aR (fun _ _ h=>h) (fun _ h=>h.elim) ?aF ?aB ?aS ?aL ?_;(case aR=>exact cd (Kd.aJ mW.out).2.2);(case aB=>exact (aq HB));(case aF=>exact (fun k_ hk=>Kd.gI (Kd.ji (dH mW)) k_ hk));(case aO=>exact (by (with_reducible repeat (first|apply Kd.cz|apply Kd.cy|apply Kd.cD));exact Kd.bJ su.out (fun _ hk=>hk.2)));(case aS=>exact (aX (aq HB)));(case aL=>have:=zU.out;omega);intro aai L6 ho hb hg eC;rw [←PC.out] at ho;replace mW:=ak (Kd.cF (ok:=(fun _=>True)) (dH mW) hg eC);replace HB:=ak (hb);have P5:=ak (ho);clear su;clear ho hb hg eC));try go_wp2_with (first|(go_at_call 138;(with_reducible refine (ee.calls k1 _ _ l0 (Go.bits .xor .i64 (wrap64 ((wrap64 (256*(wrap64 (bt a2 hU))))+(wrap64 (bt a2 (mc))))) sY) t137 _ ?side1 ?side2 sn.out).mono ?_);(case side1=>exact cd (Kd.aD fZ.out HB.out));(case side2=>exact ki.out);rintro e w' ⟨rfl,⟨nd,rfl⟩⟩;(try first|exact ⟨rfl,_,World.drewN_drewN _ _ _⟩|exact ⟨rfl,_,Eq.trans (World.drewN_drewN _ _ _) (congrArg (World.drewN _) (Nat.add_assoc _ _ _))⟩))|((with_reducible refine av (N:=43) rfl ?_);refine Kd.gD (Kd.int .u8) _ 5 ?hg (N:=43) ?hd (xs:=([(wrap64 (Int.tdiv t137 256))%256,(Int.tmod t137 256)%256]:List Int)) (inner:=[.int .u8 ((wrap64 (Int.tdiv t137 256))%256),.int .u8 ((Int.tmod t137 256)%256)]) (ok:=fun _=>True) (okp:=fun _=>True) ?hr ?hp (fun _ hk=>hk) trivial (Below.refl _ _) (Nat.le_refl _) (by simp) ?_;(case hd=>rfl);(case hg=>rfl);(case hr=>exact rZ);(case hp=>exact (bT.one (show Kd.M (Kd.int .u8) _ _ _ ((wrap64 (Int.tdiv t137 256))%256) [.int .u8 ((wrap64 (Int.tdiv t137 256))%256)] from rfl) (bT.one (show Kd.M (Kd.int .u8) _ _ _ ((Int.tmod t137 256)%256) [.int .u8 ((Int.tmod t137 256)%256)] from rfl) (bT.none _ _))));intro v139 Ti ju hb bK dP;clear bK dP;(first|rw [←BU.out] at ju|(simp only [Int.reduceToNat] at ju;rw [←BU.out] at ju));have mW:=ak (Kd.dz (Kd.l9 ju (Kd.ji (dH su))) (aX (aq HB)));replace su:=ak (Kd.iX (dH su) (Kd.j3 ju) hb);replace HB:=ak (aH (aq HB) hb);clear hb ju;obtain ⟨xA,xq,uH⟩:=Kd.de mW.out;subst uH)|((with_reducible refine bw (b:= .append) (xs:= #[.tmp 36,.tmp 43]) rfl ?_);at_builtin;refine Kd.cH (Kd.int .u8) (w0:=w) w.heap.size rfl (.tmp 36) (.tmp 43) 56 5 (.int .u8 0) 1 rfl Tryz.underlying56 sG rfl (by decide) (by omega) u8 cX sX _ _ _ (fun k_=>some k_≠(.slice xA sX.length xq:Value).ownBlock) (fun _=>False) rfl rfl ?aO ?aR (fun _ _ h=>h) (fun _ h=>h.elim) ?aF ?aB ?aS ?aL ?_;(case aR=>exact cd (Kd.aJ mW.out).2.2);(case aB=>exact (aq HB));(case aF=>exact (fun k_ hk=>Kd.gI (Kd.ji (dH mW)) k_ hk));(case aO=>exact (by (with_reducible repeat (first|apply Kd.cz|apply Kd.cy|apply Kd.cD));exact Kd.bJ su.out (fun _ hk=>hk.2)));(case aS=>exact (aX (aq HB)));(case aL=>have:=zU.out;omega);intro aai L6 ho hb hg eC;rw [←PC.out] at ho;replace mW:=ak (Kd.cF (ok:=(fun _=>True)) (dH mW) hg eC);replace HB:=ak (hb);have P5:=ak (ho);clear su;clear ho hb hg eC)))
     go_roundg k1
     case measure=>have:=gf.out;omega
     case rel=>exact ⟨(t137),(Z5),(wrap64 (hU+2)),er,er,H',⟨by have:=gf.out;omega⟩,⟨by (with_reducible repeat (first|apply Kd.cz|apply Kd.cy|apply Kd.cD));exact Kd.bJ P5.out (fun _ hk=>trivial)⟩,⟨aq HB⟩⟩
    ·rw [if_neg c6] at H
     have kO:=decide_eq_false c6
     clear c6
     simp only [Option.some.injEq,Prod.mk.injEq] at H
     obtain ⟨rfl,rfl⟩:=H
     have aa8:=jc (P:=Tryz.prog) Tryz.underlying56 Tryz.underlying5 Tryz.underlying9 (Kd.iV su.out)
     go_wp2
     repeat (go_quiet (fail);try go_wp2)
     go_ret2
     exact ⟨kK,aq HB⟩
 ·replace c5:=Bool.eq_false_iff.mpr c5
  subst c5
  have H1:(some ((⟨#[]⟩:ByteArray),false))=some (r1,r2):=by rw [if_neg (show¬(false=true) by decide)] at H;exact H
  clear H
  have H:=H1
  clear H1
  simp only [Option.some.injEq,Prod.mk.injEq] at H
  obtain ⟨rfl,rfl⟩:=H
  go_enter Tryz.func121,Tryz.ntmps121
  go_wp2_with (first|(go_at_call 137;(with_reducible refine (gC.calls k _ _ l0 a1 a2 false _ ?side1 ?side2 A4.out).mono ?_);(case side1=>exact cd fZ.out);(case side2=>exact ki.out);rintro e w' ⟨rfl,⟨nd,rfl⟩⟩;(try first|exact ⟨rfl,_,World.drewN_drewN _ _ _⟩|exact ⟨rfl,_,Eq.trans (World.drewN_drewN _ _ _) (congrArg (World.drewN _) (Nat.add_assoc _ _ _))⟩)))
  repeat (go_quiet (first|(go_at_call 137;(with_reducible refine (gC.calls k _ _ l0 a1 a2 false _ ?side1 ?side2 A4.out).mono ?_);(case side1=>exact cd fZ.out);(case side2=>exact ki.out);rintro e w' ⟨rfl,⟨nd,rfl⟩⟩;(try first|exact ⟨rfl,_,World.drewN_drewN _ _ _⟩|exact ⟨rfl,_,Eq.trans (World.drewN_drewN _ _ _) (congrArg (World.drewN _) (Nat.add_assoc _ _ _))⟩)));try go_wp2_with (first|(go_at_call 137;(with_reducible refine (gC.calls k _ _ l0 a1 a2 false _ ?side1 ?side2 A4.out).mono ?_);(case side1=>exact cd fZ.out);(case side2=>exact ki.out);rintro e w' ⟨rfl,⟨nd,rfl⟩⟩;(try first|exact ⟨rfl,_,World.drewN_drewN _ _ _⟩|exact ⟨rfl,_,Eq.trans (World.drewN_drewN _ _ _) (congrArg (World.drewN _) (Nat.add_assoc _ _ _))⟩))))
  go_ret2
  exact ⟨kK,aq HB⟩
def jb.f (k:Nat) (a0:Int) (a1:Int):Option (ByteArray):=if 0≤a1 then (if (a1:Int).toNat≤281474976710656 then ((dB.f k (([a0,a0,a0]:List Int)) a0 (strOfNums (List.replicate (a1:Int).toNat 0))).bind fun zH=>(some zH.1)) else (none)) else (none)
theorem jb.calls (k:Nat) (a0:Int) (a1:Int) (r:ByteArray) (w:World) (h:jb.f k a0 a1=some r):
  Calls Tryz.prog 111 #[.int .i64 a0,.int .i64 a1] w fun e w'=>e= .returned (.string r)∧Below w.heap.size w w':=by
 have HB:=ak (Below.refl w.heap.size w)
 have H:(if 0≤a1 then (if (a1:Int).toNat≤281474976710656 then ((dB.f k (([a0,a0,a0]:List Int)) a0 (strOfNums (List.replicate (a1:Int).toNat 0))).bind fun zH=>(some zH.1)) else (none)) else (none))=some r:=h
 clear h
 obtain ⟨Vd,ez⟩:∃y_:List Int,y_=(([a0,a0,a0]:List Int)):=⟨_,rfl⟩
 replace H:(if 0≤a1 then (if (a1:Int).toNat≤281474976710656 then ((dB.f k Vd a0 (strOfNums (List.replicate (a1:Int).toNat 0))).bind fun zH=>(some zH.1)) else (none)) else (none))=some r:=yH
 have UI:=ak ez;clear ez;replace H:=dy H;obtain ⟨c3,H⟩:=H;have jX:=eq_true c3
 have xx:decide (0≤a1)=true:=decide_eq_true c3
 clear c3;replace H:=dy H;obtain ⟨c4,H⟩:=H;have jn:=eq_true c4
 have ab0:decide ((a1:Int).toNat≤281474976710656)=true:=decide_eq_true c4
 clear c4
 obtain ⟨Z4,ez⟩:∃y_:List Int,y_=(List.replicate (a1:Int).toNat 0):=⟨_,rfl⟩
 replace H:((dB.f k Vd a0 (strOfNums Z4)).bind fun zH=>(some zH.1))=some r:=yH
 have UH:=ak ez;clear ez;replace H:=bS H;obtain ⟨⟨t150,t151⟩,A5,H⟩:=H
 dsimp only at H
 obtain rfl:=Option.some.inj H
 go_enter Tryz.func111,Tryz.ntmps111
 go_wp2_with (first|((with_reducible refine av (N:=11) rfl ?_);refine Kd.gD (Kd.int .i64) _ 3 ?hg (N:=11) ?hd (xs:=([a0,a0,a0]:List Int)) (inner:=[.int .i64 a0,.int .i64 a0,.int .i64 a0]) (ok:=fun _=>True) (okp:=fun _=>True) ?hr ?hp (fun _ hk=>hk) trivial (Below.refl _ _) (Nat.le_refl _) (by simp) ?_;(case hd=>rfl);(case hg=>rfl);(case hr=>exact rZ);(case hp=>exact (bT.one (show Kd.M (Kd.int .i64) _ _ _ a0 [.int .i64 a0] from rfl) (bT.one (show Kd.M (Kd.int .i64) _ _ _ a0 [.int .i64 a0] from rfl) (bT.one (show Kd.M (Kd.int .i64) _ _ _ a0 [.int .i64 a0] from rfl) (bT.none _ _)))));intro v145 w6 ho7 hb bK dP;clear bK dP;(first|rw [←UI.out] at ho7|(simp only [Int.reduceToNat] at ho7;rw [←UI.out] at ho7));have zY:=ak (Kd.dz ho7 (aX (aq HB)));replace HB:=ak (aH (aq HB) hb);clear hb ho7)|((with_reducible refine av (N:=14) rfl ?_);refine Kd.Pq (Kd.int .u8) _ 5 rfl (N:=14) rfl 56 _ _ rfl a1 rfl rfl Tryz.underlying56 (.int .u8 0) 1 sG rfl (by decide) (by omega) 0 (ok:=fun _=>True) (okp:=fun _=>True) rfl (fun _ hk=>hk) trivial (da) (Nat.le_trans (Nat.mul_le_mul_right _ (da:a1.toNat≤281474976710656)) (by omega)) (Below.refl _ _) (Nat.le_refl _) ?_;intro v148 w8 ho9 hb bK dP;clear bK dP;(first|rw [←UH.out] at ho9|(simp only [Int.reduceToNat] at ho9;rw [←UH.out] at ho9));replace zY:=ak (Kd.fF (dH zY) hb);have P4:=ak (Kd.dz ho9 (aX (aq HB)));replace HB:=ak (aH (aq HB) hb);clear hb ho9;have aiq:=jc (P:=Tryz.prog) Tryz.underlying56 Tryz.underlying5 Tryz.underlying9 (Kd.iV P4.out);obtain ⟨L4,LA,Ox⟩:=Kd.de zY.out;subst Ox)|(go_at_call 121;(with_reducible refine (dB.calls k _ _ Vd a0 (strOfNums Z4) t150 t151 _ ?side1 ?side2 A5.out).mono ?_);(case side1=>exact cd (Kd.aJ zY.out).2.2);(case side2=>exact (Kd.aJ zY.out).2.1);rintro e w12 ⟨rfl,hb⟩;replace zY:=ak (Kd.fF (dH zY) hb);replace P4:=ak (Kd.fF (dH P4) hb);replace HB:=ak (aH (aq HB) hb);(try clear hb)))
 go_ret
 exact ⟨kK,aq HB⟩
def eo.l0:Nat→ByteArray→Int→Int→Option (Int)
  |0,_,_,_=>none
  |k+1,x0,x3,x4=>if x4<(x0.size:Int) then (if 0≤x4 then (eo.l0 k x0 (wrap64 (x3+(wrap64 ((wrap64 (bt x0 x4))*(wrap64 (x4+1)))))) (wrap64 (x4+1))) else (none)) else (some (Int.tmod x3 251))
def eo.f (k:Nat) (a0:ByteArray):Option (Int):=eo.l0 k a0 0 0
theorem eo.calls (k:Nat) (a0:ByteArray) (r:Int) (w:World) (h:eo.f k a0=some r):
  Calls Tryz.prog 112 #[.string a0] w fun e w'=>e= .returned (.int .i64 r)∧cQ w w':=by
 have H:(eo.l0 k a0 0 0)=some r:=h
 clear h
 have H':=ak H
 clear H
 go_enter Tryz.func112,Tryz.ntmps112
 go_wp2
 go_loopg [3,4] k (fun kq v3 v4 w'=>∃(ja:Int) (gJ:Int),v3= .int .i64 ja∧v4= .int .i64 gJ∧Aside0 (eo.l0 kq a0 ja gJ=some r)∧Aside0 (kq≤k)∧cQ w w')
 case atStart=>exact ⟨(0),(0),er,er,H',⟨Nat.le_refl _⟩,gV⟩
 case round=>
  clear H'
  obtain ⟨ja,gJ,rfl,rfl,HA,gf,⟨m1,rfl⟩⟩:=hrel
  cases gk with
  |zero=>exact absurd HA.out (by simp [eo.l0])
  |succ k1=>
   have H:=HA.out;clear HA
   simp only [eo.l0] at H
   by_cases c2:gJ<(a0.size:Int)
   ·rw [if_pos c2] at H
    have o5:=decide_eq_true c2
    clear c2;replace H:=dy H;obtain ⟨c3,H⟩:=H;have jX:=decide_eq_true c3;clear c3
    have H':=ak H
    clear H
    have p4:0≤(gJ:Int):=da
    have q4:gJ<(a0.size:Int):=da
    have hx4:=jJ a0 gJ
    replace p4:=eq_true p4;replace q4:=eq_true q4;go_wp2
    go_roundg k1
    case measure=>have:=gf.out;omega
    case rel=>exact ⟨(wrap64 (ja+(wrap64 ((wrap64 (bt a0 gJ))*(wrap64 (gJ+1)))))),(wrap64 (gJ+1)),er,er,H',⟨by have:=gf.out;omega⟩,gV⟩
   ·rw [if_neg c2] at H
    have o5:=decide_eq_false c2
    clear c2
    obtain rfl:=Option.some.inj H
    go_wp2
    go_ret
    exact ⟨er,gV⟩
def di.l0:Nat→ByteArray→Int→Option (ByteArray×Bool)
  |0,_,_=>none
  |k+1,x0,x4=>if x4>0 then (if 0≤x4 then (if x4<(x0.size:Int) then (if (bt x0 x4)=0 then (di.l0 k x0 (wrap64 (x4-1))) else (if (bt x0 x4)=128 then (if x4≤(x0.size:Int) then (some (x0.extract 0 (x4:Int).toNat,true)) else (none)) else (some ((⟨#[]⟩:ByteArray),false)))) else (none)) else (none)) else (if 0≤x4 then (if x4<(x0.size:Int) then (if (bt x0 x4)=128 then (if x4≤(x0.size:Int) then (some (x0.extract 0 (x4:Int).toNat,true)) else (none)) else (some ((⟨#[]⟩:ByteArray),false))) else (none)) else (none))
def di.f (k:Nat) (a0:ByteArray):Option (ByteArray×Bool):=if (a0.size:Int)=16 then (di.l0 k a0 (wrap64 ((a0.size:Int)-1))) else (some ((⟨#[]⟩:ByteArray),false))
theorem di.calls (k:Nat) (a0:ByteArray) (r1:ByteArray) (r2:Bool) (w:World) (h:di.f k a0=some (r1,r2)):
  Calls Tryz.prog 113 #[.string a0] w fun e w'=>e= .returned (.tuple #[.string r1,.bool r2])∧cQ w w':=by
 have H:(if (a0.size:Int)=16 then (di.l0 k a0 (wrap64 ((a0.size:Int)-1))) else (some ((⟨#[]⟩:ByteArray),false)))=some (r1,r2):=h
 clear h
 by_cases c2:(a0.size:Int)=16
 ·rw [if_pos c2] at H
  have o5:=lO c2
  have Fj:=mR c2
  clear c2
  have H':=ak H
  clear H
  go_enter Tryz.func113,Tryz.ntmps113
  go_wp2
  go_loopg [4] k (fun kq v4 w'=>∃(gJ:Int),v4= .int .i64 gJ∧Aside0 (di.l0 kq a0 gJ=some (r1,r2))∧Aside0 (kq≤k)∧cQ w w')
  case atStart=>exact ⟨(wrap64 ((a0.size:Int)-1)),er,H',⟨Nat.le_refl _⟩,gV⟩
  case round=>
   clear H'
   (try clear o5);(try clear Fj)
   obtain ⟨gJ,rfl,HA,gf,⟨m1,rfl⟩⟩:=hrel
   cases gk with
   |zero=>exact absurd HA.out (by simp [di.l0])
   |succ k1=>
    have H:=HA.out;clear HA
    simp only [di.l0] at H
    by_cases c3:gJ>0
    ·rw [if_pos c3] at H
     have jX:=Ma c3
     clear c3;replace H:=dy H;obtain ⟨c4,H⟩:=H;have jn:=decide_eq_true c4;clear c4;replace H:=dy H;obtain ⟨c5,H⟩:=H;have mh:=decide_eq_true c5;clear c5
     by_cases c7:(bt a0 gJ)=0
     ·rw [if_pos c7] at H
      have tw:=lO c7
      have Sz:=mR c7
      clear c7
      have H':=ak H
      clear H
      have p6:0≤(gJ:Int):=da
      have q6:gJ<(a0.size:Int):=da
      have hx6:=jJ a0 gJ
      replace p6:=eq_true p6;replace q6:=eq_true q6;go_wp2
      go_roundg k1
      case measure=>have:=gf.out;omega
      case rel=>exact ⟨(wrap64 (gJ-1)),er,H',⟨by have:=gf.out;omega⟩,gV⟩
     ·rw [if_neg c7] at H
      have tw:=lq c7
      have Sz:=mj c7
      by_cases c9:(bt a0 gJ)=128
      ·rw [if_pos c9] at H
       have mg:=lO c9
       have HY:=mR c9
       clear c9
       have kY:=eq_true (da:0≤gJ)
       replace H:=dy H;obtain ⟨mY,H⟩:=H;have nM:=eq_true mY
       have JM:decide (gJ≤(a0.size:Int))=true:=decide_eq_true mY
       clear mY
       simp only [Option.some.injEq,Prod.mk.injEq] at H
       obtain ⟨rfl,rfl⟩:=H
       have p6:0≤(gJ:Int):=da
       have q6:gJ<(a0.size:Int):=da
       have hx6:=jJ a0 gJ
       replace p6:=eq_true p6;replace q6:=eq_true q6
       have p8:0≤(gJ:Int):=da
       have q8:gJ<(a0.size:Int):=da
       have hx8:=jJ a0 gJ
       replace p8:=eq_true p8;replace q8:=eq_true q8;go_wp2
       go_ret2
       exact ⟨er,gV⟩
      ·rw [if_neg c9] at H
       have mg:=lq c9
       have HY:=mj c9
       simp only [Option.some.injEq,Prod.mk.injEq] at H
       obtain ⟨rfl,rfl⟩:=H
       have p6:0≤(gJ:Int):=da
       have q6:gJ<(a0.size:Int):=da
       have hx6:=jJ a0 gJ
       replace p6:=eq_true p6;replace q6:=eq_true q6
       have p8:0≤(gJ:Int):=da
       have q8:gJ<(a0.size:Int):=da
       have hx8:=jJ a0 gJ
       replace p8:=eq_true p8;replace q8:=eq_true q8;go_wp2
       go_ret2
       exact ⟨er,gV⟩
    ·rw [if_neg c3] at H
     have jX:=Mb c3
     clear c3;replace H:=dy H;obtain ⟨nW,H⟩:=H;have sN:=decide_eq_true nW;clear nW;replace H:=dy H;obtain ⟨oA,H⟩:=H;have BL:=decide_eq_true oA;clear oA
     by_cases wP:(bt a0 gJ)=128
     ·rw [if_pos wP] at H
      have zx:=lO wP
      have Fl:=mR wP
      clear wP
      have zw:=eq_true (da:0≤gJ)
      replace H:=dy H;obtain ⟨Qs,H⟩:=H;have JK:=eq_true Qs
      have acm:decide (gJ≤(a0.size:Int))=true:=decide_eq_true Qs
      clear Qs
      simp only [Option.some.injEq,Prod.mk.injEq] at H
      obtain ⟨rfl,rfl⟩:=H
      have KS:0≤(gJ:Int):=da
      have KQ:gJ<(a0.size:Int):=da
      have af3:=jJ a0 gJ
      replace KS:=eq_true KS;replace KQ:=eq_true KQ;go_wp2
      go_ret2
      exact ⟨er,gV⟩
     ·rw [if_neg wP] at H
      have zx:=lq wP
      have Fl:=mj wP
      simp only [Option.some.injEq,Prod.mk.injEq] at H
      obtain ⟨rfl,rfl⟩:=H
      have KS:0≤(gJ:Int):=da
      have KQ:gJ<(a0.size:Int):=da
      have af3:=jJ a0 gJ
      replace KS:=eq_true KS;replace KQ:=eq_true KQ;go_wp2
      go_ret2
      exact ⟨er,gV⟩
 ·rw [if_neg c2] at H
  have o5:=lq c2
  have Fj:=mj c2
  simp only [Option.some.injEq,Prod.mk.injEq] at H
  obtain ⟨rfl,rfl⟩:=H
  go_enter Tryz.func113,Tryz.ntmps113
  go_wp2
  go_ret2
  exact ⟨er,gV⟩
def dX.T4:Bool×List (List Nat×List Nat):=(true,[([],[]),([0],[0]),([1],[1]),([2],[2]),([3],[3]),([4,3],[4]),([5],[5]),([6,5],[5,6]),([7,5],[5,7]),([5],[5]),([9,5],[5,9]),([10,5,5],[5,10]),([8,11,5],[5,8,11]),([5,12],[5,12])])
def dX.B4:List Nat:=[0,1,3,7,15,31,63,127,255,63,575,1599,4095,8191]
theorem dX.Ci:gz .any (opsOf Tryz.f88 4)=dX.T4:=by kernel_rfl
theorem dX.uL:dZ dX.T4.2 dX.B4=true:=by kernel_rfl
def dX.f (k:Nat) (a0:Int) (a1:ByteArray):Option (Int×ByteArray×ByteArray×Bool):=(gj.f a0).bind fun c0=>if c0=true∧a1.size=24 then (jb.f k a0 24).bind fun p=>(iB.f k a1 p).bind fun t=>if t.size=24 then (bE.f (wrap64 (bt t 0)) 1 250).bind fun c=>if c=true then (eo.f k (t.extract 2 18)).bind fun d=>if wrap64 (bt t 1)=d then (di.f k ((t.extract 2 t.size++(⟨#[0,0]⟩:ByteArray)).extract 0 16)).bind fun b=>some (wrap64 (bt t 0),t.extract 2 t.size++(⟨#[0,0]⟩:ByteArray),b.1,true) else some (0,⟨#[]⟩,⟨#[]⟩,false) else some (0,⟨#[]⟩,⟨#[]⟩,false) else none else none
theorem dX.calls (k:Nat) (a0:Int) (a1:ByteArray) (r1:Int) (r2:ByteArray) (r3:ByteArray) (r4:Bool) (w:World) (h:dX.f k a0 a1=some (r1,r2,r3,r4)):
  Calls Tryz.prog 88 #[.int .i64 a0,.string a1] w fun e w'=>e= .returned (.tuple #[.agg #[.int .i64 r1,.string r2,.string r3],.bool r4])∧Below w.heap.size w w':=by
 have huP:=Tryz.underlying105
 have HS:=Sep.nil w
 unfold dX.f at h
 replace h:=bS h;obtain ⟨c0,T0,h⟩:=h
 replace h:=dy h;obtain ⟨⟨rfl,hz⟩,h⟩:=h
 replace h:=bS h;obtain ⟨p,T1,h⟩:=h
 replace h:=bS h;obtain ⟨t,T2,h⟩:=h
 replace h:=dy h;obtain ⟨ht,h⟩:=h
 replace h:=bS h;obtain ⟨c,T3,h⟩:=h
 have Bv:((a1.size:Int) !=24)=false:=by rw [hz];rfl
 have q0:(0<t.size)=True:=eq_true (by omega)
 have q1:(1<t.size)=True:=eq_true (by omega)
 have qi0:(0<(t.size:Int))=True:=eq_true (by omega)
 have qi1:(1<(t.size:Int))=True:=eq_true (by omega)
 have x0:∀h:0<t.size,((t[0]'h).toNat:Int)=bt t 0:=jJ t 0
 have x1:∀h:1<t.size,((t[1]'h).toNat:Int)=bt t 1:=jJ t 1
 have hl1:decide ((18:Int)≤(t.size:Int))=true:=decide_eq_true (by omega)
 have hl2:decide ((2:Int)≤(t.size:Int))=true:=decide_eq_true (by omega)
 have D4:(t.extract 2 t.size).size=22:=by rw [ByteArray.size_extract,ht];rfl
 have hl3:decide ((t.extract 2 t.size).size+2≤9223372036854775807)=true:=decide_eq_true (by omega)
 have hl4:(9223372036854775807<(t.extract 2 t.size).size+2)=False:=eq_false (by omega)
 have R1:decide ((16:Int)≤((t.extract 2 t.size++(⟨#[0,0]⟩:ByteArray)).size:Int))=true:=decide_eq_true (by rw [ByteArray.size_append,D4];decide)
 have hl6:(2≤(t.size:Int))=True:=eq_true (by omega)
 have hl7:(18≤(t.size:Int))=True:=eq_true (by omega)
 have hl8:(16≤((t.extract 2 t.size++(⟨#[0,0]⟩:ByteArray)).size:Int))=True:=eq_true (by rw [ByteArray.size_append,D4];decide)
 have hl9:(9223372036854775807<t.size-2+2)=False:=eq_false (by omega)
 clear ht hz D4 hl3 hl4
 go_enter Tryz.func88,Tryz.ntmps88
 go_upto_region 4 with (first|((with_reducible refine av (N:=4) rfl ?_);refine bN 4 #[.int .i64 0,.string (⟨#[]⟩:ByteArray),.string (⟨#[]⟩:ByteArray)] 105 ?_;intro b4 bK W_ bD aW;replace HS:=HS.box bK bD aW;clear bK bD aW;have eR:=ck (HS.aI 0))|(go_at_call 109;refine (gj.calls a0 true _ T0.out).mono ?_;rintro e W_ ⟨rfl,iC,rfl⟩;replace HS:=HS.drewN iC;generalize World.drewN _ iC=W_ at HS⊢;clear eR;have eR:=ck (HS.aI 0))|(go_at_call 111;refine (jb.calls k a0 24 p _ T1.out).mono ?_;rintro e W_ ⟨rfl,aW⟩;replace HS:=HS.below aW;clear aW;clear eR;have eR:=ck (HS.aI 0))|(go_at_call 110;refine (iB.calls k a1 p t _ T2.out).mono ?_;rintro e W_ ⟨rfl,aW⟩;replace HS:=HS.below aW;clear aW;clear eR;have eR:=ck (HS.aI 0)))
 clear eR
 refine dV (n:=14) (S:=fun w'=>True) (ds:=[]) (bl 14 0) (by kernel_rfl) rfl rfl trivial (fun ah=> ?_);refine bZ dX.Ci dX.uL (fun aA ef=> ?_)
 replace HS:=HS.drew
 generalize World.drew _=tD at HS⊢
 refine ag 0 (some 23) 14 1 aA ?_
 refine ag 1 (some 24) 14 3 aA ?_
 refine ag 2 (some 25) 14 7 aA ?_
 refine fJ 3 (some 26) 14 15 aA (fun K hK=> ?_)
 refine fM Tryz.func79 (by kernel_rfl) rfl #[.int .i64 (wrap64 (bt t 0)),.int .i64 1,.int .i64 250] (by rfl) rfl rfl (by (try simp only [List.map_toArray,List.map_cons,List.map_nil]);first|done|rfl) ?_
 refine (bE.calls (wrap64 (bt t 0)) 1 250 c _ T3.out).mono ?_
 clear ah
 rintro e W_ ⟨rfl,iC,rfl⟩
 refine ⟨_,rfl,?_⟩
 replace HS:=HS.drewN iC
 generalize World.drewN _ iC=W_ at HS⊢
 refine hK.out _ _ trivial (fun ah=> ?_)
 clear hK K
 refine cM (a':= ?_) ?_ ?_
 rotate_left
 ·show Act.put _ (some 26) _=_
  simp only [Act.put,List.setIfInBounds_toArray,List.set_cons_zero,List.set_cons_succ,bW,cA]
  rfl
 refine ag 4 (some 27) 14 31 aA ?_
 refine ag 5 (some 28) 14 63 aA ?_
 cases c with
 |false=>
  rw [if_neg (by decide)] at h
  simp only [Bool.not_false]
  refine cL 6 (some 29) 14 127 aA ?_
  refine cL 7 (some 30) 14 255 aA ?_
  refine cL 8 (some 31) 14 511 aA ?_
  refine cL 9 (some 32) 14 1023 aA ?_
  refine cL 10 (some 33) 14 2047 aA ?_
  refine cL 11 (some 34) 14 4095 aA ?_
  refine cL 12 (some 35) 14 8191 aA ?_
  refine ag 13 (some 36) 14 16383 aA ?_
  refine eZ (cV aA.out (by kernel_rfl)) ?_
  clear aA ef ah
  have eR:=ck (HS.aI 0)
  simp only [Option.some.injEq,Prod.mk.injEq] at h
  obtain ⟨rfl,rfl,rfl,rfl⟩:=h
  go_wp2
  have HF:=(((HS.cq 0 0 (.int .i64 0) #[.int .i64 0,.string (⟨#[]⟩:ByteArray),.string (⟨#[]⟩:ByteArray)]).cq 0 1 (.string (⟨#[]⟩:ByteArray)) #[.int .i64 0,.string (⟨#[]⟩:ByteArray),.string (⟨#[]⟩:ByteArray)]).cq 0 2 (.string (⟨#[]⟩:ByteArray)) #[.int .i64 0,.string (⟨#[]⟩:ByteArray),.string (⟨#[]⟩:ByteArray)])
  refine bodyPost_ret (cK rfl _ _ b4 105 #[.int .i64 0,.string (⟨#[]⟩:ByteArray),.string (⟨#[]⟩:ByteArray)] (0,0) _ rfl (by exact (HF.aI 0).out) Tryz.underlying105 rfl (by kernel_rfl)) rfl ?_
  exact ⟨rfl,HF.base⟩
 |true=>
  rw [if_pos rfl] at h
  simp only [Bool.not_true]
  replace h:=bS h;obtain ⟨d,T4,h⟩:=h
  refine ag 6 (some 29) 14 127 aA ?_
  refine ag 7 (some 30) 14 255 aA ?_
  refine ag 8 (some 31) 14 511 aA ?_
  refine ag 9 (some 32) 14 1023 aA ?_
  refine ag 10 (some 33) 14 2047 aA ?_
  refine fJ 11 (some 34) 14 4095 aA (fun K hK=> ?_)
  refine fM Tryz.func112 (by kernel_rfl) rfl #[.string (t.extract 2 18)] (by rfl) rfl rfl (by (try simp only [List.map_toArray,List.map_cons,List.map_nil]);first|done|rfl) ?_
  refine (eo.calls k (t.extract 2 18) d _ T4.out).mono ?_
  clear ah
  rintro e W_ ⟨rfl,iC,rfl⟩
  refine ⟨_,rfl,?_⟩
  replace HS:=HS.drewN iC
  generalize World.drewN _ iC=W_ at HS⊢
  refine hK.out _ _ trivial (fun ah=> ?_)
  clear hK K
  refine cM (a':= ?_) ?_ ?_
  rotate_left
  ·show Act.put _ (some 34) _=_
   simp only [Act.put,List.setIfInBounds_toArray,List.set_cons_zero,List.set_cons_succ,bW,cA]
   rfl
  refine ag 12 (some 35) 14 8191 aA ?_
  refine ag 13 (some 36) 14 16383 aA ?_
  refine eZ (cV aA.out (by kernel_rfl)) ?_
  clear aA ef ah
  by_cases hc:wrap64 (bt t 1)=d
  ·rw [if_pos hc] at h
   have Xj:(wrap64 (bt t 1) !=d)=false:=by rw [hc];exact bne_self_eq_false d
   simp only [Xj]
   replace h:=bS h;obtain ⟨⟨b,b'⟩,T5,h⟩:=h
   have eR:=ck (HS.aI 0)
   go_upto_region 7 with fail
   generalize hu:t.extract 2 t.size++(⟨#[0,0]⟩:ByteArray)=u at h T5 R1 hl8⊢
   simp only [Option.some.injEq,Prod.mk.injEq] at h
   obtain ⟨rfl,rfl,rfl,rfl⟩:=h
   clear hc hu
   go_wp2_with (first|(go_at_call 113;refine (di.calls k _ b b' _ T5.out).mono ?_;rintro e W_ ⟨rfl,iC,rfl⟩;replace HS:=HS.drewN iC;generalize World.drewN _ iC=W_ at HS⊢;clear eR;have eR:=ck (HS.aI 0)))
   have HF:=(((HS.cq 0 0 (.int .i64 (wrap64 (bt t 0))) #[.int .i64 (wrap64 (bt t 0)),.string (⟨#[]⟩:ByteArray),.string (⟨#[]⟩:ByteArray)]).cq 0 1 (.string u) #[.int .i64 (wrap64 (bt t 0)),.string u,.string (⟨#[]⟩:ByteArray)]).cq 0 2 (.string b) #[.int .i64 (wrap64 (bt t 0)),.string u,.string b])
   refine bodyPost_ret (cK rfl _ _ b4 105 #[.int .i64 (wrap64 (bt t 0)),.string u,.string b] (0,0) _ rfl (by exact (HF.aI 0).out) Tryz.underlying105 rfl (by kernel_rfl)) rfl ?_
   exact ⟨rfl,HF.base⟩
  ·rw [if_neg hc] at h
   have Xj:(wrap64 (bt t 1) !=d)=true:=bne_iff_ne.mpr hc
   simp only [Xj]
   clear hc
   have eR:=ck (HS.aI 0)
   simp only [Option.some.injEq,Prod.mk.injEq] at h
   obtain ⟨rfl,rfl,rfl,rfl⟩:=h
   go_wp2
   have HF:=(((HS.cq 0 0 (.int .i64 0) #[.int .i64 0,.string (⟨#[]⟩:ByteArray),.string (⟨#[]⟩:ByteArray)]).cq 0 1 (.string (⟨#[]⟩:ByteArray)) #[.int .i64 0,.string (⟨#[]⟩:ByteArray),.string (⟨#[]⟩:ByteArray)]).cq 0 2 (.string (⟨#[]⟩:ByteArray)) #[.int .i64 0,.string (⟨#[]⟩:ByteArray),.string (⟨#[]⟩:ByteArray)])
   refine bodyPost_ret (cK rfl _ _ b4 105 #[.int .i64 0,.string (⟨#[]⟩:ByteArray),.string (⟨#[]⟩:ByteArray)] (0,0) _ rfl (by exact (HF.aI 0).out) Tryz.underlying105 rfl (by kernel_rfl)) rfl ?_
   exact ⟨rfl,HF.base⟩
end Go.Proofs.YtihekdlcfohkkaaGreatDoor.QFnNets
