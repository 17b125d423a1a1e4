-- printed by this session's own program (wip/tools/pp.py: the kit's print.py with changes); Lean checks it
import Derived.Test.YtihekdlcfohkkaaGreatDoorQFnNetsx0
import Derived.Test.YtihekdlcfohkkaaGreatDoorQFnNetsx2
import Derived.Test.YtihekdlcfohkkaaGreatDoorQFnNetsx3
import Derived.Test.YtihekdlcfohkkaaGreatDoorQFnNetsx5
import Derived.Test.YtihekdlcfohkkaaGreatDoorQFnNetsx6
import Derived.Test.YtihekdlcfohkkaaGreatDoorQFnNetsx7
namespace Go.Proofs.YtihekdlcfohkkaaGreatDoor.QFnNets
open Go.RowKit Go.Proofs.YtihekdlcfohkkaaGreatDoorW.PrintWords Go.Proofs.YtihekdlcfohkkaaGreatDoorW.PrintLast Go.Proofs.YtihekdlcfohkkaaGreatDoorW.PrintMore
attribute [local go_sem] max2_int min2_int max_two min_two max_three min_three max_four min_four strLss strGtr strLeq strGeq
set_option linter.unusedVariables false
set_option linter.unusedSimpArgs false
set_option maxHeartbeats 16000000
set_option maxRecDepth 100000
def dN.l0:Nat→List Int→List Int→ByteArray→Int→Option (ByteArray)
  |0,_,_,_,_=>none
  |k+1,x0,x1,x7,x8=>if x8≥0 then (if 0≤x8 then (if x8<(x1.length:Int) then (if 0≤16 then (if 16≤(x7.size:Int) then ((fo.f k (x7.extract 0 16)).bind fun Ej=>((some (([(rd x1 x8)%256,(Ej)%256]:List Int):List Int)).bind fun D7=>(if 0≤22 then (if 22≤(x7.size:Int) then (if (strOfNums D7).size+(x7.extract 0 22).size≤9223372036854775807 then (if x8<(x0.length:Int) then ((lf.f k (rd x0 x8) 24).bind fun Kv=>((kG.f k ((strOfNums D7)++(x7.extract 0 22)) Kv).bind fun Ku=>(dN.l0 k x0 x1 Ku (wrap64 (x8-1))))) else (none)) else (none)) else (none)) else (none)))) else (none)) else (none)) else (none)) else (none)) else (some x7)
def dN.f (k:Nat) (l0:List Int) (l1:List Int) (a2:ByteArray):Option (ByteArray):=(lJ.f k a2).bind fun AA=>((strings_Repeat.f k (⟨#[0]⟩:ByteArray) 8).bind fun Az=>(if AA.size+Az.size≤9223372036854775807 then (dN.l0 k l0 l1 (AA++Az) (wrap64 ((l0.length:Int)-1))) else (none)))
def dN.T5:Bool×List (List Nat×List Nat):=(true,[([],[]),([],[]),([0,1],[0,1]),([2],[2]),([3],[3]),([],[]),([5],[5]),([6],[6]),([7],[7]),([4,8],[4,8]),([9],[9]),([],[]),([11],[11]),([10,12],[10,12]),([13,7,0,1,2,3,4,5,6,7,8,9,10,11,12,13],[5,11,13])])
def dN.B5:List Nat:=[0,0,3,7,15,0,32,96,224,511,1023,0,2048,8191,16383]
theorem dN.At:gz .any (opsOf Tryz.f118 5)=dN.T5:=by kernel_rfl
theorem dN.sO:dZ dN.T5.2 dN.B5=true:=by kernel_rfl
theorem dN.calls (k:Nat) (A0:Option Addr) (c0:Nat) (l0:List Int) (A1:Option Addr) (c1:Nat) (l1:List Int) (a2:ByteArray) (r:ByteArray) (w:World) (ff:Kd.C (Kd.int .i64) w A0 l0.length l0) (fL:l0.length≤c0) (sH:Kd.C (Kd.int .i64) w A1 l1.length l1) (qA:l1.length≤c1) (h:dN.f k l0 l1 a2=some r):
  Calls Tryz.prog 118 #[.slice A0 l0.length c0,.slice A1 l1.length c1,.string a2] w fun e w'=>e= .returned (.string r)∧Below w.heap.size w w':=by
 have fZ:=ak ff;have ki:=ak fL;clear ff fL;have yc:=ak sH;have LS:=ak qA;clear sH qA
 have HB:=ak (Below.refl w.heap.size w)
 have H:((lJ.f k a2).bind fun AA=>((strings_Repeat.f k (⟨#[0]⟩:ByteArray) 8).bind fun Az=>(if AA.size+Az.size≤9223372036854775807 then (dN.l0 k l0 l1 (AA++Az) (wrap64 ((l0.length:Int)-1))) else (none))))=some r:=h
 clear h;replace H:=bS H;obtain ⟨AA,A4,H⟩:=H
 replace H:=bS H;obtain ⟨Az,A5,H⟩:=H
 replace H:=dy H;obtain ⟨c6,H⟩:=H;have kO:=eq_true c6
 have vS:decide (AA.size+Az.size≤9223372036854775807)=true:=decide_eq_true c6
 try have abV:(9223372036854775807<AA.size+Az.size)=False:=eq_false (Nat.not_lt.2 c6)
 have H':=ak H
 clear H
 go_enter Tryz.func118,Tryz.ntmps118
 go_wp2_with (first|(go_at_call 131;(with_reducible refine (lJ.calls k a2 AA _ A4.out).mono ?_);rintro e w7 ⟨rfl,hb⟩;replace HB:=ak (aH (aq HB) hb);(try clear hb))|(go_at_call 132;(with_reducible refine (strings_Repeat.calls k (⟨#[0]⟩:ByteArray) 8 Az _ A5.out).mono ?_);rintro e w8 ⟨rfl,hb⟩;replace HB:=ak (aH (aq HB) hb);(try clear hb)))
 go_loopg [7,8] k (fun kq v7 v8 w'=>∃(dD:ByteArray) (cX:Int),v7= .string dD∧v8= .int .i64 cX∧Aside0 (dN.l0 kq l0 l1 dD cX=some r)∧Aside0 (kq≤k)∧Aside0 (Below w.heap.size w w'))
 case atStart=>exact ⟨(AA++Az),(wrap64 ((l0.length:Int)-1)),er,er,H',⟨Nat.le_refl _⟩,⟨aq HB⟩⟩
 case round=>
  clear H'
  (try clear c1);(try clear c6);(try clear kO);(try clear vS);(try clear abV)
  obtain ⟨dD,cX,rfl,rfl,HA,gf,HB⟩:=hrel
  cases gk with
  |zero=>exact absurd HA.out (by simp [dN.l0])
  |succ k1=>
   have H:=HA.out;clear HA
   simp only [dN.l0] at H
   by_cases c9:cX≥0
   ·rw [if_pos c9] at H
    have mg:=geT c9
    clear c9;replace H:=dy H;obtain ⟨gW,H⟩:=H;have kY:=decide_eq_true gW;clear gW;replace H:=dy H;obtain ⟨mY,H⟩:=H;have nM:=decide_eq_true mY;clear mY;replace H:=dy H;obtain ⟨nW,H⟩:=H;have sN:=eq_true nW
    have Uj:decide (0≤16)=true:=decide_eq_true nW
    clear nW;replace H:=dy H;obtain ⟨oA,H⟩:=H;have BL:=eq_true oA
    have aiF:decide (16≤(dD.size:Int))=true:=decide_eq_true oA
    clear oA;replace H:=bS H;obtain ⟨Ej,wS,H⟩:=H
    obtain ⟨D7,ez⟩:∃y_:List Int,y_=(([(rd l1 cX)%256,(Ej)%256]:List Int)):=⟨_,rfl⟩
    replace H:(if 0≤22 then (if 22≤(dD.size:Int) then (if (strOfNums D7).size+(dD.extract 0 22).size≤9223372036854775807 then (if cX<(l0.length:Int) then ((lf.f k1 (rd l0 cX) 24).bind fun Kv=>((kG.f k1 ((strOfNums D7)++(dD.extract 0 22)) Kv).bind fun Ku=>(dN.l0 k1 l0 l1 Ku (wrap64 (cX-1))))) else (none)) else (none)) else (none)) else (none))=some r:=yH
    have Uy:=ak ez;clear ez;replace H:=dy H;obtain ⟨wP,H⟩:=H;have zx:=eq_true wP
    have Fl:decide (0≤22)=true:=decide_eq_true wP
    clear wP;replace H:=dy H;obtain ⟨Ic,H⟩:=H;have zw:=eq_true Ic
    have Ui:decide (22≤(dD.size:Int))=true:=decide_eq_true Ic
    clear Ic;replace H:=dy H;obtain ⟨Qs,H⟩:=H;have JK:=eq_true Qs
    have acm:decide ((strOfNums D7).size+(dD.extract 0 22).size≤9223372036854775807)=true:=decide_eq_true Qs
    try have ack:(9223372036854775807<(strOfNums D7).size+(dD.extract 0 22).size)=False:=eq_false (Nat.not_lt.2 Qs)
    (try have acj:=JK;simp only [ByteArray.size_extract,Nat.sub_zero,Nat.min_self] at acj)
    (try have aci:=ack;simp only [ByteArray.size_extract,Nat.sub_zero,Nat.min_self] at aci)
    replace H:=dy H;obtain ⟨Fk,H⟩:=H;have Uh:=decide_eq_true Fk;clear Fk;replace H:=bS H;obtain ⟨Kv,A19,H⟩:=H
    replace H:=bS H;obtain ⟨Ku,A20,H⟩:=H
    have H':=ak H
    clear H
    try go_wp2
    replace HB:=ak (cO HB.out)
    have VX:0≤(cX:Int):=da
    have VJ:cX<(l1.length:Int):=da
    obtain ⟨acN,ahc,uk⟩:=Kd.jS yc.out cX VX VJ
    have om:=uk
    cases ahc
    replace uk:=(HB.out.cell (World.block_lt_of_cell? w _ uk)).trans uk
    replace VX:=eq_true VX;replace VJ:=eq_true VJ
    refine dV (n:=15) (S:=fun w'=>w'.cell? (acN.add (cX).toNat)=some (.int .i64 (rd l1 cX))) (ds:=[]) (bl 15 0) (by kernel_rfl) rfl rfl (((HB.out.cell (World.block_lt_of_cell? w _ om)).trans om)) (fun ah=> ?_);refine bZ dN.At dN.sO (fun aA ef=> ?_)
    generalize wr.drew=w21 at HB uk ah⊢
    refine ag 0 (some 20) 15 1 aA ?_
    refine ag 1 (some 21) 15 3 aA ?_
    refine ag 2 (some 22) 15 7 aA ?_
    refine ag 5 (some 25) 15 39 aA ?_
    refine ag 6 (some 26) 15 103 aA ?_
    refine ag 11 (some 31) 15 2151 aA ?_
    refine ag 12 (some 32) 15 6247 aA ?_
    refine cg 3 (some 23) 15 6255 aA ef ah ?_ (hy:=by intro w' s0;go_simp;with_reducible rfl)
    refine ag 4 (some 24) 15 6271 aA ?_
    refine fJ 7 (some 27) 15 6399 aA (fun K hK=> ?_)
    refine fM Tryz.func126 (by kernel_rfl) rfl #[.string (dD.extract 0 16)] (by rfl) rfl rfl (by (try simp only [List.map_toArray,List.map_cons,List.map_nil]);first|done|rfl|(simp only [List.length_drop,List.length_take];rfl)) ?_
    with_reducible refine (fo.calls k1 (dD.extract 0 16) Ej _ wS.out).mono ?_
    rintro e w' ⟨rfl,⟨nd,rfl⟩⟩
    refine ⟨_,rfl,?_⟩
    refine hK.out _ _ (((HB.out.cell (World.block_lt_of_cell? w _ om)).trans om)) (fun ah=> ?_)
    clear hK K
    refine cM (a':= ?_) ?_ ?_
    rotate_left
    ·show Act.put _ (some 27) _=_
     simp only [Act.put,List.setIfInBounds_toArray,List.set_cons_zero,List.set_cons_succ,bW,cA]
     rfl
    refine ag 8 (some 28) 15 6655 aA ?_
    refine fJ 9 (some 29) 15 7167 aA (fun K hK=> ?_)
    refine Kd.iJ (Kd.int .u8) _ 5 ?hg (N:=29) ?hd (xs:=([(rd l1 cX)%256,(Ej)%256]:List Int)) (inner:=[.int .u8 ((rd l1 cX)%256),.int .u8 ((Ej)%256)]) (ok:=fun _=>True) (okp:=fun _=>True) ?hr ?hp (fun _ hk=>hk) trivial (Below.refl _ _) (Nat.le_refl _) (by simp) ?_;(case hd=>rfl);(case hg=>rfl);(case hr=>exact rZ);(case hp=>exact (bT.one (show Kd.M (Kd.int .u8) _ _ _ ((rd l1 cX)%256) [.int .u8 ((rd l1 cX)%256)] from rfl) (bT.one (show Kd.M (Kd.int .u8) _ _ _ ((Ej)%256) [.int .u8 ((Ej)%256)] from rfl) (bT.none _ _))))
    intro ajl w22 N5 hb bK dP
    clear bK dP
    (first|rw [←Uy.out] at N5|(simp only [Int.reduceToNat] at N5;rw [←Uy.out] at N5))
    have FE:=ak (Kd.dz N5 (aX (aq HB)))
    replace HB:=ak (aH (aq HB) hb)
    clear hb N5
    refine hK.out _ _ (((HB.out.cell (World.block_lt_of_cell? w _ om)).trans om)) (fun ah=> ?_)
    clear hK K
    refine cM (a':= ?_) ?_ ?_
    rotate_left
    ·show Act.put _ (some 29) _=_
     simp only [Act.put,List.setIfInBounds_toArray,List.set_cons_zero,List.set_cons_succ,bW,cA]
     rfl
    refine fJ 10 (some 30) 15 8191 aA (fun K hK=> ?_)
    have aa6:=jc (P:=Tryz.prog) Tryz.underlying56 Tryz.underlying5 Tryz.underlying9 (Kd.iV FE.out)
    refine vr (w1:= ?_) (v:= ?_) (by rfl) rfl ?_ ?_
    rotate_left 2
    ·go_simp
     constructor
     ·rfl
     ·rfl
    clear aa6
    refine hK.out _ _ (((HB.out.cell (World.block_lt_of_cell? w _ om)).trans om)) (fun ah=> ?_)
    clear hK K
    refine cM (a':= ?_) ?_ ?_
    rotate_left
    ·show Act.put _ (some 30) _=_
     simp only [Act.put,List.setIfInBounds_toArray,List.set_cons_zero,List.set_cons_succ,bW,cA]
     rfl
    refine ag 13 (some 33) 15 16383 aA ?_
    refine ag 14 (some 7) 15 32767 aA ?_
    refine eZ (cV aA.out (by kernel_rfl)) ?_
    have VW:0≤(cX:Int):=da
    have VI:cX<(l0.length:Int):=da
    obtain ⟨aiK,ahb,CU⟩:=Kd.jS fZ.out cX VW VI
    cases ahb
    replace CU:=(HB.out.cell (World.block_lt_of_cell? w _ CU)).trans CU
    replace VW:=eq_true VW;replace VI:=eq_true VI
    try go_wp2_with (first|(go_at_call 124;(with_reducible refine (lf.calls k1 (rd l0 cX) 24 Kv _ A19.out).mono ?_);rintro e w25 ⟨rfl,hb⟩;replace FE:=ak (Kd.fF (dH FE) hb);replace HB:=ak (aH (aq HB) hb);(try clear hb))|(go_at_call 123;(with_reducible refine (kG.calls k1 ((strOfNums D7)++(dD.extract 0 22)) Kv Ku _ A20.out).mono ?_);rintro e w26 ⟨rfl,hb⟩;replace FE:=ak (Kd.fF (dH FE) hb);replace HB:=ak (aH (aq HB) hb);(try clear hb)))
    go_roundg k1
    case measure=>have:=gf.out;omega
    case rel=>exact ⟨(Ku),(wrap64 (cX-1)),er,er,H',⟨by have:=gf.out;omega⟩,⟨aq HB⟩⟩
   ·rw [if_neg c9] at H
    have mg:=geF c9
    clear c9
    obtain rfl:=Option.some.inj H
    go_wp2
    go_ret
    exact ⟨kK,aq HB⟩
def dR.T6:Bool×List (List Nat×List Nat):=(true,[([],[]),([],[]),([1],[1]),([2],[2]),([3],[3]),([],[]),([],[]),([6],[6]),([7],[7]),([8],[8]),([9],[9]),([10],[10]),([11],[11]),([],[]),([12,13],[12,13]),([4,5,14],[4,5,14]),([0,15,15],[0,15])])
def dR.B6:List Nat:=[0,0,2,6,14,0,0,64,192,448,960,1984,4032,0,16320,32766,65535]
theorem dR.FW:gz .any (opsOf Tryz.f97 6)=dR.T6:=by kernel_rfl
theorem dR.zI:dZ dR.T6.2 dR.B6=true:=by kernel_rfl
def dR.g (k:Nat) (n:Nt) (u:Int) (t:ByteArray) (H:List Int):Option (Nt×Bool):=(if 0≤wrap64 ((H.length:Int)-1)∧wrap64 ((H.length:Int)-1)<(H.length:Int) then (dN.f k n.ks (H.set (wrap64 ((H.length:Int)-1)).toNat (wrap64 (u+2))) (strOfNums [wrap64 (n.sd+1)%256]++t)).bind fun s=>(cv.f k ⟨n.ks,n.ps,n.ss,n.ib,wrap64 (n.sd+1)⟩ 0 s).bind fun m=>some (m,true) else none)
def dR.f (k:Nat) (n:Nt) (u:Int) (t:ByteArray):Option (Nt×Bool):=(bk.f u 0 3).bind fun c=>if c=false then some (n,false) else if 14<(t.size:Int) then some (n,false) else if n.sd=60 then some (n,false) else (fm.f [1] (n.ks.length:Int)).bind fun H=>dR.g k n u t H
theorem dR.calls {k:Nat} {v0 v1 v2 v3:Value} {n m:Nt} {u:Int} {t:ByteArray} {r:Bool} {L:List SA} {w0 w:World} {b0:Nat} (hs:Sep w0 w (bA b0 #[v0,v1,v2,v3,.int .i64 n.sd] 27::eO v0 v1 v2 v3 n++L)) (h:dR.f k n u t=some (m,r)):
    Calls Tryz.prog 97 #[.pointer (some ⟨b0,0,none⟩),.int .i64 u,.string t] w fun e w'=>e= .returned (.bool r)∧Sep w0 w' (bA b0 #[v0,v1,v2,v3,.int .i64 m.sd] 27::eO v0 v1 v2 v3 m++L):=by
 have lg:=Tryz.underlying27
 obtain ⟨ks,ps,ss,ib,sd⟩:=n
 have HS:Sep w0 w (bA b0 #[v0,v1,v2,v3,.int .i64 sd] 27::rA KI 3 v0 ks::sA KT 62 v1 ps::sA KT 62 v2 ss::sA KT 62 v3 ib::L):=hs
 clear hs
 unfold dR.f at h
 dsimp only at h⊢
 obtain ⟨A0,c0,rfl⟩:=HS.lz 1
 obtain ⟨A1,c1,rfl⟩:=HS.gY 2
 obtain ⟨A2,c2,rfl⟩:=HS.gY 3
 obtain ⟨A3,c3,rfl⟩:=HS.gY 4
 replace h:=bS h;obtain ⟨c,T1,h⟩:=h
 cases c with
 |false=>
  rw [if_pos rfl] at h
  skip
  obtain ⟨rfl,rfl⟩:=(Prod.mk.injEq _ _ _ _).mp (Option.some.inj h)
  clear h
  go_enter Tryz.func97,Tryz.ntmps97
  have cP:=an (HS.aI 0)
  go_wp2_with (first|(go_at_call 70;refine (bk.calls _ _ _ _ _ T1.out).mono ?_;rintro e W_ ⟨rfl,iC,rfl⟩;replace HS:=HS.drewN iC;generalize World.drewN _ iC=W_ at HS⊢;clear cP;have cP:=an (HS.aI 0)))
  go_ret
  exact ⟨er,HS⟩
 |true=>
  rw [if_neg (by decide)] at h
  by_cases wO:14<(t.size:Int)
  ·rw [if_pos wO] at h
   have cb1:decide (14<(t.size:Int))=true:=decide_eq_true wO
   clear wO
   obtain ⟨rfl,rfl⟩:=(Prod.mk.injEq _ _ _ _).mp (Option.some.inj h)
   clear h
   go_enter Tryz.func97,Tryz.ntmps97
   have cP:=an (HS.aI 0)
   go_wp2_with (first|(go_at_call 70;refine (bk.calls _ _ _ _ _ T1.out).mono ?_;rintro e W_ ⟨rfl,iC,rfl⟩;replace HS:=HS.drewN iC;generalize World.drewN _ iC=W_ at HS⊢;clear cP;have cP:=an (HS.aI 0)))
   go_ret
   exact ⟨er,HS⟩
  ·rw [if_neg wO] at h
   have cb1:decide (14<(t.size:Int))=false:=decide_eq_false wO
   have hts:t.size≤14:=by omega
   clear wO
   by_cases LH:sd=60
   ·rw [if_pos LH] at h
    have cb2:(sd==60)=true:=beq_iff_eq.2 LH
    clear LH
    obtain ⟨rfl,rfl⟩:=(Prod.mk.injEq _ _ _ _).mp (Option.some.inj h)
    clear h
    go_enter Tryz.func97,Tryz.ntmps97
    have cP:=an (HS.aI 0)
    go_wp2_with (first|(go_at_call 70;refine (bk.calls _ _ _ _ _ T1.out).mono ?_;rintro e W_ ⟨rfl,iC,rfl⟩;replace HS:=HS.drewN iC;generalize World.drewN _ iC=W_ at HS⊢;clear cP;have cP:=an (HS.aI 0)))
    go_ret
    exact ⟨er,HS⟩
   ·rw [if_neg LH] at h
    have cb2:(sd==60)=false:=beq_eq_false_iff_ne.2 LH
    clear LH
    replace h:=bS h;obtain ⟨H,TH,h⟩:=h
    have H':=ak h;clear h
    go_enter Tryz.func97,Tryz.ntmps97
    have cP:=an (HS.aI 0)
    go_upto_region 4 with (first|(go_at_call 70;refine (bk.calls _ _ _ _ _ T1.out).mono ?_;rintro e W_ ⟨rfl,iC,rfl⟩;replace HS:=HS.drewN iC;generalize World.drewN _ iC=W_ at HS⊢;clear cP;have cP:=an (HS.aI 0)))
    clear cP
    obtain ⟨rC,gU,gX⟩:=(HS.cq 0 4 (.int .i64 (wrap64 (sd+1))) #[.slice A0 ks.length c0,.slice A1 ps.length c1,.slice A2 ss.length c2,.slice A3 ib.length c3,.int .i64 (wrap64 (sd+1))]).gen
    rw [gU]
    clear HS gU
    have HS:=gX
    clear gX
    have cP:=an (HS.aI 0)
    go_upto_region 5 with (first|((with_reducible refine av (N:=30) rfl ?_);refine Kd.gD KI _ 3 ?hg (N:=30) ?hd (xs:=([1]:List Int)) (inner:=[.int .i64 1]) (ok:=fun _=>True) (okp:=fun _=>True) ?hr ?hp (fun _ hk=>hk) trivial (Below.refl _ _) (Nat.le_refl _) (by simp) ?_;(case hd=>rfl);(case hg=>rfl);(case hr=>first|(go_simp;done)|(go_simp;rfl));(case hp=>exact (bT.one (show Kd.M KI _ _ _ 1 [.int .i64 1] from rfl) (bT.none _ _)));intro FV W_ bD aW _ _;replace HS:=HS.new (A:=rA KI 3 FV ([1])) aW bD;clear bD aW;obtain ⟨A9,c9,rfl⟩:=HS.lz 0;clear cP;have cP:=an (HS.aI 1))|(go_at_call 117;have cE:=fm.calls A9 c9 [1] (ks.length:Int) H _ (HS.mA 0).2.2 (HS.mA 0).2.1 TH.out;refine cE.mono ?_;clear cE;rintro e W_ ⟨vH,rfl,bD,aW⟩;replace HS:=HS.new (A:=rA KI 3 vH H) aW bD;clear bD aW;clear cP;have cP:=an (HS.aI 2)))
    have h:=H'.out;clear H'
    unfold dR.g at h
    dsimp only at h
    replace h:=dy h;obtain ⟨⟨xj,C3⟩,h⟩:=h
    obtain ⟨gH,qH,rfl⟩:=HS.uN 0 (hx:=by omega)
    obtain ⟨hHc,hHf⟩:=HS.Tn 0 (wrap64 ((H.length:Int)-1)) xj C3
    generalize tu:wrap64 ((H.length:Int)-1)=i at h xj C3 hHc hHf
    have pi0:(0≤i)=True:=eq_true xj
    have pi1:(i<(H.length:Int))=True:=eq_true C3
    clear cP
    have cP:=an (HS.aI 2)
    go_upto_region 6 with fail
    clear cP
    clear hHc hHf pi0 pi1
    replace HS:=HS.aaO i (wrap64 (u+2))
    obtain ⟨rC,gU,gX⟩:=HS.gen
    rw [gU]
    clear HS gU
    have HS:=gX
    clear gX
    generalize hG:H.set i.toNat (wrap64 (u+2))=G at HS h
    have Xo:G.length=H.length:=by rw [←hG,List.length_set]
    rw [←Xo] at HS
    simp only [←Xo]
    clear tu xj C3 hG Xo
    obtain ⟨B,hB⟩:∃B,strOfNums [wrap64 (sd+1)%256]=B:=⟨_,rfl⟩
    rw [hB] at h
    have hBs:B.size=1:=by rw [←hB];rfl
    have Tx:decide (B.size+t.size≤9223372036854775807)=true:=decide_eq_true (by omega)
    have D4:(9223372036854775807<B.size+t.size)=False:=eq_false (by omega)
    clear hBs
    replace h:=bS h;obtain ⟨s,T2,h⟩:=h
    replace h:=bS h;obtain ⟨⟨Ny,KR,Ky,NP,KJ⟩,T3,h⟩:=h
    obtain ⟨e1,e2,e3⟩:=cv.keeps T3.out
    dsimp only at e1 e2 e3
    replace e1:=e1.symm;replace e2:=e2.symm;replace e3:=e3.symm
    subst e1 e2 e3
    obtain ⟨rfl,rfl⟩:=(Prod.mk.injEq _ _ _ _).mp (Option.some.inj h)
    clear h
    go_upto_region 6 with fail
    have cP:=an (HS.aI 2)
    refine dV (n:=17) (S:=fun w'=>w'.cell? ⟨b0,0,none⟩=some (.slice A0 ks.length c0)∧w'.cell? ⟨b0,1,none⟩=some (.slice A1 ps.length c1)∧w'.cell? ⟨b0,2,none⟩=some (.slice A2 ss.length c2)∧w'.cell? ⟨b0,3,none⟩=some (.slice A3 ib.length c3)∧w'.cell? ⟨b0,4,none⟩=some (.int .i64 (wrap64 (sd+1)))) (ds:=[]) (bl 17 0) (by kernel_rfl) rfl rfl ⟨cP.1,cP.2.1,cP.2.2.1,cP.2.2.2.1,cP.2.2.2.2.1⟩ (fun ah=> ?_);refine bZ dR.FW dR.zI (fun aA ef=> ?_)
    clear cP
    replace HS:=HS.drew
    generalize World.drew _=tD at HS ah⊢
    refine ag 0 (some 44) 17 1 aA ?_
    refine ag 1 (some 45) 17 3 aA ?_
    refine ag 2 (some 46) 17 7 aA ?_
    refine ag 3 (some 47) 17 15 aA ?_
    refine cg 4 (some 48) 17 31 aA ef ah ?_ (hy:=by rintro w' ⟨s0,s1,s2,s3,s4⟩;go_simp;with_reducible rfl)
    refine ag 5 (some 49) 17 63 aA ?_
    refine ag 6 (some 50) 17 127 aA ?_
    refine ag 7 (some 51) 17 255 aA ?_
    refine ag 8 (some 52) 17 511 aA ?_
    refine cg 9 (some 53) 17 1023 aA ef ah ?_ (hy:=by rintro w' ⟨s0,s1,s2,s3,s4⟩;go_simp;with_reducible rfl)
    refine ag 10 (some 54) 17 2047 aA ?_
    refine ag 13 (some 57) 17 10239 aA ?_
    refine fJ 11 (some 55) 17 12287 aA (fun K hK=> ?_)
    clear ah
    refine Kd.iJ (Kd.int .u8) _ 5 ?hg (N:=55) ?hd (xs:=([wrap64 (sd+1)%256]:List Int)) (inner:=[.int .u8 (wrap64 (sd+1)%256)]) (ok:=fun _=>True) (okp:=fun _=>True) ?hr ?hp (fun _ hk=>hk) trivial (Below.refl _ _) (Nat.le_refl _) (by simp) ?_
    (case hd=>rfl)
    (case hg=>rfl)
    (case hr=>first|(go_simp;done)|(go_simp;rfl))
    (case hp=>exact (bT.one (show Kd.M (Kd.int .u8) _ _ _ (wrap64 (sd+1)%256) [.int .u8 (wrap64 (sd+1)%256)] from rfl) (bT.none _ _)))
    intro vby W_ bD aW _ _
    replace HS:=HS.new (A:=rA (Kd.int .u8) 5 vby ([wrap64 (sd+1)%256])) aW bD
    clear bD aW
    have cP:=an (HS.aI 3)
    refine hK.out _ _ ⟨cP.1,cP.2.1,cP.2.2.1,cP.2.2.2.1,cP.2.2.2.2.1⟩ (fun ah=> ?_)
    clear hK K cP
    refine cM (a':= ?_) ?_ ?_
    rotate_left
    ·show Act.put _ (some 55) _=_
     simp only [Act.put,List.setIfInBounds_toArray,List.set_cons_zero,List.set_cons_succ,bW,cA]
     rfl
    refine fJ 12 (some 56) 17 16383 aA (fun K hK=> ?_)
    clear ah
    have hcv:=HS.text 0 (P:=Tryz.prog) Tryz.underlying56 Tryz.underlying5 Tryz.underlying9
    rw [hB] at hcv
    refine vr (w1:= ?_) (v:= ?_) (by rfl) rfl ?_ ?_
    rotate_left 2
    ·go_simp
     constructor
     ·rfl
     ·rfl
    clear hcv
    have cP:=an (HS.aI 3)
    refine hK.out _ _ ⟨cP.1,cP.2.1,cP.2.2.1,cP.2.2.2.1,cP.2.2.2.2.1⟩ (fun ah=> ?_)
    clear hK K cP
    refine cM (a':= ?_) ?_ ?_
    rotate_left
    ·show Act.put _ (some 56) _=_
     simp only [Act.put,List.setIfInBounds_toArray,List.set_cons_zero,List.set_cons_succ,bW,cA]
     rfl
    refine ag 14 (some 58) 17 32767 aA ?_
    refine fJ 15 (some 59) 17 65535 aA (fun K hK=> ?_)
    refine fM Tryz.func118 (by kernel_rfl) rfl #[.slice A0 ks.length c0,.slice (some ⟨gH,0,none⟩) G.length qH,.string (B++t)] (by rfl) rfl rfl (by (try simp only [List.map_toArray,List.map_cons,List.map_nil]);first|done|rfl) ?_
    have cE:=dN.calls k _ _ ks _ _ G (B++t) s _ (HS.mA 4).2.2 (HS.mA 4).2.1 (HS.mA 1).2.2 (HS.mA 1).2.1 T2.out
    refine cE.mono ?_
    clear cE ah
    rintro e W_ ⟨rfl,aW⟩
    refine ⟨_,rfl,?_⟩
    replace HS:=HS.below aW
    clear aW
    have cP:=an (HS.aI 3)
    refine hK.out _ _ ⟨cP.1,cP.2.1,cP.2.2.1,cP.2.2.2.1,cP.2.2.2.2.1⟩ (fun ah=> ?_)
    clear hK K cP
    refine cM (a':= ?_) ?_ ?_
    rotate_left
    ·show Act.put _ (some 59) _=_
     simp only [Act.put,List.setIfInBounds_toArray,List.set_cons_zero,List.set_cons_succ,bW,cA]
     rfl
    refine fJ 16 (some 60) 17 131071 aA (fun K hK=> ?_)
    refine fM Tryz.func98 (by kernel_rfl) rfl #[.pointer (some ⟨b0,0,none⟩),.int .i64 0,.string s] (by rfl) rfl rfl (by (try simp only [List.map_toArray,List.map_cons,List.map_nil]);first|done|rfl) ?_
    have cE:=cv.calls (n:=⟨ks,ps,ss,ib,wrap64 (sd+1)⟩) (HS.zl.zl.zl.zl.zl) T3.out
    refine cE.mono ?_
    clear cE ah
    rintro e W_ ⟨rfl,fX⟩
    refine ⟨_,rfl,?_⟩
    clear HS
    have HS:=fX
    clear fX
    dsimp only [eO,List.cons_append,List.nil_append] at HS
    have cP:=an (HS.aI 0)
    refine hK.out _ _ ⟨cP.1,cP.2.1,cP.2.2.1,cP.2.2.2.1,cP.2.2.2.2.1⟩ (fun ah=> ?_)
    clear hK K cP
    refine cM (a':= ?_) ?_ ?_
    rotate_left
    ·show Act.put _ (some 60) _=_
     simp only [Act.put,List.setIfInBounds_toArray,List.set_cons_zero,List.set_cons_succ,bW,cA]
     rfl
    refine eZ (cV aA.out (by kernel_rfl)) ?_
    clear aA ef ah
    go_wp2
    go_ret
    replace HS:=HS.jR.tail
    replace HS:=HS.jR.tail
    replace HS:=HS.jR.tail
    exact ⟨er,HS⟩
def bh.T5:Bool×List (List Nat×List Nat):=(true,[([],[]),([0],[0]),([1],[1]),([2],[2]),([3],[3]),([4,3],[3,4]),([3],[3]),([6,3],[3,6]),([7,3],[3,7]),([8,3],[3,8]),([9,3],[3,9]),([10,3],[3,10]),([5,11,3,3],[3,5,11]),([3,12],[3,12]),([13,12],[13])])
def bh.B5:List Nat:=[0,1,3,7,15,31,15,79,207,463,975,1999,4095,8191,16383]
theorem bh.At:gz .any (opsOf Tryz.f62 5)=bh.T5:=by kernel_rfl
theorem bh.sO:dZ bh.T5.2 bh.B5=true:=by kernel_rfl
def bh.T8:Bool×List (List Nat×List Nat):=(true,[([],[]),([0],[0]),([1],[1]),([2],[2]),([3],[3]),([4,3],[3,4]),([3],[3]),([6,3],[3,6]),([7,3],[3,7]),([8,3],[3,8]),([9,3],[3,9]),([10,3],[3,10]),([11,3],[3,11]),([12,3],[3,12]),([5,13,3,3],[3,5,13]),([3,14],[3,14]),([15,14],[15])])
def bh.B8:List Nat:=[0,1,3,7,15,31,15,79,207,463,975,1999,4047,8143,16383,32767,65535]
theorem bh.wX:gz .any (opsOf Tryz.f62 8)=bh.T8:=by kernel_rfl
theorem bh.qm:dZ bh.T8.2 bh.B8=true:=by kernel_rfl
def bh.T9:Bool×List (List Nat×List Nat):=(true,[([],[]),([],[]),([1],[1]),([2],[2]),([3],[3]),([4],[4]),([5],[5]),([],[]),([7],[7]),([6,8],[6,8]),([9],[9]),([0,10],[0,10])])
def bh.B9:List Nat:=[0,0,2,6,14,30,62,0,128,510,1022,2047]
theorem bh.aeU:gz .any (opsOf Tryz.f62 9)=bh.T9:=by kernel_rfl
theorem bh.acr:dZ bh.T9.2 bh.B9=true:=by kernel_rfl
def bh.f (k:Nat) (n:Nt) (a b:Int) (x:ByteArray):Option (Nt×Bool):=if a=1 then dR.f k n b x else if x=(⟨#[]⟩:ByteArray) then (if a=2 then (bk.f b 0 (wrap64 ((n.ks.length:Int)-1))).bind fun c=>if c=true then (aV.f k n b).bind fun m=>some (m,true) else some (n,false) else if a=3 then (if 0<n.ss.length then (bk.f b 0 (wrap64 (((n.ss.getD 0 []).length:Int)-1))).bind fun c=>if c=true then (if 0≤b∧b<((n.ss.getD 0 []).length:Int) then (cv.f k n 0 (aQ ByteArray.empty (n.ss.getD 0 []) b)).bind fun m=>some (m,true) else none) else some (n,false) else none) else some (n,false)) else some (n,false)
theorem bh.calls {k:Nat} {v0 v1 v2 v3:Value} {n m:Nt} {a b:Int} {x:ByteArray} {r:Bool} {L:List SA} {w0 w:World} {b0:Nat} (hs:Sep w0 w (bA b0 #[v0,v1,v2,v3,.int .i64 n.sd] 27::eO v0 v1 v2 v3 n++L)) (h:bh.f k n a b x=some (m,r)):
    Calls Tryz.prog 62 #[.pointer (some ⟨b0,0,none⟩),.agg #[.int .i64 a,.int .i64 b,.string x]] w fun e w'=>e= .returned (.bool r)∧Sep w0 w' (bA b0 #[v0,v1,v2,v3,.int .i64 m.sd] 27::eO v0 v1 v2 v3 m++L):=by
 have lg:=Tryz.underlying27
 have GX:=Tryz.underlying53
 obtain ⟨ks,ps,ss,ib,sd⟩:=n
 have HS:Sep w0 w (bA b0 #[v0,v1,v2,v3,.int .i64 sd] 27::rA KI 3 v0 ks::sA KT 62 v1 ps::sA KT 62 v2 ss::sA KT 62 v3 ib::L):=hs
 clear hs
 unfold bh.f at h
 dsimp only at h⊢
 obtain ⟨A0,c0,rfl⟩:=HS.lz 1
 obtain ⟨A1,c1,rfl⟩:=HS.gY 2
 obtain ⟨A2,c2,rfl⟩:=HS.gY 3
 obtain ⟨A3,c3,rfl⟩:=HS.gY 4
 by_cases a1:a=1
 ·rw [if_pos a1] at h
  subst a1
  obtain ⟨Ny,KR,Ky,NP,KJ⟩:=m
  have T1:=ak h;clear h
  go_enter Tryz.func62,Tryz.ntmps62
  go_wp2_with (first|((with_reducible refine av (N:=3) rfl ?_);refine bN 3 #[.int .i64 1,.int .i64 b,.string x] 53 ?_;intro b3 bK W_ bD aW;replace HS:=HS.box bK bD aW;clear bK bD aW;have bL:=ck (HS.aI 0);clear bL;have bL:=ck (HS.aI 0);have cP:=an (HS.aI 1))|(go_at_call 97;have cE:=dR.calls (n:=⟨ks,ps,ss,ib,sd⟩) (HS.jR.jR.jR.jR.jR) T1.out;refine cE.mono ?_;clear cE;rintro e W_ ⟨rfl,fX⟩;clear HS;have HS:=fX;clear fX;dsimp only [eO,List.cons_append,List.nil_append] at HS;clear bL cP;have bL:=ck (HS.aI 5);have cP:=an (HS.aI 0)))
  go_ret
  replace HS:=HS.jR.tail
  exact ⟨er,HS⟩
 ·rw [if_neg a1] at h
  have ha1:(a==1)=false:=beq_eq_false_iff_ne.2 a1
  by_cases hx:x=(⟨#[]⟩:ByteArray)
  ·rw [if_pos hx] at h
   subst hx
   by_cases a2:a=2
   ·rw [if_pos a2] at h
    subst a2
    clear a1 ha1
    replace h:=bS h;obtain ⟨c,T2,h⟩:=h
    cases c with
    |false=>
     rw [if_neg (by decide)] at h
     obtain ⟨rfl,rfl⟩:=(Prod.mk.injEq _ _ _ _).mp (Option.some.inj h)
     clear h
     go_enter Tryz.func62,Tryz.ntmps62
     go_upto_region 5 with (first|((with_reducible refine av (N:=3) rfl ?_);refine bN 3 #[.int .i64 2,.int .i64 b,.string (⟨#[]⟩:ByteArray)] 53 ?_;intro b3 bK W_ bD aW;replace HS:=HS.box bK bD aW;clear bK bD aW;have bL:=ck (HS.aI 0);clear bL;have bL:=ck (HS.aI 0);have cP:=an (HS.aI 1)))
     go_upto_region 5 with fail
     clear bL cP
     have bL:=ck (HS.aI 0)
     have cP:=an (HS.aI 1)
     refine dV (n:=15) (S:=fun w'=>w'.cell? ⟨b3,0,none⟩=some (.int .i64 2)∧w'.cell? ⟨b3,1,none⟩=some (.int .i64 b)∧w'.cell? ⟨b3,2,none⟩=some (.string (⟨#[]⟩:ByteArray))∧w'.cell? ⟨b0,0,none⟩=some (.slice A0 ks.length c0)∧w'.cell? ⟨b0,1,none⟩=some (.slice A1 ps.length c1)∧w'.cell? ⟨b0,2,none⟩=some (.slice A2 ss.length c2)∧w'.cell? ⟨b0,3,none⟩=some (.slice A3 ib.length c3)∧w'.cell? ⟨b0,4,none⟩=some (.int .i64 sd)) (ds:=[]) (bl 15 0) (by kernel_rfl) rfl rfl ⟨bL.1,bL.2.1,bL.2.2.1,cP.1,cP.2.1,cP.2.2.1,cP.2.2.2.1,cP.2.2.2.2.1⟩ (fun ah=> ?_);refine bZ bh.At bh.sO (fun aA ef=> ?_)
     clear bL cP
     replace HS:=HS.drew
     generalize World.drew _=tD at HS ah⊢
     refine ag 0 (some 20) 15 1 aA ?_
     refine cg 1 (some 21) 15 3 aA ef ah ?_ (hy:=by rintro w' ⟨s0,s1,s2,s3,s4,s5,s6,s7⟩;go_simp;with_reducible rfl)
     refine ag 2 (some 22) 15 7 aA ?_
     refine ag 3 (some 23) 15 15 aA ?_
     try simp only [show ((2:Int)==2)=true from rfl]
     refine ag 4 (some 24) 15 31 aA ?_
     refine cg 5 (some 25) 15 63 aA ef ah ?_ (hy:=by rintro w' ⟨s0,s1,s2,s3,s4,s5,s6,s7⟩;go_simp;with_reducible rfl)
     refine ag 6 (some 26) 15 127 aA ?_
     refine ag 7 (some 27) 15 255 aA ?_
     refine ag 8 (some 28) 15 511 aA ?_
     refine cg 9 (some 29) 15 1023 aA ef ah ?_ (hy:=by rintro w' ⟨s0,s1,s2,s3,s4,s5,s6,s7⟩;go_simp;with_reducible rfl)
     refine ag 10 (some 30) 15 2047 aA ?_
     refine ag 11 (some 31) 15 4095 aA ?_
     refine fJ 12 (some 32) 15 8191 aA (fun K hK=> ?_)
     refine fM Tryz.func70 (by kernel_rfl) rfl #[.int .i64 b,.int .i64 0,.int .i64 (wrap64 ((ks.length:Int)-1))] (by rfl) rfl rfl (by (try simp only [List.map_toArray,List.map_cons,List.map_nil]);first|done|rfl) ?_
     refine (bk.calls _ _ _ _ _ T2.out).mono ?_
     clear ah
     rintro e W_ ⟨rfl,iC,rfl⟩
     refine ⟨_,rfl,?_⟩
     replace HS:=HS.drewN iC
     generalize World.drewN _ iC=W_ at HS⊢
     have bL:=ck (HS.aI 0)
     have cP:=an (HS.aI 1)
     refine hK.out _ _ ⟨bL.1,bL.2.1,bL.2.2.1,cP.1,cP.2.1,cP.2.2.1,cP.2.2.2.1,cP.2.2.2.2.1⟩ (fun ah=> ?_)
     clear hK K bL cP
     refine cM (a':= ?_) ?_ ?_
     rotate_left
     ·show Act.put _ (some 32) _=_
      simp only [Act.put,List.setIfInBounds_toArray,List.set_cons_zero,List.set_cons_succ,bW,cA]
      rfl
     refine ag 13 (some 33) 15 16383 aA ?_
     refine ag 14 (some 19) 15 32767 aA ?_
     refine eZ (cV aA.out (by kernel_rfl)) ?_
     clear aA ef ah
     have bL:=ck (HS.aI 0)
     have cP:=an (HS.aI 1)
     go_upto_region 8 with fail
     go_upto_region 8 with fail
     clear bL cP
     have bL:=ck (HS.aI 0)
     have cP:=an (HS.aI 1)
     refine dV (n:=17) (S:=fun w'=>w'.cell? ⟨b3,0,none⟩=some (.int .i64 2)∧w'.cell? ⟨b3,1,none⟩=some (.int .i64 b)∧w'.cell? ⟨b3,2,none⟩=some (.string (⟨#[]⟩:ByteArray))∧w'.cell? ⟨b0,0,none⟩=some (.slice A0 ks.length c0)∧w'.cell? ⟨b0,1,none⟩=some (.slice A1 ps.length c1)∧w'.cell? ⟨b0,2,none⟩=some (.slice A2 ss.length c2)∧w'.cell? ⟨b0,3,none⟩=some (.slice A3 ib.length c3)∧w'.cell? ⟨b0,4,none⟩=some (.int .i64 sd)) (ds:=[]) (bl 17 0) (by kernel_rfl) rfl rfl ⟨bL.1,bL.2.1,bL.2.2.1,cP.1,cP.2.1,cP.2.2.1,cP.2.2.2.1,cP.2.2.2.2.1⟩ (fun ah=> ?_);refine bZ bh.wX bh.qm (fun aA ef=> ?_)
     clear bL cP
     replace HS:=HS.drew
     generalize World.drew _=tD at HS ah⊢
     refine ag 0 (some 39) 17 1 aA ?_
     refine cg 1 (some 40) 17 3 aA ef ah ?_ (hy:=by rintro w' ⟨s0,s1,s2,s3,s4,s5,s6,s7⟩;go_simp;with_reducible rfl)
     refine ag 2 (some 41) 17 7 aA ?_
     refine ag 3 (some 42) 17 15 aA ?_
     try simp only [show ((2:Int)==3)=false from rfl]
     refine cL 4 (some 43) 17 31 aA ?_
     refine cL 5 (some 44) 17 63 aA ?_
     refine cL 6 (some 45) 17 127 aA ?_
     refine cL 7 (some 46) 17 255 aA ?_
     refine cL 8 (some 47) 17 511 aA ?_
     refine cL 9 (some 48) 17 1023 aA ?_
     refine cL 10 (some 49) 17 2047 aA ?_
     refine cL 11 (some 50) 17 4095 aA ?_
     refine cL 12 (some 51) 17 8191 aA ?_
     refine cL 13 (some 52) 17 16383 aA ?_
     refine cL 14 (some 53) 17 32767 aA ?_
     refine ag 15 (some 54) 17 65535 aA ?_
     refine ag 16 (some 38) 17 131071 aA ?_
     refine eZ (cV aA.out (by kernel_rfl)) ?_
     clear aA ef ah
     have bL:=ck (HS.aI 0)
     have cP:=an (HS.aI 1)
     go_wp2
     go_ret
     replace HS:=HS.tail
     exact ⟨er,HS⟩
    |true=>
     rw [if_pos rfl] at h
     replace h:=bS h;obtain ⟨⟨Ny,KR,Ky,NP,KJ⟩,T1,h⟩:=h
     obtain ⟨e1,e3⟩:=aV.keeps T1.out
     dsimp only at e1 e3
     replace e1:=e1.symm;replace e3:=e3.symm
     subst e1 e3
     obtain ⟨rfl,rfl⟩:=(Prod.mk.injEq _ _ _ _).mp (Option.some.inj h)
     clear h
     go_enter Tryz.func62,Tryz.ntmps62
     go_upto_region 5 with (first|((with_reducible refine av (N:=3) rfl ?_);refine bN 3 #[.int .i64 2,.int .i64 b,.string (⟨#[]⟩:ByteArray)] 53 ?_;intro b3 bK W_ bD aW;replace HS:=HS.box bK bD aW;clear bK bD aW;have bL:=ck (HS.aI 0);clear bL;have bL:=ck (HS.aI 0);have cP:=an (HS.aI 1)))
     go_upto_region 5 with fail
     clear bL cP
     have bL:=ck (HS.aI 0)
     have cP:=an (HS.aI 1)
     refine dV (n:=15) (S:=fun w'=>w'.cell? ⟨b3,0,none⟩=some (.int .i64 2)∧w'.cell? ⟨b3,1,none⟩=some (.int .i64 b)∧w'.cell? ⟨b3,2,none⟩=some (.string (⟨#[]⟩:ByteArray))∧w'.cell? ⟨b0,0,none⟩=some (.slice A0 ks.length c0)∧w'.cell? ⟨b0,1,none⟩=some (.slice A1 ps.length c1)∧w'.cell? ⟨b0,2,none⟩=some (.slice A2 ss.length c2)∧w'.cell? ⟨b0,3,none⟩=some (.slice A3 ib.length c3)∧w'.cell? ⟨b0,4,none⟩=some (.int .i64 sd)) (ds:=[]) (bl 15 0) (by kernel_rfl) rfl rfl ⟨bL.1,bL.2.1,bL.2.2.1,cP.1,cP.2.1,cP.2.2.1,cP.2.2.2.1,cP.2.2.2.2.1⟩ (fun ah=> ?_);refine bZ bh.At bh.sO (fun aA ef=> ?_)
     clear bL cP
     replace HS:=HS.drew
     generalize World.drew _=tD at HS ah⊢
     refine ag 0 (some 20) 15 1 aA ?_
     refine cg 1 (some 21) 15 3 aA ef ah ?_ (hy:=by rintro w' ⟨s0,s1,s2,s3,s4,s5,s6,s7⟩;go_simp;with_reducible rfl)
     refine ag 2 (some 22) 15 7 aA ?_
     refine ag 3 (some 23) 15 15 aA ?_
     try simp only [show ((2:Int)==2)=true from rfl]
     refine ag 4 (some 24) 15 31 aA ?_
     refine cg 5 (some 25) 15 63 aA ef ah ?_ (hy:=by rintro w' ⟨s0,s1,s2,s3,s4,s5,s6,s7⟩;go_simp;with_reducible rfl)
     refine ag 6 (some 26) 15 127 aA ?_
     refine ag 7 (some 27) 15 255 aA ?_
     refine ag 8 (some 28) 15 511 aA ?_
     refine cg 9 (some 29) 15 1023 aA ef ah ?_ (hy:=by rintro w' ⟨s0,s1,s2,s3,s4,s5,s6,s7⟩;go_simp;with_reducible rfl)
     refine ag 10 (some 30) 15 2047 aA ?_
     refine ag 11 (some 31) 15 4095 aA ?_
     refine fJ 12 (some 32) 15 8191 aA (fun K hK=> ?_)
     refine fM Tryz.func70 (by kernel_rfl) rfl #[.int .i64 b,.int .i64 0,.int .i64 (wrap64 ((ks.length:Int)-1))] (by rfl) rfl rfl (by (try simp only [List.map_toArray,List.map_cons,List.map_nil]);first|done|rfl) ?_
     refine (bk.calls _ _ _ _ _ T2.out).mono ?_
     clear ah
     rintro e W_ ⟨rfl,iC,rfl⟩
     refine ⟨_,rfl,?_⟩
     replace HS:=HS.drewN iC
     generalize World.drewN _ iC=W_ at HS⊢
     have bL:=ck (HS.aI 0)
     have cP:=an (HS.aI 1)
     refine hK.out _ _ ⟨bL.1,bL.2.1,bL.2.2.1,cP.1,cP.2.1,cP.2.2.1,cP.2.2.2.1,cP.2.2.2.2.1⟩ (fun ah=> ?_)
     clear hK K bL cP
     refine cM (a':= ?_) ?_ ?_
     rotate_left
     ·show Act.put _ (some 32) _=_
      simp only [Act.put,List.setIfInBounds_toArray,List.set_cons_zero,List.set_cons_succ,bW,cA]
      rfl
     refine ag 13 (some 33) 15 16383 aA ?_
     refine ag 14 (some 19) 15 32767 aA ?_
     refine eZ (cV aA.out (by kernel_rfl)) ?_
     clear aA ef ah
     have bL:=ck (HS.aI 0)
     have cP:=an (HS.aI 1)
     go_wp2_with (first|(go_at_call 92;have cE:=aV.calls (n:=⟨ks,ps,ss,ib,sd⟩) (HS.jR.jR.jR.jR.jR) T1.out;refine cE.mono ?_;clear cE;rintro e W_ ⟨rfl,fX⟩;clear HS;have HS:=fX;clear fX;dsimp only [eO,List.cons_append,List.nil_append] at HS;clear bL cP;have bL:=ck (HS.aI 5);have cP:=an (HS.aI 0)))
     go_ret
     replace HS:=HS.jR.tail
     exact ⟨er,HS⟩
   ·rw [if_neg a2] at h
    have ha2:(a==2)=false:=beq_eq_false_iff_ne.2 a2
    by_cases a3:a=3
    ·rw [if_pos a3] at h
     subst a3
     clear a1 ha1 a2 ha2
     replace h:=dy h;obtain ⟨rY,h⟩:=h
     obtain ⟨g2,q2,e⟩:=HS.addr 3 (hx:=rY)
     obtain rfl:A2=some ⟨g2,0,none⟩:=by injection e
     clear e
     have j0:(0:Int)≤0:=Int.le_refl 0
     have j1:(0:Int)<(ss.length:Int):=by omega
     have pj1:(0<(ss.length:Int))=True:=eq_true j1
     have pj2:(0<ss.length)=True:=eq_true rY
     obtain ⟨AS,qS,HS,-,-⟩:=HS.vm.yS 0 j0 j1
     have SZ:ss.getD (0:Int).toNat []=ss.getD 0 []:=rfl
     rw [SZ] at HS
     generalize hS:ss.getD 0 []=S at HS h SZ
     have GS:=ak SZ;clear SZ hS
     replace h:=bS h;obtain ⟨c,T2,h⟩:=h
     cases c with
     |false=>
      rw [if_neg (by decide)] at h
      obtain ⟨rfl,rfl⟩:=(Prod.mk.injEq _ _ _ _).mp (Option.some.inj h)
      clear h
      go_enter Tryz.func62,Tryz.ntmps62
      go_upto_region 5 with (first|((with_reducible refine av (N:=3) rfl ?_);refine bN 3 #[.int .i64 3,.int .i64 b,.string (⟨#[]⟩:ByteArray)] 53 ?_;intro b3 bK W_ bD aW;replace HS:=HS.box bK bD aW;clear bK bD aW;have bL:=ck (HS.aI 0);clear bL;have bL:=ck (HS.aI 0);have cP:=an (HS.aI 3)))
      go_upto_region 5 with fail
      clear bL cP
      have bL:=ck (HS.aI 0)
      have cP:=an (HS.aI 3)
      refine dV (n:=15) (S:=fun w'=>w'.cell? ⟨b3,0,none⟩=some (.int .i64 3)∧w'.cell? ⟨b3,1,none⟩=some (.int .i64 b)∧w'.cell? ⟨b3,2,none⟩=some (.string (⟨#[]⟩:ByteArray))∧w'.cell? ⟨b0,0,none⟩=some (.slice A0 ks.length c0)∧w'.cell? ⟨b0,1,none⟩=some (.slice A1 ps.length c1)∧w'.cell? ⟨b0,2,none⟩=some (.slice (some ⟨g2,0,none⟩) ss.length c2)∧w'.cell? ⟨b0,3,none⟩=some (.slice A3 ib.length c3)∧w'.cell? ⟨b0,4,none⟩=some (.int .i64 sd)) (ds:=[]) (bl 15 0) (by kernel_rfl) rfl rfl ⟨bL.1,bL.2.1,bL.2.2.1,cP.1,cP.2.1,cP.2.2.1,cP.2.2.2.1,cP.2.2.2.2.1⟩ (fun ah=> ?_);refine bZ bh.At bh.sO (fun aA ef=> ?_)
      clear bL cP
      replace HS:=HS.drew
      generalize World.drew _=tD at HS ah⊢
      refine ag 0 (some 20) 15 1 aA ?_
      refine cg 1 (some 21) 15 3 aA ef ah ?_ (hy:=by rintro w' ⟨s0,s1,s2,s3,s4,s5,s6,s7⟩;go_simp;with_reducible rfl)
      refine ag 2 (some 22) 15 7 aA ?_
      refine ag 3 (some 23) 15 15 aA ?_
      try simp only [show ((3:Int)==2)=false from rfl]
      refine cL 4 (some 24) 15 31 aA ?_
      refine cL 5 (some 25) 15 63 aA ?_
      refine cL 6 (some 26) 15 127 aA ?_
      refine cL 7 (some 27) 15 255 aA ?_
      refine cL 8 (some 28) 15 511 aA ?_
      refine cL 9 (some 29) 15 1023 aA ?_
      refine cL 10 (some 30) 15 2047 aA ?_
      refine cL 11 (some 31) 15 4095 aA ?_
      refine cL 12 (some 32) 15 8191 aA ?_
      refine ag 13 (some 33) 15 16383 aA ?_
      refine ag 14 (some 19) 15 32767 aA ?_
      refine eZ (cV aA.out (by kernel_rfl)) ?_
      clear aA ef ah
      have bL:=ck (HS.aI 0)
      have cP:=an (HS.aI 3)
      go_upto_region 8 with fail
      go_upto_region 8 with fail
      clear bL cP
      have bL:=ck (HS.aI 0)
      have cP:=an (HS.aI 3)
      obtain ⟨gK,jf⟩:=HS.mE.hole j0 j1
      refine dV (n:=17) (S:=fun w'=>w'.cell? ⟨b3,0,none⟩=some (.int .i64 3)∧w'.cell? ⟨b3,1,none⟩=some (.int .i64 b)∧w'.cell? ⟨b3,2,none⟩=some (.string (⟨#[]⟩:ByteArray))∧w'.cell? ⟨b0,0,none⟩=some (.slice A0 ks.length c0)∧w'.cell? ⟨b0,1,none⟩=some (.slice A1 ps.length c1)∧w'.cell? ⟨b0,2,none⟩=some (.slice (some ⟨g2,0,none⟩) ss.length c2)∧w'.cell? ⟨b0,3,none⟩=some (.slice A3 ib.length c3)∧w'.cell? ⟨b0,4,none⟩=some (.int .i64 sd)∧w'.cell? ⟨g2,0,none⟩=some (.slice AS S.length qS)) (ds:=[]) (bl 17 0) (by kernel_rfl) rfl rfl ⟨bL.1,bL.2.1,bL.2.2.1,cP.1,cP.2.1,cP.2.2.1,cP.2.2.2.1,cP.2.2.2.2.1,gK⟩ (fun ah=> ?_);refine bZ bh.wX bh.qm (fun aA ef=> ?_)
      clear bL cP gK jf
      replace HS:=HS.drew
      generalize World.drew _=tD at HS ah⊢
      refine ag 0 (some 39) 17 1 aA ?_
      refine cg 1 (some 40) 17 3 aA ef ah ?_ (hy:=by rintro w' ⟨s0,s1,s2,s3,s4,s5,s6,s7,s8⟩;go_simp;with_reducible rfl)
      refine ag 2 (some 41) 17 7 aA ?_
      refine ag 3 (some 42) 17 15 aA ?_
      try simp only [show ((3:Int)==3)=true from rfl]
      refine ag 4 (some 43) 17 31 aA ?_
      refine cg 5 (some 44) 17 63 aA ef ah ?_ (hy:=by rintro w' ⟨s0,s1,s2,s3,s4,s5,s6,s7,s8⟩;go_simp;with_reducible rfl)
      refine ag 6 (some 45) 17 127 aA ?_
      refine ag 7 (some 46) 17 255 aA ?_
      refine ag 8 (some 47) 17 511 aA ?_
      refine cg 9 (some 48) 17 1023 aA ef ah ?_ (hy:=by rintro w' ⟨s0,s1,s2,s3,s4,s5,s6,s7,s8⟩;go_simp;with_reducible rfl)
      refine ag 10 (some 49) 17 2047 aA ?_
      refine cg 11 (some 50) 17 4095 aA ef ah ?_ (hy:=by rintro w' ⟨s0,s1,s2,s3,s4,s5,s6,s7,s8⟩;go_simp;with_reducible rfl)
      refine ag 12 (some 51) 17 8191 aA ?_
      refine ag 13 (some 52) 17 16383 aA ?_
      refine fJ 14 (some 53) 17 32767 aA (fun K hK=> ?_)
      refine fM Tryz.func70 (by kernel_rfl) rfl #[.int .i64 b,.int .i64 0,.int .i64 (wrap64 ((S.length:Int)-1))] (by rfl) rfl rfl (by (try simp only [List.map_toArray,List.map_cons,List.map_nil]);first|done|rfl) ?_
      refine (bk.calls _ _ _ _ _ T2.out).mono ?_
      clear ah
      rintro e W_ ⟨rfl,iC,rfl⟩
      refine ⟨_,rfl,?_⟩
      replace HS:=HS.drewN iC
      generalize World.drewN _ iC=W_ at HS⊢
      have bL:=ck (HS.aI 0)
      have cP:=an (HS.aI 3)
      obtain ⟨gK,jf⟩:=HS.mE.hole j0 j1
      refine hK.out _ _ ⟨bL.1,bL.2.1,bL.2.2.1,cP.1,cP.2.1,cP.2.2.1,cP.2.2.2.1,cP.2.2.2.2.1,gK⟩ (fun ah=> ?_)
      clear hK K bL cP gK jf
      refine cM (a':= ?_) ?_ ?_
      rotate_left
      ·show Act.put _ (some 53) _=_
       simp only [Act.put,List.setIfInBounds_toArray,List.set_cons_zero,List.set_cons_succ,bW,cA]
       rfl
      refine ag 15 (some 54) 17 65535 aA ?_
      refine ag 16 (some 38) 17 131071 aA ?_
      refine eZ (cV aA.out (by kernel_rfl)) ?_
      clear aA ef ah
      have bL:=ck (HS.aI 0)
      have cP:=an (HS.aI 3)
      go_wp2
      replace HS:=HS.me.me.sP GS
      go_ret
      replace HS:=HS.mE.tail
      exact ⟨er,HS.j9.mE.j9.j9.j9⟩
     |true=>
      rw [if_pos rfl] at h
      replace h:=dy h;obtain ⟨⟨b0_,SD⟩,h⟩:=h
      replace h:=bS h;obtain ⟨⟨Ny,KR,Ky,NP,KJ⟩,T1,h⟩:=h
      obtain ⟨e1,e2,e3⟩:=cv.keeps T1.out
      dsimp only at e1 e2 e3
      replace e1:=e1.symm;replace e2:=e2.symm;replace e3:=e3.symm
      subst e1 e2 e3
      obtain ⟨rfl,rfl⟩:=(Prod.mk.injEq _ _ _ _).mp (Option.some.inj h)
      clear h
      generalize nx:aQ ByteArray.empty S b=s at T1
      go_enter Tryz.func62,Tryz.ntmps62
      go_upto_region 5 with (first|((with_reducible refine av (N:=3) rfl ?_);refine bN 3 #[.int .i64 3,.int .i64 b,.string (⟨#[]⟩:ByteArray)] 53 ?_;intro b3 bK W_ bD aW;replace HS:=HS.box bK bD aW;clear bK bD aW;have bL:=ck (HS.aI 0);clear bL;have bL:=ck (HS.aI 0);have cP:=an (HS.aI 3)))
      go_upto_region 5 with fail
      clear bL cP
      have bL:=ck (HS.aI 0)
      have cP:=an (HS.aI 3)
      refine dV (n:=15) (S:=fun w'=>w'.cell? ⟨b3,0,none⟩=some (.int .i64 3)∧w'.cell? ⟨b3,1,none⟩=some (.int .i64 b)∧w'.cell? ⟨b3,2,none⟩=some (.string (⟨#[]⟩:ByteArray))∧w'.cell? ⟨b0,0,none⟩=some (.slice A0 ks.length c0)∧w'.cell? ⟨b0,1,none⟩=some (.slice A1 ps.length c1)∧w'.cell? ⟨b0,2,none⟩=some (.slice (some ⟨g2,0,none⟩) ss.length c2)∧w'.cell? ⟨b0,3,none⟩=some (.slice A3 ib.length c3)∧w'.cell? ⟨b0,4,none⟩=some (.int .i64 sd)) (ds:=[]) (bl 15 0) (by kernel_rfl) rfl rfl ⟨bL.1,bL.2.1,bL.2.2.1,cP.1,cP.2.1,cP.2.2.1,cP.2.2.2.1,cP.2.2.2.2.1⟩ (fun ah=> ?_);refine bZ bh.At bh.sO (fun aA ef=> ?_)
      clear bL cP
      replace HS:=HS.drew
      generalize World.drew _=tD at HS ah⊢
      refine ag 0 (some 20) 15 1 aA ?_
      refine cg 1 (some 21) 15 3 aA ef ah ?_ (hy:=by rintro w' ⟨s0,s1,s2,s3,s4,s5,s6,s7⟩;go_simp;with_reducible rfl)
      refine ag 2 (some 22) 15 7 aA ?_
      refine ag 3 (some 23) 15 15 aA ?_
      try simp only [show ((3:Int)==2)=false from rfl]
      refine cL 4 (some 24) 15 31 aA ?_
      refine cL 5 (some 25) 15 63 aA ?_
      refine cL 6 (some 26) 15 127 aA ?_
      refine cL 7 (some 27) 15 255 aA ?_
      refine cL 8 (some 28) 15 511 aA ?_
      refine cL 9 (some 29) 15 1023 aA ?_
      refine cL 10 (some 30) 15 2047 aA ?_
      refine cL 11 (some 31) 15 4095 aA ?_
      refine cL 12 (some 32) 15 8191 aA ?_
      refine ag 13 (some 33) 15 16383 aA ?_
      refine ag 14 (some 19) 15 32767 aA ?_
      refine eZ (cV aA.out (by kernel_rfl)) ?_
      clear aA ef ah
      have bL:=ck (HS.aI 0)
      have cP:=an (HS.aI 3)
      go_upto_region 8 with fail
      go_upto_region 8 with fail
      clear bL cP
      have bL:=ck (HS.aI 0)
      have cP:=an (HS.aI 3)
      obtain ⟨gK,jf⟩:=HS.mE.hole j0 j1
      refine dV (n:=17) (S:=fun w'=>w'.cell? ⟨b3,0,none⟩=some (.int .i64 3)∧w'.cell? ⟨b3,1,none⟩=some (.int .i64 b)∧w'.cell? ⟨b3,2,none⟩=some (.string (⟨#[]⟩:ByteArray))∧w'.cell? ⟨b0,0,none⟩=some (.slice A0 ks.length c0)∧w'.cell? ⟨b0,1,none⟩=some (.slice A1 ps.length c1)∧w'.cell? ⟨b0,2,none⟩=some (.slice (some ⟨g2,0,none⟩) ss.length c2)∧w'.cell? ⟨b0,3,none⟩=some (.slice A3 ib.length c3)∧w'.cell? ⟨b0,4,none⟩=some (.int .i64 sd)∧w'.cell? ⟨g2,0,none⟩=some (.slice AS S.length qS)) (ds:=[]) (bl 17 0) (by kernel_rfl) rfl rfl ⟨bL.1,bL.2.1,bL.2.2.1,cP.1,cP.2.1,cP.2.2.1,cP.2.2.2.1,cP.2.2.2.2.1,gK⟩ (fun ah=> ?_);refine bZ bh.wX bh.qm (fun aA ef=> ?_)
      clear bL cP gK jf
      replace HS:=HS.drew
      generalize World.drew _=tD at HS ah⊢
      refine ag 0 (some 39) 17 1 aA ?_
      refine cg 1 (some 40) 17 3 aA ef ah ?_ (hy:=by rintro w' ⟨s0,s1,s2,s3,s4,s5,s6,s7,s8⟩;go_simp;with_reducible rfl)
      refine ag 2 (some 41) 17 7 aA ?_
      refine ag 3 (some 42) 17 15 aA ?_
      try simp only [show ((3:Int)==3)=true from rfl]
      refine ag 4 (some 43) 17 31 aA ?_
      refine cg 5 (some 44) 17 63 aA ef ah ?_ (hy:=by rintro w' ⟨s0,s1,s2,s3,s4,s5,s6,s7,s8⟩;go_simp;with_reducible rfl)
      refine ag 6 (some 45) 17 127 aA ?_
      refine ag 7 (some 46) 17 255 aA ?_
      refine ag 8 (some 47) 17 511 aA ?_
      refine cg 9 (some 48) 17 1023 aA ef ah ?_ (hy:=by rintro w' ⟨s0,s1,s2,s3,s4,s5,s6,s7,s8⟩;go_simp;with_reducible rfl)
      refine ag 10 (some 49) 17 2047 aA ?_
      refine cg 11 (some 50) 17 4095 aA ef ah ?_ (hy:=by rintro w' ⟨s0,s1,s2,s3,s4,s5,s6,s7,s8⟩;go_simp;with_reducible rfl)
      refine ag 12 (some 51) 17 8191 aA ?_
      refine ag 13 (some 52) 17 16383 aA ?_
      refine fJ 14 (some 53) 17 32767 aA (fun K hK=> ?_)
      refine fM Tryz.func70 (by kernel_rfl) rfl #[.int .i64 b,.int .i64 0,.int .i64 (wrap64 ((S.length:Int)-1))] (by rfl) rfl rfl (by (try simp only [List.map_toArray,List.map_cons,List.map_nil]);first|done|rfl) ?_
      refine (bk.calls _ _ _ _ _ T2.out).mono ?_
      clear ah
      rintro e W_ ⟨rfl,iC,rfl⟩
      refine ⟨_,rfl,?_⟩
      replace HS:=HS.drewN iC
      generalize World.drewN _ iC=W_ at HS⊢
      have bL:=ck (HS.aI 0)
      have cP:=an (HS.aI 3)
      obtain ⟨gK,jf⟩:=HS.mE.hole j0 j1
      refine hK.out _ _ ⟨bL.1,bL.2.1,bL.2.2.1,cP.1,cP.2.1,cP.2.2.1,cP.2.2.2.1,cP.2.2.2.2.1,gK⟩ (fun ah=> ?_)
      clear hK K bL cP gK jf
      refine cM (a':= ?_) ?_ ?_
      rotate_left
      ·show Act.put _ (some 53) _=_
       simp only [Act.put,List.setIfInBounds_toArray,List.set_cons_zero,List.set_cons_succ,bW,cA]
       rfl
      refine ag 15 (some 54) 17 65535 aA ?_
      refine ag 16 (some 38) 17 131071 aA ?_
      refine eZ (cV aA.out (by kernel_rfl)) ?_
      clear aA ef ah
      have bL:=ck (HS.aI 0)
      have cP:=an (HS.aI 3)
      obtain ⟨gS,qS',e⟩:=HS.uN 2 (hx:=by omega)
      obtain rfl:AS=some ⟨gS,0,none⟩:=by injection e
      clear e
      go_upto_region 9 with fail
      have pb0:(0≤b)=True:=eq_true b0_
      have pb1:(b<(S.length:Int))=True:=eq_true SD
      go_upto_region 9 with fail
      clear bL cP
      have bL:=ck (HS.aI 0)
      have cP:=an (HS.aI 3)
      obtain ⟨gK,jf⟩:=HS.mE.hole j0 j1
      have Wi:=HS.cellS 2 (n:=S.length) b b0_ SD
      rw [nx] at Wi
      refine dV (n:=12) (S:=fun w'=>w'.cell? ⟨b3,0,none⟩=some (.int .i64 3)∧w'.cell? ⟨b3,1,none⟩=some (.int .i64 b)∧w'.cell? ⟨b3,2,none⟩=some (.string (⟨#[]⟩:ByteArray))∧w'.cell? ⟨b0,0,none⟩=some (.slice A0 ks.length c0)∧w'.cell? ⟨b0,1,none⟩=some (.slice A1 ps.length c1)∧w'.cell? ⟨b0,2,none⟩=some (.slice (some ⟨g2,0,none⟩) ss.length c2)∧w'.cell? ⟨b0,3,none⟩=some (.slice A3 ib.length c3)∧w'.cell? ⟨b0,4,none⟩=some (.int .i64 sd)∧w'.cell? ⟨g2,0,none⟩=some (.slice (some ⟨gS,0,none⟩) S.length qS)∧w'.cell? ⟨gS,b.toNat,none⟩=some (.string s)) (ds:=[11]) (bl 12 0) (by kernel_rfl) rfl rfl ⟨bL.1,bL.2.1,bL.2.2.1,cP.1,cP.2.1,cP.2.2.1,cP.2.2.2.1,cP.2.2.2.2.1,gK,Wi⟩ (fun ah=> ?_);refine bZ bh.aeU bh.acr (fun aA ef=> ?_)
      clear bL cP gK jf Wi
      replace HS:=HS.drew
      generalize World.drew _=tD at HS ah⊢
      refine ag 0 (some 55) 12 1 aA ?_
      refine ag 1 (some 56) 12 3 aA ?_
      refine ag 2 (some 57) 12 7 aA ?_
      refine ag 3 (some 58) 12 15 aA ?_
      refine cg 4 (some 59) 12 31 aA ef ah ?_ (hy:=by rintro w' ⟨s0,s1,s2,s3,s4,s5,s6,s7,s8,s9⟩;go_simp;with_reducible rfl)
      refine ag 5 (some 60) 12 63 aA ?_
      refine cg 6 (some 61) 12 127 aA ef ah ?_ (hy:=by rintro w' ⟨s0,s1,s2,s3,s4,s5,s6,s7,s8,s9⟩;go_simp;with_reducible rfl)
      refine ag 7 (some 62) 12 255 aA ?_
      refine cg 8 (some 63) 12 511 aA ef ah ?_ (hy:=by rintro w' ⟨s0,s1,s2,s3,s4,s5,s6,s7,s8,s9⟩;go_simp;with_reducible rfl)
      refine ag 9 (some 64) 12 1023 aA ?_
      refine cg 10 (some 65) 12 2047 aA ef ah ?_ (hy:=by rintro w' ⟨s0,s1,s2,s3,s4,s5,s6,s7,s8,s9⟩;go_simp;with_reducible rfl)
      replace HS:=HS.me.me.sP GS
      refine lH (i:=11) (N:=(some 66)) (bl 12 4095) rfl rfl (jd aA.out (by kernel_rfl)) (by decide) (fun K hK=> ?_)
      clear ah
      refine fM Tryz.func98 (by kernel_rfl) rfl #[.pointer (some ⟨b0,0,none⟩),.int .i64 0,.string s] (by rfl) rfl rfl (by (try simp only [List.map_toArray,List.map_cons,List.map_nil]);first|done|rfl) ?_
      have cE:=cv.calls (n:=⟨ks,ps,ss,ib,sd⟩) (HS.jR.mE.jR.jR.jR) T1.out
      refine cE.mono ?_
      clear cE
      rintro e W_ ⟨rfl,fX⟩
      refine ⟨_,rfl,?_⟩
      clear HS
      have HS:=fX
      clear fX
      dsimp only [eO,List.cons_append,List.nil_append] at HS
      refine hK.out _ _ ?_
      clear hK K
      refine cM (a':= ?_) ?_ ?_
      rotate_left
      ·show Act.put _ (some 66) _=_
       simp only [Act.put,List.setIfInBounds_toArray,List.set_cons_zero,List.set_cons_succ,bW,cA]
       rfl
      refine eZ (cV aA.out (by kernel_rfl)) ?_
      clear aA ef
      go_wp2
      go_ret
      replace HS:=HS.jR.tail
      exact ⟨er,HS⟩
    ·rw [if_neg a3] at h
     have ha3:(a==3)=false:=beq_eq_false_iff_ne.2 a3
     clear a1 a2 a3
     obtain ⟨rfl,rfl⟩:=(Prod.mk.injEq _ _ _ _).mp (Option.some.inj h)
     clear h
     go_enter Tryz.func62,Tryz.ntmps62
     go_upto_region 5 with (first|((with_reducible refine av (N:=3) rfl ?_);refine bN 3 #[.int .i64 a,.int .i64 b,.string (⟨#[]⟩:ByteArray)] 53 ?_;intro b3 bK W_ bD aW;replace HS:=HS.box bK bD aW;clear bK bD aW;have bL:=ck (HS.aI 0);clear bL;have bL:=ck (HS.aI 0);have cP:=an (HS.aI 1)))
     go_upto_region 5 with fail
     clear bL cP
     have bL:=ck (HS.aI 0)
     have cP:=an (HS.aI 1)
     refine dV (n:=15) (S:=fun w'=>w'.cell? ⟨b3,0,none⟩=some (.int .i64 a)∧w'.cell? ⟨b3,1,none⟩=some (.int .i64 b)∧w'.cell? ⟨b3,2,none⟩=some (.string (⟨#[]⟩:ByteArray))∧w'.cell? ⟨b0,0,none⟩=some (.slice A0 ks.length c0)∧w'.cell? ⟨b0,1,none⟩=some (.slice A1 ps.length c1)∧w'.cell? ⟨b0,2,none⟩=some (.slice A2 ss.length c2)∧w'.cell? ⟨b0,3,none⟩=some (.slice A3 ib.length c3)∧w'.cell? ⟨b0,4,none⟩=some (.int .i64 sd)) (ds:=[]) (bl 15 0) (by kernel_rfl) rfl rfl ⟨bL.1,bL.2.1,bL.2.2.1,cP.1,cP.2.1,cP.2.2.1,cP.2.2.2.1,cP.2.2.2.2.1⟩ (fun ah=> ?_);refine bZ bh.At bh.sO (fun aA ef=> ?_)
     clear bL cP
     replace HS:=HS.drew
     generalize World.drew _=tD at HS ah⊢
     refine ag 0 (some 20) 15 1 aA ?_
     refine cg 1 (some 21) 15 3 aA ef ah ?_ (hy:=by rintro w' ⟨s0,s1,s2,s3,s4,s5,s6,s7⟩;go_simp;with_reducible rfl)
     refine ag 2 (some 22) 15 7 aA ?_
     refine ag 3 (some 23) 15 15 aA ?_
     try simp only [ha2]
     refine cL 4 (some 24) 15 31 aA ?_
     refine cL 5 (some 25) 15 63 aA ?_
     refine cL 6 (some 26) 15 127 aA ?_
     refine cL 7 (some 27) 15 255 aA ?_
     refine cL 8 (some 28) 15 511 aA ?_
     refine cL 9 (some 29) 15 1023 aA ?_
     refine cL 10 (some 30) 15 2047 aA ?_
     refine cL 11 (some 31) 15 4095 aA ?_
     refine cL 12 (some 32) 15 8191 aA ?_
     refine ag 13 (some 33) 15 16383 aA ?_
     refine ag 14 (some 19) 15 32767 aA ?_
     refine eZ (cV aA.out (by kernel_rfl)) ?_
     clear aA ef ah
     have bL:=ck (HS.aI 0)
     have cP:=an (HS.aI 1)
     go_upto_region 8 with fail
     go_upto_region 8 with fail
     clear bL cP
     have bL:=ck (HS.aI 0)
     have cP:=an (HS.aI 1)
     refine dV (n:=17) (S:=fun w'=>w'.cell? ⟨b3,0,none⟩=some (.int .i64 a)∧w'.cell? ⟨b3,1,none⟩=some (.int .i64 b)∧w'.cell? ⟨b3,2,none⟩=some (.string (⟨#[]⟩:ByteArray))∧w'.cell? ⟨b0,0,none⟩=some (.slice A0 ks.length c0)∧w'.cell? ⟨b0,1,none⟩=some (.slice A1 ps.length c1)∧w'.cell? ⟨b0,2,none⟩=some (.slice A2 ss.length c2)∧w'.cell? ⟨b0,3,none⟩=some (.slice A3 ib.length c3)∧w'.cell? ⟨b0,4,none⟩=some (.int .i64 sd)) (ds:=[]) (bl 17 0) (by kernel_rfl) rfl rfl ⟨bL.1,bL.2.1,bL.2.2.1,cP.1,cP.2.1,cP.2.2.1,cP.2.2.2.1,cP.2.2.2.2.1⟩ (fun ah=> ?_);refine bZ bh.wX bh.qm (fun aA ef=> ?_)
     clear bL cP
     replace HS:=HS.drew
     generalize World.drew _=tD at HS ah⊢
     refine ag 0 (some 39) 17 1 aA ?_
     refine cg 1 (some 40) 17 3 aA ef ah ?_ (hy:=by rintro w' ⟨s0,s1,s2,s3,s4,s5,s6,s7⟩;go_simp;with_reducible rfl)
     refine ag 2 (some 41) 17 7 aA ?_
     refine ag 3 (some 42) 17 15 aA ?_
     try simp only [ha3]
     refine cL 4 (some 43) 17 31 aA ?_
     refine cL 5 (some 44) 17 63 aA ?_
     refine cL 6 (some 45) 17 127 aA ?_
     refine cL 7 (some 46) 17 255 aA ?_
     refine cL 8 (some 47) 17 511 aA ?_
     refine cL 9 (some 48) 17 1023 aA ?_
     refine cL 10 (some 49) 17 2047 aA ?_
     refine cL 11 (some 50) 17 4095 aA ?_
     refine cL 12 (some 51) 17 8191 aA ?_
     refine cL 13 (some 52) 17 16383 aA ?_
     refine cL 14 (some 53) 17 32767 aA ?_
     refine ag 15 (some 54) 17 65535 aA ?_
     refine ag 16 (some 38) 17 131071 aA ?_
     refine eZ (cV aA.out (by kernel_rfl)) ?_
     clear aA ef ah
     have bL:=ck (HS.aI 0)
     have cP:=an (HS.aI 1)
     go_wp2
     go_ret
     replace HS:=HS.tail
     exact ⟨er,HS⟩
  ·rw [if_neg hx] at h
   have hxe:=oe hx
   clear hx a1
   obtain ⟨rfl,rfl⟩:=(Prod.mk.injEq _ _ _ _).mp (Option.some.inj h)
   clear h
   go_enter Tryz.func62,Tryz.ntmps62
   go_wp2_with (first|((with_reducible refine av (N:=3) rfl ?_);refine bN 3 #[.int .i64 a,.int .i64 b,.string x] 53 ?_;intro b3 bK W_ bD aW;replace HS:=HS.box bK bD aW;clear bK bD aW;have bL:=ck (HS.aI 0);clear bL;have bL:=ck (HS.aI 0);have cP:=an (HS.aI 1)))
   go_ret
   replace HS:=HS.tail
   exact ⟨er,HS⟩
end Go.Proofs.YtihekdlcfohkkaaGreatDoor.QFnNets
