-- printed by this session's own program (wip/tools/pp.py: the kit's print.py with changes); Lean checks it
import Derived.Test.YtihekdlcfohkkaaGreatDoorQFnNetx0
import Derived.Test.YtihekdlcfohkkaaGreatDoorQFnNetx1
import Derived.Test.YtihekdlcfohkkaaGreatDoorQFnNetx2
import Derived.Test.YtihekdlcfohkkaaGreatDoorQFnNetx4
import Derived.Test.YtihekdlcfohkkaaGreatDoorQFnNetx6
import Derived.Test.YtihekdlcfohkkaaGreatDoorQFnNetx7
namespace Go.Proofs.YtihekdlcfohkkaaGreatDoor.QFnNet
open Go.RowKit Go.Proofs.YtihekdlcfohkkaaGreatDoorW.PrintWords Go.Proofs.YtihekdlcfohkkaaGreatDoorW.PrintLast Go.Proofs.YtihekdlcfohkkaaGreatDoorW.PrintMore
attribute [local go_sem] max2_int min2_int max_two min_two max_three min_three max_four min_four strLss strGtr strLeq strGeq
set_option linter.unusedVariables false
set_option linter.unusedSimpArgs false
set_option maxHeartbeats 16000000
set_option maxRecDepth 100000
def bP.T7:Bool×List (List Nat×List Nat):=(true,[([],[]),([0],[0]),([1],[1]),([2],[2]),([3],[3]),([4,3],[3,4]),([3],[3]),([6,3],[3,6]),([7,3],[3,7]),([8,3],[3,8]),([9,3],[3,9]),([5,10,3],[3,5,10]),([3,11],[3,11]),([12,3],[12])])
def bP.B7:List Nat:=[0,1,3,7,15,31,15,79,207,463,975,2047,4095,8191]
theorem bP.Of:gq .any (opsOf Tryz.f61 7)=bP.T7:=by kernel_rfl
theorem bP.Io:eF bP.T7.2 bP.B7=true:=by kernel_rfl
def bP.T8:Bool×List (List Nat×List Nat):=(true,[([],[]),([],[]),([1],[1]),([2],[2]),([3],[3]),([],[]),([5],[5]),([4,6],[4,6]),([7],[7]),([0,8],[0,8]),([9,9,0,1,2,3,4,5,6,7,8,9],[9]),([10,0,1,2,3,4,5,6,7,8,9,10],[])])
def bP.B8:List Nat:=[0,0,2,6,14,0,32,126,254,511,1023,2047]
theorem bP.yZ:gq .any (opsOf Tryz.f61 8)=bP.T8:=by kernel_rfl
theorem bP.rW:eF bP.T8.2 bP.B8=true:=by kernel_rfl
def bP.f (k:Nat) (n:Nt) (a b:Int) (x:ByteArray):Option (Nt×Bool):=if a=1 then gp.f k n b x else if x=(⟨#[]⟩:ByteArray) then (if b<0 then some (n,false) else if a=2 then (if b<(n.ks.length:Int) then (bw.f k n b).bind fun m=>some (m,true) else some (n,false)) else if a=3 then (if 0<n.ss.length then (if b<((n.ss.getD 0 []).length:Int) then (bJ.f k n 0 (aV ByteArray.empty (n.ss.getD 0 []) b)).bind fun m=>some (m,true) else some (n,false)) else none) else some (n,false)) else some (n,false)
theorem bP.calls {k:Nat} {v0 v1 v2 v3:Value} {n m:Nt} {a b:Int} {x:ByteArray} {r:Bool} {L:List SA} {w0 w:World} (hs:Sep w0 w (fH v0 v1 v2 v3 n++L)) (h:bP.f k n a b x=some (m,r)):
    Calls Tryz.prog 61 #[.agg #[v0,v1,v2,v3,.int .i64 n.sd],.agg #[.int .i64 a,.int .i64 b,.string x]] w fun e w'=>e= .returned (.tuple #[.agg #[v0,v1,v2,v3,.int .i64 m.sd],.bool r])∧Sep w0 w' (fH v0 v1 v2 v3 m++L):=by
 have mX:=Tryz.underlying27
 have Fl:=Tryz.underlying53
 obtain ⟨ks,ps,ss,ib,sd⟩:=n
 have HS:Sep w0 w (rA KI 3 v0 ks::sA KT 62 v1 ps::sA KT 62 v2 ss::sA KT 62 v3 ib::L):=hs
 clear hs
 unfold bP.f at h
 dsimp only at h⊢
 obtain ⟨A0,c0,rfl⟩:=HS.lJ 0
 obtain ⟨A1,c1,rfl⟩:=HS.jZ 1
 obtain ⟨A2,c2,rfl⟩:=HS.jZ 2
 obtain ⟨A3,c3,rfl⟩:=HS.jZ 3
 by_cases a1:a=1
 ·rw [if_pos a1] at h
  subst a1
  obtain ⟨N0,Kr,Kp,N1,Kq⟩:=m
  have T1:=ak h;clear h
  go_enter Tryz.func61,Tryz.ntmps61
  go_wp2_with (first|((with_reducible refine ax (N:=2) rfl ?_);refine cm 2 #[.slice A0 ks.length c0,.slice A1 ps.length c1,.slice A2 ss.length c2,.slice A3 ib.length c3,.int .i64 sd] 27 ?_;intro b2 cg W_ bQ bn;replace HS:=HS.box cg bQ bn;clear cg bQ bn;have fl:=aD (HS.bf 0))|((with_reducible refine ax (N:=3) rfl ?_);refine cm 3 #[.int .i64 1,.int .i64 b,.string x] 53 ?_;intro b3 cg W_ bQ bn;replace HS:=HS.box cg bQ bn;clear cg bQ bn;clear fl;have cR:=cA (HS.bf 0))|((with_reducible refine ax (N:=4) rfl ?_);refine cm 4 #[.slice none 0 0,.slice none 0 0,.slice none 0 0,.slice none 0 0,.int .i64 0] 27 ?_;intro b4 cg W_ bQ bn;replace HS:=HS.box cg bQ bn;clear cg bQ bn;clear cR;have fo:=aD (HS.bf 0);clear fo;have fo:=aD (HS.bf 0);have cR:=cA (HS.bf 1);have fl:=aD (HS.bf 2))|(go_at_call 96;have dj:=gp.calls (n:=⟨ks,ps,ss,ib,sd⟩) (HS.kG.kG.kG.kG) T1.out;refine dj.mono ?_;clear dj;rintro e W_ ⟨rfl,ij⟩;clear HS;have HS:=ij;clear ij;dsimp only [fH,List.cons_append,List.nil_append] at HS;clear fo cR fl;have fo:=aD (HS.bf 4);have cR:=cA (HS.bf 5);have fl:=aD (HS.bf 6)))
  have HF:=HS.ko 4 (.slice A0 ks.length c0) (.slice A1 ps.length c1) (.slice A2 ss.length c2) (.slice A3 ib.length c3) (.int .i64 Kq)
  refine bodyPost_ret (dI rfl _ _ b4 27 #[.slice A0 ks.length c0,.slice A1 ps.length c1,.slice A2 ss.length c2,.slice A3 ib.length c3,.int .i64 Kq] (0,0) _ rfl (by exact (HF.bf 4).out) Tryz.underlying27 rfl (by kernel_rfl)) rfl ?_
  replace HS:=HF
  replace HS:=HS.mM.tail
  replace HS:=HS.mM.tail
  replace HS:=HS.mM.tail
  exact ⟨rfl,HS⟩
 ·rw [if_neg a1] at h
  have Ym:(a==1)=false:=beq_eq_false_iff_ne.2 a1
  by_cases hx:x=(⟨#[]⟩:ByteArray)
  ·rw [if_pos hx] at h
   subst hx
   by_cases hb:b<0
   ·rw [if_pos hb] at h
    have hbb:decide (b<0)=true:=decide_eq_true hb
    clear hb a1
    obtain ⟨rfl,rfl⟩:=(Prod.mk.injEq _ _ _ _).mp (Option.some.inj h)
    clear h
    go_enter Tryz.func61,Tryz.ntmps61
    go_wp2_with (first|((with_reducible refine ax (N:=2) rfl ?_);refine cm 2 #[.slice A0 ks.length c0,.slice A1 ps.length c1,.slice A2 ss.length c2,.slice A3 ib.length c3,.int .i64 sd] 27 ?_;intro b2 cg W_ bQ bn;replace HS:=HS.box cg bQ bn;clear cg bQ bn;have fl:=aD (HS.bf 0))|((with_reducible refine ax (N:=3) rfl ?_);refine cm 3 #[.int .i64 a,.int .i64 b,.string (⟨#[]⟩:ByteArray)] 53 ?_;intro b3 cg W_ bQ bn;replace HS:=HS.box cg bQ bn;clear cg bQ bn;clear fl;have cR:=cA (HS.bf 0))|((with_reducible refine ax (N:=4) rfl ?_);refine cm 4 #[.slice none 0 0,.slice none 0 0,.slice none 0 0,.slice none 0 0,.int .i64 0] 27 ?_;intro b4 cg W_ bQ bn;replace HS:=HS.box cg bQ bn;clear cg bQ bn;clear cR;have fo:=aD (HS.bf 0);clear fo;have fo:=aD (HS.bf 0);have cR:=cA (HS.bf 1);have fl:=aD (HS.bf 2)))
    have HF:=HS.ko 0 (.slice A0 ks.length c0) (.slice A1 ps.length c1) (.slice A2 ss.length c2) (.slice A3 ib.length c3) (.int .i64 sd)
    refine bodyPost_ret (dI rfl _ _ b4 27 #[.slice A0 ks.length c0,.slice A1 ps.length c1,.slice A2 ss.length c2,.slice A3 ib.length c3,.int .i64 sd] (0,0) _ rfl (by exact (HF.bf 0).out) Tryz.underlying27 rfl (by kernel_rfl)) rfl ?_
    replace HS:=HF
    replace HS:=HS.tail
    replace HS:=HS.tail
    replace HS:=HS.tail
    exact ⟨rfl,HS⟩
   ·rw [if_neg hb] at h
    have hbb:decide (b<0)=false:=decide_eq_false hb
    have ZK:0≤b:=by omega
    clear hb
    by_cases a2:a=2
    ·rw [if_pos a2] at h
     subst a2
     clear a1 Ym
     by_cases hl:b<(ks.length:Int)
     ·rw [if_pos hl] at h
      have hlb:decide (b<(ks.length:Int))=true:=decide_eq_true hl
      clear hl
      replace h:=bS h;obtain ⟨⟨N0,Kr,Kp,N1,Kq⟩,T1,h⟩:=h
      obtain ⟨e1,e3⟩:=bw.keeps T1.out
      dsimp only at e1 e3
      replace e1:=e1.symm;replace e3:=e3.symm
      subst e1 e3
      obtain ⟨rfl,rfl⟩:=(Prod.mk.injEq _ _ _ _).mp (Option.some.inj h)
      clear h
      go_enter Tryz.func61,Tryz.ntmps61
      go_wp2_with (first|((with_reducible refine ax (N:=2) rfl ?_);refine cm 2 #[.slice A0 ks.length c0,.slice A1 ps.length c1,.slice A2 ss.length c2,.slice A3 ib.length c3,.int .i64 sd] 27 ?_;intro b2 cg W_ bQ bn;replace HS:=HS.box cg bQ bn;clear cg bQ bn;have fl:=aD (HS.bf 0))|((with_reducible refine ax (N:=3) rfl ?_);refine cm 3 #[.int .i64 2,.int .i64 b,.string (⟨#[]⟩:ByteArray)] 53 ?_;intro b3 cg W_ bQ bn;replace HS:=HS.box cg bQ bn;clear cg bQ bn;clear fl;have cR:=cA (HS.bf 0))|((with_reducible refine ax (N:=4) rfl ?_);refine cm 4 #[.slice none 0 0,.slice none 0 0,.slice none 0 0,.slice none 0 0,.int .i64 0] 27 ?_;intro b4 cg W_ bQ bn;replace HS:=HS.box cg bQ bn;clear cg bQ bn;clear cR;have fo:=aD (HS.bf 0);clear fo;have fo:=aD (HS.bf 0);have cR:=cA (HS.bf 1);have fl:=aD (HS.bf 2))|(go_at_call 53;have dj:=bw.calls (n:=⟨ks,ps,ss,ib,sd⟩) (HS.kG.kG.kG.kG) T1.out;refine dj.mono ?_;clear dj;rintro e W_ ⟨rfl,ij⟩;clear HS;have HS:=ij;clear ij;dsimp only [fH,List.cons_append,List.nil_append] at HS;clear fo cR fl;have fo:=aD (HS.bf 4);have cR:=cA (HS.bf 5);have fl:=aD (HS.bf 6)))
      have HF:=HS.ko 4 (.slice A0 ks.length c0) (.slice A1 ps.length c1) (.slice A2 ss.length c2) (.slice A3 ib.length c3) (.int .i64 sd)
      refine bodyPost_ret (dI rfl _ _ b4 27 #[.slice A0 ks.length c0,.slice A1 ps.length c1,.slice A2 ss.length c2,.slice A3 ib.length c3,.int .i64 sd] (0,0) _ rfl (by exact (HF.bf 4).out) Tryz.underlying27 rfl (by kernel_rfl)) rfl ?_
      replace HS:=HF
      replace HS:=HS.mM.tail
      replace HS:=HS.mM.tail
      replace HS:=HS.mM.tail
      exact ⟨rfl,HS⟩
     ·rw [if_neg hl] at h
      have hlb:decide (b<(ks.length:Int))=false:=decide_eq_false hl
      clear hl
      obtain ⟨rfl,rfl⟩:=(Prod.mk.injEq _ _ _ _).mp (Option.some.inj h)
      clear h
      go_enter Tryz.func61,Tryz.ntmps61
      go_upto_region 7 with (first|((with_reducible refine ax (N:=2) rfl ?_);refine cm 2 #[.slice A0 ks.length c0,.slice A1 ps.length c1,.slice A2 ss.length c2,.slice A3 ib.length c3,.int .i64 sd] 27 ?_;intro b2 cg W_ bQ bn;replace HS:=HS.box cg bQ bn;clear cg bQ bn;have fl:=aD (HS.bf 0))|((with_reducible refine ax (N:=3) rfl ?_);refine cm 3 #[.int .i64 2,.int .i64 b,.string (⟨#[]⟩:ByteArray)] 53 ?_;intro b3 cg W_ bQ bn;replace HS:=HS.box cg bQ bn;clear cg bQ bn;clear fl;have cR:=cA (HS.bf 0))|((with_reducible refine ax (N:=4) rfl ?_);refine cm 4 #[.slice none 0 0,.slice none 0 0,.slice none 0 0,.slice none 0 0,.int .i64 0] 27 ?_;intro b4 cg W_ bQ bn;replace HS:=HS.box cg bQ bn;clear cg bQ bn;clear cR;have fo:=aD (HS.bf 0);clear fo;have fo:=aD (HS.bf 0);have cR:=cA (HS.bf 1);have fl:=aD (HS.bf 2)))
      go_upto_region 7 with fail
      clear fo cR fl
      have fo:=aD (HS.bf 0)
      have cR:=cA (HS.bf 1)
      have fl:=aD (HS.bf 2)
      refine ef (n:=14) (S:=fun w'=>w'.cell? ⟨b4,0,none⟩=some (.slice none 0 0)∧w'.cell? ⟨b4,1,none⟩=some (.slice none 0 0)∧w'.cell? ⟨b4,2,none⟩=some (.slice none 0 0)∧w'.cell? ⟨b4,3,none⟩=some (.slice none 0 0)∧w'.cell? ⟨b4,4,none⟩=some (.int .i64 0)∧w'.cell? ⟨b3,0,none⟩=some (.int .i64 2)∧w'.cell? ⟨b3,1,none⟩=some (.int .i64 b)∧w'.cell? ⟨b3,2,none⟩=some (.string (⟨#[]⟩:ByteArray))∧w'.cell? ⟨b2,0,none⟩=some (.slice A0 ks.length c0)∧w'.cell? ⟨b2,1,none⟩=some (.slice A1 ps.length c1)∧w'.cell? ⟨b2,2,none⟩=some (.slice A2 ss.length c2)∧w'.cell? ⟨b2,3,none⟩=some (.slice A3 ib.length c3)∧w'.cell? ⟨b2,4,none⟩=some (.int .i64 sd)) (ds:=[]) (bl 14 0) (by kernel_rfl) rfl rfl ⟨fo.1,fo.2.1,fo.2.2.1,fo.2.2.2.1,fo.2.2.2.2.1,cR.1,cR.2.1,cR.2.2.1,fl.1,fl.2.1,fl.2.2.1,fl.2.2.2.1,fl.2.2.2.2.1⟩ (fun an=> ?_);refine bW bP.Of bP.Io (fun aC eE=> ?_)
      clear fo cR fl
      replace HS:=HS.drew
      generalize World.drew _=vO at HS an⊢
      refine ag 0 (some 45) 14 1 aC ?_
      refine cl 1 (some 46) 14 3 aC eE an ?_ (hy:=by rintro w' ⟨s0,s1,s2,s3,s4,s5,s6,s7,s8,s9,OH,OG,OF⟩;go_simp;with_reducible rfl)
      refine ag 2 (some 47) 14 7 aC ?_
      refine ag 3 (some 48) 14 15 aC ?_
      try simp only [show ((2:Int)==3)=false from rfl]
      refine cG 4 (some 49) 14 31 aC ?_
      refine cG 5 (some 50) 14 63 aC ?_
      refine cG 6 (some 51) 14 127 aC ?_
      refine cG 7 (some 52) 14 255 aC ?_
      refine cG 8 (some 53) 14 511 aC ?_
      refine cG 9 (some 54) 14 1023 aC ?_
      refine cG 10 (some 55) 14 2047 aC ?_
      refine cG 11 (some 56) 14 4095 aC ?_
      refine ag 12 (some 57) 14 8191 aC ?_
      refine ag 13 (some 44) 14 16383 aC ?_
      refine fm (cW aC.out (by kernel_rfl)) ?_
      clear aC eE an
      have fo:=aD (HS.bf 0)
      have cR:=cA (HS.bf 1)
      have fl:=aD (HS.bf 2)
      go_wp2
      have HF:=HS.ko 0 (.slice A0 ks.length c0) (.slice A1 ps.length c1) (.slice A2 ss.length c2) (.slice A3 ib.length c3) (.int .i64 sd)
      refine bodyPost_ret (dI rfl _ _ b4 27 #[.slice A0 ks.length c0,.slice A1 ps.length c1,.slice A2 ss.length c2,.slice A3 ib.length c3,.int .i64 sd] (0,0) _ rfl (by exact (HF.bf 0).out) Tryz.underlying27 rfl (by kernel_rfl)) rfl ?_
      replace HS:=HF
      replace HS:=HS.tail
      replace HS:=HS.tail
      replace HS:=HS.tail
      exact ⟨rfl,HS⟩
    ·rw [if_neg a2] at h
     have ha2:(a==2)=false:=beq_eq_false_iff_ne.2 a2
     by_cases a3:a=3
     ·rw [if_pos a3] at h
      subst a3
      clear a1 Ym a2 ha2
      replace h:=cZ h;obtain ⟨oX,h⟩:=h
      obtain ⟨g2,q2,e⟩:=HS.addr 2 (hx:=oX)
      obtain rfl:A2=some ⟨g2,0,none⟩:=by injection e
      clear e
      have j0:(0:Int)≤0:=Int.le_refl 0
      have j1:(0:Int)<(ss.length:Int):=by omega
      have XK:(0<(ss.length:Int))=True:=eq_true j1
      have pj2:(0<ss.length)=True:=eq_true oX
      obtain ⟨AS,qS,HS,-,-⟩:=HS.mN.zf 0 j0 j1
      have Qs:ss.getD (0:Int).toNat []=ss.getD 0 []:=rfl
      rw [Qs] at HS
      generalize hS:ss.getD 0 []=S at HS h Qs
      have GS:=ak Qs;clear Qs hS
      by_cases P7:b<(S.length:Int)
      ·rw [if_pos P7] at h
       have hlb:decide (b<(S.length:Int))=true:=decide_eq_true P7
       replace h:=bS h;obtain ⟨⟨N0,Kr,Kp,N1,Kq⟩,T1,h⟩:=h
       obtain ⟨e1,e2,e3⟩:=bJ.keeps T1.out
       dsimp only at e1 e2 e3
       replace e1:=e1.symm;replace e2:=e2.symm;replace e3:=e3.symm
       subst e1 e2 e3
       obtain ⟨rfl,rfl⟩:=(Prod.mk.injEq _ _ _ _).mp (Option.some.inj h)
       clear h
       generalize rE:aV ByteArray.empty S b=s at T1
       go_enter Tryz.func61,Tryz.ntmps61
       go_upto_region 7 with (first|((with_reducible refine ax (N:=2) rfl ?_);refine cm 2 #[.slice A0 ks.length c0,.slice A1 ps.length c1,.slice (some ⟨g2,0,none⟩) ss.length c2,.slice A3 ib.length c3,.int .i64 sd] 27 ?_;intro b2 cg W_ bQ bn;replace HS:=HS.box cg bQ bn;clear cg bQ bn;have fl:=aD (HS.bf 0))|((with_reducible refine ax (N:=3) rfl ?_);refine cm 3 #[.int .i64 3,.int .i64 b,.string (⟨#[]⟩:ByteArray)] 53 ?_;intro b3 cg W_ bQ bn;replace HS:=HS.box cg bQ bn;clear cg bQ bn;clear fl;have cR:=cA (HS.bf 0))|((with_reducible refine ax (N:=4) rfl ?_);refine cm 4 #[.slice none 0 0,.slice none 0 0,.slice none 0 0,.slice none 0 0,.int .i64 0] 27 ?_;intro b4 cg W_ bQ bn;replace HS:=HS.box cg bQ bn;clear cg bQ bn;clear cR;have fo:=aD (HS.bf 0);clear fo;have fo:=aD (HS.bf 0);have cR:=cA (HS.bf 1);have fl:=aD (HS.bf 2)))
       go_upto_region 7 with fail
       clear fo cR fl
       have fo:=aD (HS.bf 0)
       have cR:=cA (HS.bf 1)
       have fl:=aD (HS.bf 2)
       obtain ⟨gf,iR⟩:=HS.ya.hole j0 j1
       refine ef (n:=14) (S:=fun w'=>w'.cell? ⟨b4,0,none⟩=some (.slice none 0 0)∧w'.cell? ⟨b4,1,none⟩=some (.slice none 0 0)∧w'.cell? ⟨b4,2,none⟩=some (.slice none 0 0)∧w'.cell? ⟨b4,3,none⟩=some (.slice none 0 0)∧w'.cell? ⟨b4,4,none⟩=some (.int .i64 0)∧w'.cell? ⟨b3,0,none⟩=some (.int .i64 3)∧w'.cell? ⟨b3,1,none⟩=some (.int .i64 b)∧w'.cell? ⟨b3,2,none⟩=some (.string (⟨#[]⟩:ByteArray))∧w'.cell? ⟨b2,0,none⟩=some (.slice A0 ks.length c0)∧w'.cell? ⟨b2,1,none⟩=some (.slice A1 ps.length c1)∧w'.cell? ⟨b2,2,none⟩=some (.slice (some ⟨g2,0,none⟩) ss.length c2)∧w'.cell? ⟨b2,3,none⟩=some (.slice A3 ib.length c3)∧w'.cell? ⟨b2,4,none⟩=some (.int .i64 sd)∧w'.cell? ⟨g2,0,none⟩=some (.slice AS S.length qS)) (ds:=[]) (bl 14 0) (by kernel_rfl) rfl rfl ⟨fo.1,fo.2.1,fo.2.2.1,fo.2.2.2.1,fo.2.2.2.2.1,cR.1,cR.2.1,cR.2.2.1,fl.1,fl.2.1,fl.2.2.1,fl.2.2.2.1,fl.2.2.2.2.1,gf⟩ (fun an=> ?_);refine bW bP.Of bP.Io (fun aC eE=> ?_)
       clear fo cR fl gf iR
       replace HS:=HS.drew
       generalize World.drew _=vO at HS an⊢
       refine ag 0 (some 45) 14 1 aC ?_
       refine cl 1 (some 46) 14 3 aC eE an ?_ (hy:=by rintro w' ⟨s0,s1,s2,s3,s4,s5,s6,s7,s8,s9,OH,OG,OF,SN⟩;go_simp;with_reducible rfl)
       refine ag 2 (some 47) 14 7 aC ?_
       refine ag 3 (some 48) 14 15 aC ?_
       try simp only [show ((3:Int)==3)=true from rfl]
       refine ag 4 (some 49) 14 31 aC ?_
       refine cl 5 (some 50) 14 63 aC eE an ?_ (hy:=by rintro w' ⟨s0,s1,s2,s3,s4,s5,s6,s7,s8,s9,OH,OG,OF,SN⟩;go_simp;with_reducible rfl)
       refine ag 6 (some 51) 14 127 aC ?_
       refine cl 7 (some 52) 14 255 aC eE an ?_ (hy:=by rintro w' ⟨s0,s1,s2,s3,s4,s5,s6,s7,s8,s9,OH,OG,OF,SN⟩;go_simp;with_reducible rfl)
       refine ag 8 (some 53) 14 511 aC ?_
       refine cl 9 (some 54) 14 1023 aC eE an ?_ (hy:=by rintro w' ⟨s0,s1,s2,s3,s4,s5,s6,s7,s8,s9,OH,OG,OF,SN⟩;go_simp;with_reducible rfl)
       refine ag 10 (some 55) 14 2047 aC ?_
       refine ag 11 (some 56) 14 4095 aC ?_
       refine ag 12 (some 57) 14 8191 aC ?_
       refine ag 13 (some 44) 14 16383 aC ?_
       refine fm (cW aC.out (by kernel_rfl)) ?_
       clear aC eE an
       have fo:=aD (HS.bf 0)
       have cR:=cA (HS.bf 1)
       have fl:=aD (HS.bf 2)
       obtain ⟨gS,qS',e⟩:=HS.vN 4 (hx:=by omega)
       obtain rfl:AS=some ⟨gS,0,none⟩:=by injection e
       clear e
       go_upto_region 8 with fail
       have pb0:(0≤b)=True:=eq_true ZK
       have pb1:(b<(S.length:Int))=True:=eq_true P7
       go_upto_region 8 with fail
       clear fo cR fl
       have cR:=cA (HS.bf 1)
       have fl:=aD (HS.bf 2)
       obtain ⟨gf,iR⟩:=HS.ya.hole j0 j1
       have Tv:=HS.cellS 4 (n:=S.length) b ZK P7
       rw [rE] at Tv
       refine ef (n:=12) (S:=fun w'=>w'.cell? ⟨b3,0,none⟩=some (.int .i64 3)∧w'.cell? ⟨b3,1,none⟩=some (.int .i64 b)∧w'.cell? ⟨b3,2,none⟩=some (.string (⟨#[]⟩:ByteArray))∧w'.cell? ⟨b2,0,none⟩=some (.slice A0 ks.length c0)∧w'.cell? ⟨b2,1,none⟩=some (.slice A1 ps.length c1)∧w'.cell? ⟨b2,2,none⟩=some (.slice (some ⟨g2,0,none⟩) ss.length c2)∧w'.cell? ⟨b2,3,none⟩=some (.slice A3 ib.length c3)∧w'.cell? ⟨b2,4,none⟩=some (.int .i64 sd)∧w'.cell? ⟨g2,0,none⟩=some (.slice (some ⟨gS,0,none⟩) S.length qS)∧w'.cell? ⟨gS,b.toNat,none⟩=some (.string s)) (ds:=[9,10]) (bl 12 0) (by kernel_rfl) rfl rfl ⟨cR.1,cR.2.1,cR.2.2.1,fl.1,fl.2.1,fl.2.2.1,fl.2.2.2.1,fl.2.2.2.2.1,gf,Tv⟩ (fun an=> ?_);refine bW bP.yZ bP.rW (fun aC eE=> ?_)
       clear cR fl gf iR Tv
       replace HS:=HS.drew
       generalize World.drew _=vO at HS an⊢
       refine cl 0 (some 58) 12 1 aC eE an ?_ (hy:=by rintro w' ⟨s0,s1,s2,s3,s4,s5,s6,s7,s8,s9⟩;go_simp;with_reducible rfl)
       refine ag 1 (some 59) 12 3 aC ?_
       refine cl 2 (some 60) 12 7 aC eE an ?_ (hy:=by rintro w' ⟨s0,s1,s2,s3,s4,s5,s6,s7,s8,s9⟩;go_simp;with_reducible rfl)
       refine ag 3 (some 61) 12 15 aC ?_
       refine cl 4 (some 62) 12 31 aC eE an ?_ (hy:=by rintro w' ⟨s0,s1,s2,s3,s4,s5,s6,s7,s8,s9⟩;go_simp;with_reducible rfl)
       refine ag 5 (some 63) 12 63 aC ?_
       refine cl 6 (some 64) 12 127 aC eE an ?_ (hy:=by rintro w' ⟨s0,s1,s2,s3,s4,s5,s6,s7,s8,s9⟩;go_simp;with_reducible rfl)
       refine ag 7 (some 65) 12 255 aC ?_
       refine cl 8 (some 66) 12 511 aC eE an ?_ (hy:=by rintro w' ⟨s0,s1,s2,s3,s4,s5,s6,s7,s8,s9⟩;go_simp;with_reducible rfl)
       replace HS:=HS.mM.mM.rY GS
       refine mm (i:=9) (N:=(some 67)) (bl 12 1023) rfl rfl (jH aC.out (by kernel_rfl)) (by decide) (fun K hK=> ?_)
       clear an
       refine gw Tryz.func89 (by kernel_rfl) rfl #[.agg #[.slice A0 ks.length c0,.slice A1 ps.length c1,.slice (some ⟨g2,0,none⟩) ss.length c2,.slice A3 ib.length c3,.int .i64 sd],.int .i64 0,.string s] (by rfl) rfl rfl (by (try simp only [List.map_toArray,List.map_cons,List.map_nil]);first|done|rfl) ?_
       have dj:=bJ.calls (n:=⟨ks,ps,ss,ib,sd⟩) (HS.kG.m7.kG.kG) T1.out
       refine dj.mono ?_
       clear dj
       rintro e W_ ⟨rfl,ij⟩
       refine ⟨_,rfl,?_⟩
       clear HS
       have HS:=ij
       clear ij
       dsimp only [fH,List.cons_append,List.nil_append] at HS
       refine hK.out _ _ ?_
       clear hK K
       refine dF (a':= ?_) ?_ ?_
       rotate_left
       ·show Act.put _ (some 67) _=_
        simp only [Act.put,List.setIfInBounds_toArray,List.set_cons_zero,List.set_cons_succ,bX,cL]
        rfl
       refine mm (i:=10) (N:=none) (bl 12 2047) rfl rfl (jH aC.out (by kernel_rfl)) (by decide) (fun K hK=> ?_)
       have fo:=aD (HS.bf 4)
       refine kW (w1:= ?_) (by rfl) rfl ?_ ?_
       rotate_left
       ·go_simp
        rfl
       clear fo
       replace HS:=HS.ko 4 (.slice A0 ks.length c0) (.slice A1 ps.length c1) (.slice (some ⟨g2,0,none⟩) ss.length c2) (.slice A3 ib.length c3) (.int .i64 sd)
       refine hK.out _ _ ?_
       clear hK K
       obtain ⟨uI,iW,iZ⟩:=HS.gen
       rw [iW]
       clear HS iW
       have HS:=iZ
       clear iZ
       refine ag 11 (some 5) 12 4095 aC ?_
       refine fm (cW aC.out (by kernel_rfl)) ?_
       clear aC eE
       go_wp2
       refine bodyPost_ret (dI rfl _ _ b4 27 #[.slice A0 ks.length c0,.slice A1 ps.length c1,.slice (some ⟨g2,0,none⟩) ss.length c2,.slice A3 ib.length c3,.int .i64 sd] (0,0) _ rfl (by exact (HS.bf 4).out) Tryz.underlying27 rfl (by kernel_rfl)) rfl ?_
       replace HS:=HS.mM.tail
       replace HS:=HS.mM.tail
       replace HS:=HS.mM.tail
       exact ⟨rfl,HS⟩
      ·rw [if_neg P7] at h
       have hlb:decide (b<(S.length:Int))=false:=decide_eq_false P7
       obtain ⟨rfl,rfl⟩:=(Prod.mk.injEq _ _ _ _).mp (Option.some.inj h)
       clear h
       go_enter Tryz.func61,Tryz.ntmps61
       go_upto_region 7 with (first|((with_reducible refine ax (N:=2) rfl ?_);refine cm 2 #[.slice A0 ks.length c0,.slice A1 ps.length c1,.slice (some ⟨g2,0,none⟩) ss.length c2,.slice A3 ib.length c3,.int .i64 sd] 27 ?_;intro b2 cg W_ bQ bn;replace HS:=HS.box cg bQ bn;clear cg bQ bn;have fl:=aD (HS.bf 0))|((with_reducible refine ax (N:=3) rfl ?_);refine cm 3 #[.int .i64 3,.int .i64 b,.string (⟨#[]⟩:ByteArray)] 53 ?_;intro b3 cg W_ bQ bn;replace HS:=HS.box cg bQ bn;clear cg bQ bn;clear fl;have cR:=cA (HS.bf 0))|((with_reducible refine ax (N:=4) rfl ?_);refine cm 4 #[.slice none 0 0,.slice none 0 0,.slice none 0 0,.slice none 0 0,.int .i64 0] 27 ?_;intro b4 cg W_ bQ bn;replace HS:=HS.box cg bQ bn;clear cg bQ bn;clear cR;have fo:=aD (HS.bf 0);clear fo;have fo:=aD (HS.bf 0);have cR:=cA (HS.bf 1);have fl:=aD (HS.bf 2)))
       go_upto_region 7 with fail
       clear fo cR fl
       have fo:=aD (HS.bf 0)
       have cR:=cA (HS.bf 1)
       have fl:=aD (HS.bf 2)
       obtain ⟨gf,iR⟩:=HS.ya.hole j0 j1
       refine ef (n:=14) (S:=fun w'=>w'.cell? ⟨b4,0,none⟩=some (.slice none 0 0)∧w'.cell? ⟨b4,1,none⟩=some (.slice none 0 0)∧w'.cell? ⟨b4,2,none⟩=some (.slice none 0 0)∧w'.cell? ⟨b4,3,none⟩=some (.slice none 0 0)∧w'.cell? ⟨b4,4,none⟩=some (.int .i64 0)∧w'.cell? ⟨b3,0,none⟩=some (.int .i64 3)∧w'.cell? ⟨b3,1,none⟩=some (.int .i64 b)∧w'.cell? ⟨b3,2,none⟩=some (.string (⟨#[]⟩:ByteArray))∧w'.cell? ⟨b2,0,none⟩=some (.slice A0 ks.length c0)∧w'.cell? ⟨b2,1,none⟩=some (.slice A1 ps.length c1)∧w'.cell? ⟨b2,2,none⟩=some (.slice (some ⟨g2,0,none⟩) ss.length c2)∧w'.cell? ⟨b2,3,none⟩=some (.slice A3 ib.length c3)∧w'.cell? ⟨b2,4,none⟩=some (.int .i64 sd)∧w'.cell? ⟨g2,0,none⟩=some (.slice AS S.length qS)) (ds:=[]) (bl 14 0) (by kernel_rfl) rfl rfl ⟨fo.1,fo.2.1,fo.2.2.1,fo.2.2.2.1,fo.2.2.2.2.1,cR.1,cR.2.1,cR.2.2.1,fl.1,fl.2.1,fl.2.2.1,fl.2.2.2.1,fl.2.2.2.2.1,gf⟩ (fun an=> ?_);refine bW bP.Of bP.Io (fun aC eE=> ?_)
       clear fo cR fl gf iR
       replace HS:=HS.drew
       generalize World.drew _=vO at HS an⊢
       refine ag 0 (some 45) 14 1 aC ?_
       refine cl 1 (some 46) 14 3 aC eE an ?_ (hy:=by rintro w' ⟨s0,s1,s2,s3,s4,s5,s6,s7,s8,s9,OH,OG,OF,SN⟩;go_simp;with_reducible rfl)
       refine ag 2 (some 47) 14 7 aC ?_
       refine ag 3 (some 48) 14 15 aC ?_
       try simp only [show ((3:Int)==3)=true from rfl]
       refine ag 4 (some 49) 14 31 aC ?_
       refine cl 5 (some 50) 14 63 aC eE an ?_ (hy:=by rintro w' ⟨s0,s1,s2,s3,s4,s5,s6,s7,s8,s9,OH,OG,OF,SN⟩;go_simp;with_reducible rfl)
       refine ag 6 (some 51) 14 127 aC ?_
       refine cl 7 (some 52) 14 255 aC eE an ?_ (hy:=by rintro w' ⟨s0,s1,s2,s3,s4,s5,s6,s7,s8,s9,OH,OG,OF,SN⟩;go_simp;with_reducible rfl)
       refine ag 8 (some 53) 14 511 aC ?_
       refine cl 9 (some 54) 14 1023 aC eE an ?_ (hy:=by rintro w' ⟨s0,s1,s2,s3,s4,s5,s6,s7,s8,s9,OH,OG,OF,SN⟩;go_simp;with_reducible rfl)
       refine ag 10 (some 55) 14 2047 aC ?_
       refine ag 11 (some 56) 14 4095 aC ?_
       refine ag 12 (some 57) 14 8191 aC ?_
       refine ag 13 (some 44) 14 16383 aC ?_
       refine fm (cW aC.out (by kernel_rfl)) ?_
       clear aC eE an
       have fo:=aD (HS.bf 0)
       have cR:=cA (HS.bf 1)
       have fl:=aD (HS.bf 2)
       go_wp2
       replace HS:=HS.mM.mM.rY GS
       have HF:=HS.ko 1 (.slice A0 ks.length c0) (.slice A1 ps.length c1) (.slice (some ⟨g2,0,none⟩) ss.length c2) (.slice A3 ib.length c3) (.int .i64 sd)
       refine bodyPost_ret (dI rfl _ _ b4 27 #[.slice A0 ks.length c0,.slice A1 ps.length c1,.slice (some ⟨g2,0,none⟩) ss.length c2,.slice A3 ib.length c3,.int .i64 sd] (0,0) _ rfl (by exact (HF.bf 1).out) Tryz.underlying27 rfl (by kernel_rfl)) rfl ?_
       replace HS:=HF
       replace HS:=HS.m7.tail
       replace HS:=HS.m7.tail
       replace HS:=HS.m7.tail
       exact ⟨rfl,HS.ya.m7.ya.ya⟩
     ·rw [if_neg a3] at h
      have ha3:(a==3)=false:=beq_eq_false_iff_ne.2 a3
      clear a1 a2 a3
      obtain ⟨rfl,rfl⟩:=(Prod.mk.injEq _ _ _ _).mp (Option.some.inj h)
      clear h
      go_enter Tryz.func61,Tryz.ntmps61
      go_upto_region 7 with (first|((with_reducible refine ax (N:=2) rfl ?_);refine cm 2 #[.slice A0 ks.length c0,.slice A1 ps.length c1,.slice A2 ss.length c2,.slice A3 ib.length c3,.int .i64 sd] 27 ?_;intro b2 cg W_ bQ bn;replace HS:=HS.box cg bQ bn;clear cg bQ bn;have fl:=aD (HS.bf 0))|((with_reducible refine ax (N:=3) rfl ?_);refine cm 3 #[.int .i64 a,.int .i64 b,.string (⟨#[]⟩:ByteArray)] 53 ?_;intro b3 cg W_ bQ bn;replace HS:=HS.box cg bQ bn;clear cg bQ bn;clear fl;have cR:=cA (HS.bf 0))|((with_reducible refine ax (N:=4) rfl ?_);refine cm 4 #[.slice none 0 0,.slice none 0 0,.slice none 0 0,.slice none 0 0,.int .i64 0] 27 ?_;intro b4 cg W_ bQ bn;replace HS:=HS.box cg bQ bn;clear cg bQ bn;clear cR;have fo:=aD (HS.bf 0);clear fo;have fo:=aD (HS.bf 0);have cR:=cA (HS.bf 1);have fl:=aD (HS.bf 2)))
      go_upto_region 7 with fail
      clear fo cR fl
      have fo:=aD (HS.bf 0)
      have cR:=cA (HS.bf 1)
      have fl:=aD (HS.bf 2)
      refine ef (n:=14) (S:=fun w'=>w'.cell? ⟨b4,0,none⟩=some (.slice none 0 0)∧w'.cell? ⟨b4,1,none⟩=some (.slice none 0 0)∧w'.cell? ⟨b4,2,none⟩=some (.slice none 0 0)∧w'.cell? ⟨b4,3,none⟩=some (.slice none 0 0)∧w'.cell? ⟨b4,4,none⟩=some (.int .i64 0)∧w'.cell? ⟨b3,0,none⟩=some (.int .i64 a)∧w'.cell? ⟨b3,1,none⟩=some (.int .i64 b)∧w'.cell? ⟨b3,2,none⟩=some (.string (⟨#[]⟩:ByteArray))∧w'.cell? ⟨b2,0,none⟩=some (.slice A0 ks.length c0)∧w'.cell? ⟨b2,1,none⟩=some (.slice A1 ps.length c1)∧w'.cell? ⟨b2,2,none⟩=some (.slice A2 ss.length c2)∧w'.cell? ⟨b2,3,none⟩=some (.slice A3 ib.length c3)∧w'.cell? ⟨b2,4,none⟩=some (.int .i64 sd)) (ds:=[]) (bl 14 0) (by kernel_rfl) rfl rfl ⟨fo.1,fo.2.1,fo.2.2.1,fo.2.2.2.1,fo.2.2.2.2.1,cR.1,cR.2.1,cR.2.2.1,fl.1,fl.2.1,fl.2.2.1,fl.2.2.2.1,fl.2.2.2.2.1⟩ (fun an=> ?_);refine bW bP.Of bP.Io (fun aC eE=> ?_)
      clear fo cR fl
      replace HS:=HS.drew
      generalize World.drew _=vO at HS an⊢
      refine ag 0 (some 45) 14 1 aC ?_
      refine cl 1 (some 46) 14 3 aC eE an ?_ (hy:=by rintro w' ⟨s0,s1,s2,s3,s4,s5,s6,s7,s8,s9,OH,OG,OF⟩;go_simp;with_reducible rfl)
      refine ag 2 (some 47) 14 7 aC ?_
      refine ag 3 (some 48) 14 15 aC ?_
      try simp only [ha3]
      refine cG 4 (some 49) 14 31 aC ?_
      refine cG 5 (some 50) 14 63 aC ?_
      refine cG 6 (some 51) 14 127 aC ?_
      refine cG 7 (some 52) 14 255 aC ?_
      refine cG 8 (some 53) 14 511 aC ?_
      refine cG 9 (some 54) 14 1023 aC ?_
      refine cG 10 (some 55) 14 2047 aC ?_
      refine cG 11 (some 56) 14 4095 aC ?_
      refine ag 12 (some 57) 14 8191 aC ?_
      refine ag 13 (some 44) 14 16383 aC ?_
      refine fm (cW aC.out (by kernel_rfl)) ?_
      clear aC eE an
      have fo:=aD (HS.bf 0)
      have cR:=cA (HS.bf 1)
      have fl:=aD (HS.bf 2)
      go_wp2
      have HF:=HS.ko 0 (.slice A0 ks.length c0) (.slice A1 ps.length c1) (.slice A2 ss.length c2) (.slice A3 ib.length c3) (.int .i64 sd)
      refine bodyPost_ret (dI rfl _ _ b4 27 #[.slice A0 ks.length c0,.slice A1 ps.length c1,.slice A2 ss.length c2,.slice A3 ib.length c3,.int .i64 sd] (0,0) _ rfl (by exact (HF.bf 0).out) Tryz.underlying27 rfl (by kernel_rfl)) rfl ?_
      replace HS:=HF
      replace HS:=HS.tail
      replace HS:=HS.tail
      replace HS:=HS.tail
      exact ⟨rfl,HS⟩
  ·rw [if_neg hx] at h
   have hxe:=nU hx
   clear hx a1
   obtain ⟨rfl,rfl⟩:=(Prod.mk.injEq _ _ _ _).mp (Option.some.inj h)
   clear h
   go_enter Tryz.func61,Tryz.ntmps61
   go_wp2_with (first|((with_reducible refine ax (N:=2) rfl ?_);refine cm 2 #[.slice A0 ks.length c0,.slice A1 ps.length c1,.slice A2 ss.length c2,.slice A3 ib.length c3,.int .i64 sd] 27 ?_;intro b2 cg W_ bQ bn;replace HS:=HS.box cg bQ bn;clear cg bQ bn;have fl:=aD (HS.bf 0))|((with_reducible refine ax (N:=3) rfl ?_);refine cm 3 #[.int .i64 a,.int .i64 b,.string x] 53 ?_;intro b3 cg W_ bQ bn;replace HS:=HS.box cg bQ bn;clear cg bQ bn;clear fl;have cR:=cA (HS.bf 0))|((with_reducible refine ax (N:=4) rfl ?_);refine cm 4 #[.slice none 0 0,.slice none 0 0,.slice none 0 0,.slice none 0 0,.int .i64 0] 27 ?_;intro b4 cg W_ bQ bn;replace HS:=HS.box cg bQ bn;clear cg bQ bn;clear cR;have fo:=aD (HS.bf 0);clear fo;have fo:=aD (HS.bf 0);have cR:=cA (HS.bf 1);have fl:=aD (HS.bf 2)))
   have HF:=HS.ko 0 (.slice A0 ks.length c0) (.slice A1 ps.length c1) (.slice A2 ss.length c2) (.slice A3 ib.length c3) (.int .i64 sd)
   refine bodyPost_ret (dI rfl _ _ b4 27 #[.slice A0 ks.length c0,.slice A1 ps.length c1,.slice A2 ss.length c2,.slice A3 ib.length c3,.int .i64 sd] (0,0) _ rfl (by exact (HF.bf 0).out) Tryz.underlying27 rfl (by kernel_rfl)) rfl ?_
   replace HS:=HF
   replace HS:=HS.tail
   replace HS:=HS.tail
   replace HS:=HS.tail
   exact ⟨rfl,HS⟩
theorem AL {w:World} {r1:List Int} {r2 r3 r4:List (List ByteArray)} {b:Bool} {e:Ending} {w':World} (h:Cj w r1 r2 r3 r4 b e w'):wW w ⟨r1,r2,r3,r4,0⟩ b e w':=by
  obtain ⟨v0,v1,v2,v3,g1,g2,g3,he,h0,h1,h2,h3,hn,hb⟩:=h
  exact ⟨v0,v1,v2,v3,he,O6 h0 h1 h2 h3 hn,hb⟩
theorem AK {k:Nat} {A0:Option Addr} {c0:Nat} {l0:List Int} {r1:List Int} {r2 r3 r4:List (List ByteArray)} {r5:Int} {r6:Bool} {w:World} (eT:KI.C w A0 l0.length l0) (fE:l0.length≤c0) (h:dV.f k l0=some (r1,r2,r3,r4,r5,r6)):
    Calls Tryz.prog 49 #[.slice A0 l0.length c0] w (wW w ⟨r1,r2,r3,r4,r5⟩ r6):=by
 unfold dV.f at h
 obtain ⟨hn,h⟩:=cZ h
 obtain ⟨r,A1,h⟩:=bS h
 have hc:=dV.ye k A0 c0 l0 r w eT fE hn A1.out
 have h:=Option.some.inj h
 cases r with
 |false=>
  obtain ⟨rfl,rfl,rfl,rfl,rfl,rfl⟩:[]=r1∧[]=r2∧[]=r3∧[]=r4∧0=r5∧false=r6:=by simpa using h
  exact hc.mono fun e w' he=>AL he
 |true=>
  obtain ⟨rfl,rfl,rfl,rfl,rfl,rfl⟩:l0=r1∧List.replicate l0.length []=r2∧List.replicate l0.length []=r3∧List.replicate 4 []=r4∧0=r5∧true=r6:=by simpa using h
  exact hc.mono fun e w' he=>AL he
def D3 (w:World) (n:Nt) (d:List Bool) (b:Bool) (e:Ending) (w':World):Prop:=∃v0 v1 v2 v3 v4:Value,e= .returned (.tuple #[.agg #[v0,v1,v2,v3,.int .i64 n.sd],v4,.bool b])∧(∃c,dD c w.heap.size w' 0 (fH v0 v1 v2 v3 n++[rA Kd.bool 4 v4 d]))∧Below w.heap.size w w'
theorem uV {w W:World} {L:List SA} {v0 v1 v2 v3 v4:Value} {n:Nt} {d:List Bool} (h:Sep w W (fH v0 v1 v2 v3 n++rA Kd.bool 4 v4 d::L)):∃c,dD c w.heap.size W 0 (fH v0 v1 v2 v3 n++[rA Kd.bool 4 v4 d]):=by
  obtain ⟨_,c,h⟩:=h
  have h':dD c w.heap.size W 0 ((fH v0 v1 v2 v3 n++[rA Kd.bool 4 v4 d])++L):=by rw [List.append_assoc];exact h
  exact ⟨c,dD.left _ h'⟩
theorem nT {w W:World} {L:List SA} (h:Sep w W L):∃c,dD c w.heap.size W 0 (fH (.slice none 0 0) (.slice none 0 0) (.slice none 0 0) (.slice none 0 0) ⟨[],[],[],[],0⟩++[rA Kd.bool 4 (.slice none 0 0) []]):=
  uV (((((h.qq Kd.bool 4).Jr KT 62).Jr KT 62).Jr KT 62).qq KI 3)
theorem tq:(Tryz.prog.info? 4).map (fun i=>(i.zero,i.size,i.bytes))=some (some (.bool false),1,1):=by kernel_rfl
theorem oH {w w1:World} {a:Addr} {v:Value} (hb:Below w.heap.size w w1) (h:w.cell? a=some v):w1.cell? a=some v:=(hb.cell (World.block_lt_of_cell? w _ h)).trans h
theorem GQ {l:List iK} {j:Nat} (h:j<l.length):l.drop j=cw l (j:Int)::l.drop (j+1):=by
  rw [List.drop_eq_getElem_cons h]
  simp [cw,List.getD_eq_getElem?_getD,List.getElem?_eq_getElem h]
def cC.T8:Bool×List (List Nat×List Nat):=(true,[([],[]),([0],[0]),([],[]),([1,2,1],[1,2]),([3],[3]),([4],[4]),([4],[4]),([],[]),([7,5,3,0,1,2,3,4,5,7],[5,7]),([6,8,0,1,2,3,4,5,6,7,8],[6])])
def cC.B8:List Nat:=[0,1,0,7,15,31,31,0,191,511]
theorem cC.yZ:gq .any (opsOf Tryz.f16 8)=cC.T8:=by kernel_rfl
theorem cC.rW:eF cC.T8.2 cC.B8=true:=by kernel_rfl
def cC.l0 (k:Nat):List iK→Nt→List Bool→Option (Nt×List Bool)
 |[],n,d=>some (n,d)
 |s::r,n,d=>(en.f k n).bind fun n1=>(bP.f k n1 s.f0 s.f1 s.f2).bind fun (n2,q)=>cC.l0 k r (if q=true then n2 else n) (d++[q])
def cC.f (k:Nat) (ks:List Int) (l:List iK):Option (Nt×List Bool×Bool):=(dV.f k ks).bind fun (r1,r2,r3,r4,r5,r6)=>if r6=false then some (⟨[],[],[],[],0⟩,[],false) else if 60<(l.length:Int) then some (⟨[],[],[],[],0⟩,[],false) else (cC.l0 k l ⟨r1,r2,r3,r4,r5⟩ []).bind fun (n,d)=>(en.f k n).bind fun n3=>some (n3,d,true)
theorem cC.calls {k:Nat} {A0 A1:Option Addr} {c0 c1:Nat} {ks:List Int} {l:List iK} {m:Nt} {md:List Bool} {r:Bool} {w:World} (eT:KI.C w A0 ks.length ks) (fE:ks.length≤c0) (nY:Kd.C zN w A1 l.length l) (mY:l.length≤c1) (h:cC.f k ks l=some (m,md,r)):
    Calls Tryz.prog 16 #[.slice A0 ks.length c0,.slice A1 l.length c1] w (D3 w m md r):=by
 have mX:=Tryz.underlying27
 have Fl:=Tryz.underlying53
 have fB:=ak eT;have jD:=ak fE;have pX:=ak nY;have Ed:=ak mY
 clear eT fE nY mY
 unfold cC.f at h
 have HS:=Sep.nil w
 replace h:=bS h;obtain ⟨⟨r1,r2,r3,r4,r5,r6⟩,T0,h⟩:=h
 dsimp only at h
 cases r6 with
 |false=>
  rw [if_pos rfl] at h
  obtain ⟨h1,h2⟩:=(Prod.mk.injEq _ _ _ _).mp (Option.some.inj h)
  obtain ⟨h2,h3⟩:=(Prod.mk.injEq _ _ _ _).mp h2
  clear h
  subst h1 h2 h3
  go_enter Tryz.func16,Tryz.ntmps16
  go_upto_region 2 with (first|((with_reducible refine ax (N:=4) rfl ?_);refine cm 4 #[.slice none 0 0,.slice none 0 0,.slice none 0 0,.slice none 0 0,.int .i64 0] 27 ?_;intro b4 cg W_ bQ bn;replace HS:=HS.box cg bQ bn;clear cg bQ bn;have fo:=aD (HS.bf 0))|(go_at_call 49;have dj:=AK (Kd.aH fB.out HS.base) jD.out T0.out;refine dj.mono ?_;clear dj;rintro e W_ ⟨e0,e1,e2,e3,rfl,nu,bn⟩;replace HS:=HS.news bn nu;clear nu bn;dsimp only [fH,List.cons_append,List.nil_append] at HS;obtain ⟨B0,d0,rfl⟩:=HS.lJ 0;obtain ⟨B1,d1,rfl⟩:=HS.jZ 1;obtain ⟨B2,d2,rfl⟩:=HS.jZ 2;obtain ⟨B3,d3,rfl⟩:=HS.jZ 3;clear fo;have fo:=aD (HS.bf 4))|((with_reducible refine ax (N:=7) rfl ?_);refine cm 7 #[.slice none 0 0,.slice none 0 0,.slice none 0 0,.slice none 0 0,.int .i64 0] 27 ?_;intro b7 cg W_ bQ bn;replace HS:=HS.box cg bQ bn;clear cg bQ bn;clear fo;have eV:=aD (HS.bf 0);clear eV;have eV:=aD (HS.bf 0)))
  clear eV
  obtain ⟨uI,iW,iZ⟩:=(((((HS.dg 0 0 (.slice B0 r1.length d0) #[.slice B0 r1.length d0,.slice none 0 0,.slice none 0 0,.slice none 0 0,.int .i64 0]).dg 0 1 (.slice B1 r2.length d1) #[.slice B0 r1.length d0,.slice B1 r2.length d1,.slice none 0 0,.slice none 0 0,.int .i64 0]).dg 0 2 (.slice B2 r3.length d2) #[.slice B0 r1.length d0,.slice B1 r2.length d1,.slice B2 r3.length d2,.slice none 0 0,.int .i64 0]).dg 0 3 (.slice B3 r4.length d3) #[.slice B0 r1.length d0,.slice B1 r2.length d1,.slice B2 r3.length d2,.slice B3 r4.length d3,.int .i64 0]).dg 0 4 (.int .i64 r5) #[.slice B0 r1.length d0,.slice B1 r2.length d1,.slice B2 r3.length d2,.slice B3 r4.length d3,.int .i64 r5]).gen
  rw [iW]
  clear HS iW
  have HS:=iZ
  clear iZ
  have eV:=aD (HS.bf 0)
  have fo:=aD (HS.bf 5)
  go_wp2
  have HF:=HS.ko 5 (.slice none 0 0) (.slice none 0 0) (.slice none 0 0) (.slice none 0 0) (.int .i64 0)
  refine bodyPost_ret (kX rfl _ _ b4 27 #[.slice none 0 0,.slice none 0 0,.slice none 0 0,.slice none 0 0,.int .i64 0] (0,0) _ rfl (by exact (HF.bf 5).out) Tryz.underlying27 rfl (by kernel_rfl)) rfl ?_
  exact ⟨_,_,_,_,_,rfl,nT HF,HF.base⟩
 |true=>
  rw [if_neg (by decide)] at h
  by_cases rG:60<(l.length:Int)
  ·rw [if_pos rG] at h
   have U8:decide (60<(l.length:Int))=true:=decide_eq_true rG
   clear rG
   obtain ⟨h1,h2⟩:=(Prod.mk.injEq _ _ _ _).mp (Option.some.inj h)
   obtain ⟨h2,h3⟩:=(Prod.mk.injEq _ _ _ _).mp h2
   clear h
   subst h1 h2 h3
   go_enter Tryz.func16,Tryz.ntmps16
   go_upto_region 2 with (first|((with_reducible refine ax (N:=4) rfl ?_);refine cm 4 #[.slice none 0 0,.slice none 0 0,.slice none 0 0,.slice none 0 0,.int .i64 0] 27 ?_;intro b4 cg W_ bQ bn;replace HS:=HS.box cg bQ bn;clear cg bQ bn;have fo:=aD (HS.bf 0))|(go_at_call 49;have dj:=AK (Kd.aH fB.out HS.base) jD.out T0.out;refine dj.mono ?_;clear dj;rintro e W_ ⟨e0,e1,e2,e3,rfl,nu,bn⟩;replace HS:=HS.news bn nu;clear nu bn;dsimp only [fH,List.cons_append,List.nil_append] at HS;obtain ⟨B0,d0,rfl⟩:=HS.lJ 0;obtain ⟨B1,d1,rfl⟩:=HS.jZ 1;obtain ⟨B2,d2,rfl⟩:=HS.jZ 2;obtain ⟨B3,d3,rfl⟩:=HS.jZ 3;clear fo;have fo:=aD (HS.bf 4))|((with_reducible refine ax (N:=7) rfl ?_);refine cm 7 #[.slice none 0 0,.slice none 0 0,.slice none 0 0,.slice none 0 0,.int .i64 0] 27 ?_;intro b7 cg W_ bQ bn;replace HS:=HS.box cg bQ bn;clear cg bQ bn;clear fo;have eV:=aD (HS.bf 0);clear eV;have eV:=aD (HS.bf 0)))
   clear eV
   obtain ⟨uI,iW,iZ⟩:=(((((HS.dg 0 0 (.slice B0 r1.length d0) #[.slice B0 r1.length d0,.slice none 0 0,.slice none 0 0,.slice none 0 0,.int .i64 0]).dg 0 1 (.slice B1 r2.length d1) #[.slice B0 r1.length d0,.slice B1 r2.length d1,.slice none 0 0,.slice none 0 0,.int .i64 0]).dg 0 2 (.slice B2 r3.length d2) #[.slice B0 r1.length d0,.slice B1 r2.length d1,.slice B2 r3.length d2,.slice none 0 0,.int .i64 0]).dg 0 3 (.slice B3 r4.length d3) #[.slice B0 r1.length d0,.slice B1 r2.length d1,.slice B2 r3.length d2,.slice B3 r4.length d3,.int .i64 0]).dg 0 4 (.int .i64 r5) #[.slice B0 r1.length d0,.slice B1 r2.length d1,.slice B2 r3.length d2,.slice B3 r4.length d3,.int .i64 r5]).gen
   rw [iW]
   clear HS iW
   have HS:=iZ
   clear iZ
   have eV:=aD (HS.bf 0)
   have fo:=aD (HS.bf 5)
   go_wp2
   have HF:=HS.ko 5 (.slice none 0 0) (.slice none 0 0) (.slice none 0 0) (.slice none 0 0) (.int .i64 0)
   refine bodyPost_ret (kX rfl _ _ b4 27 #[.slice none 0 0,.slice none 0 0,.slice none 0 0,.slice none 0 0,.int .i64 0] (0,0) _ rfl (by exact (HF.bf 5).out) Tryz.underlying27 rfl (by kernel_rfl)) rfl ?_
   exact ⟨_,_,_,_,_,rfl,nT HF,HF.base⟩
  ·rw [if_neg rG] at h
   have U8:decide (60<(l.length:Int))=false:=decide_eq_false rG
   have LL:=ak (show l.length≤60 by omega)
   clear rG
   replace h:=bS h;obtain ⟨⟨n2,dd⟩,T1,h⟩:=h
   dsimp only at h
   replace h:=bS h;obtain ⟨n3,T9,h⟩:=h
   obtain ⟨h1,h2⟩:=(Prod.mk.injEq _ _ _ _).mp (Option.some.inj h)
   obtain ⟨h2,h3⟩:=(Prod.mk.injEq _ _ _ _).mp h2
   clear h
   subst h1 h2 h3
   have H':=T1;clear T1
   go_enter Tryz.func16,Tryz.ntmps16
   go_upto_region 2 with (first|((with_reducible refine ax (N:=4) rfl ?_);refine cm 4 #[.slice none 0 0,.slice none 0 0,.slice none 0 0,.slice none 0 0,.int .i64 0] 27 ?_;intro b4 cg W_ bQ bn;replace HS:=HS.box cg bQ bn;clear cg bQ bn;have fo:=aD (HS.bf 0))|(go_at_call 49;have dj:=AK (Kd.aH fB.out HS.base) jD.out T0.out;refine dj.mono ?_;clear dj;rintro e W_ ⟨e0,e1,e2,e3,rfl,nu,bn⟩;replace HS:=HS.news bn nu;clear nu bn;dsimp only [fH,List.cons_append,List.nil_append] at HS;obtain ⟨B0,d0,rfl⟩:=HS.lJ 0;obtain ⟨B1,d1,rfl⟩:=HS.jZ 1;obtain ⟨B2,d2,rfl⟩:=HS.jZ 2;obtain ⟨B3,d3,rfl⟩:=HS.jZ 3;clear fo;have fo:=aD (HS.bf 4))|((with_reducible refine ax (N:=7) rfl ?_);refine cm 7 #[.slice none 0 0,.slice none 0 0,.slice none 0 0,.slice none 0 0,.int .i64 0] 27 ?_;intro b7 cg W_ bQ bn;replace HS:=HS.box cg bQ bn;clear cg bQ bn;clear fo;have eV:=aD (HS.bf 0);clear eV;have eV:=aD (HS.bf 0)))
   clear eV
   obtain ⟨uI,iW,iZ⟩:=(((((HS.dg 0 0 (.slice B0 r1.length d0) #[.slice B0 r1.length d0,.slice none 0 0,.slice none 0 0,.slice none 0 0,.int .i64 0]).dg 0 1 (.slice B1 r2.length d1) #[.slice B0 r1.length d0,.slice B1 r2.length d1,.slice none 0 0,.slice none 0 0,.int .i64 0]).dg 0 2 (.slice B2 r3.length d2) #[.slice B0 r1.length d0,.slice B1 r2.length d1,.slice B2 r3.length d2,.slice none 0 0,.int .i64 0]).dg 0 3 (.slice B3 r4.length d3) #[.slice B0 r1.length d0,.slice B1 r2.length d1,.slice B2 r3.length d2,.slice B3 r4.length d3,.int .i64 0]).dg 0 4 (.int .i64 r5) #[.slice B0 r1.length d0,.slice B1 r2.length d1,.slice B2 r3.length d2,.slice B3 r4.length d3,.int .i64 r5]).gen
   rw [iW]
   clear HS iW
   have HS:=iZ
   clear iZ
   have eV:=aD (HS.bf 0)
   have fo:=aD (HS.bf 5)
   go_wp2
   clear eV fo
   replace HS:=HS.qq Kd.bool 4
   go_loopg [9,29] l.length (fun kq v9 v29 w'=>∃(j:Nat) (n:Nt) (d:List Bool) (e0 e1 e2 e3:Value),v29= .int .i64 (j:Int)∧Aside0 (cC.l0 k (l.drop j) n d=some (n2,dd))∧j≤l.length∧l.length-j≤kq∧d.length=j∧Sep w w' (rA Kd.bool 4 v9 d::bA b7 #[e0,e1,e2,e3,.int .i64 n.sd] 27::bA b4 #[.slice none 0 0,.slice none 0 0,.slice none 0 0,.slice none 0 0,.int .i64 0] 27::rA KI 3 e0 n.ks::sA KT 62 e1 n.ps::sA KT 62 e2 n.ss::sA KT 62 e3 n.ib::[]))
   case atStart=>exact ⟨0,⟨r1,r2,r3,r4,r5⟩,[],_,_,_,_,rfl,H',Nat.zero_le _,Nat.le_refl _,rfl,HS.jI.jI.jI.jI.kG.kG.kG⟩
   case round=>
    clear HS H'
    obtain ⟨j,n,d,e0,e1,e2,e3,rfl,HA,j1,j2,Kv,HS⟩:=hrel
    have h:=HA.out;clear HA
    have HD:=ak Kv;clear Kv
    obtain ⟨E0,f0,rfl⟩:=HS.lJ 3
    obtain ⟨E1,f1,rfl⟩:=HS.jZ 4
    obtain ⟨E2,f2,rfl⟩:=HS.jZ 5
    obtain ⟨E3,f3,rfl⟩:=HS.jZ 6
    obtain ⟨A9,c9,rfl⟩:=HS.lJ 0
    by_cases hj:j<l.length
    ·have Fs:decide ((j:Int)<(l.length:Int))=true:=decide_eq_true (by omega)
     rw [GQ hj] at h
     obtain ⟨ad,e,Fk,JE,JD⟩:=oz (Kd.aH pX.out HS.base) (j:Int) (by omega) (by omega)
     cases e
     rw [Int.toNat_natCast] at Fk JE JD
     generalize cw l (j:Int)=s at h Fk JE JD
     obtain ⟨sa,sb,sx⟩:=s
     dsimp only at Fk JE JD
     have pj0:(0≤(j:Int))=True:=eq_true (by omega)
     have XK:((j:Int)<(l.length:Int))=True:=eq_true (by omega)
     simp only [cC.l0] at h
     go_upto_region 8 with (first|((with_reducible refine ax (N:=11) rfl ?_);refine cm 11 #[.int .i64 0,.int .i64 0,.string (⟨#[]⟩:ByteArray)] 53 ?_;intro wP cg W_ bQ bn;replace HS:=HS.box cg bQ bn;replace Fk:=oH bn Fk;replace JE:=oH bn JE;replace JD:=oH bn JD;clear cg bQ bn;have gb:=cA (HS.bf 0)))
     clear gb
     obtain ⟨uI,iW,iZ⟩:=(((HS.dg 0 0 (.int .i64 sa) #[.int .i64 sa,.int .i64 0,.string (⟨#[]⟩:ByteArray)]).dg 0 1 (.int .i64 sb) #[.int .i64 sa,.int .i64 sb,.string (⟨#[]⟩:ByteArray)]).dg 0 2 (.string sx) #[.int .i64 sa,.int .i64 sb,.string sx]).gen
     rw [iW]
     clear HS iW
     have HS:=iZ
     clear iZ
     clear Fk JE JD
     replace h:=bS h;obtain ⟨n1,T1,h⟩:=h
     replace h:=bS h;obtain ⟨⟨n4,q⟩,T2,h⟩:=h
     dsimp only at h T2
     go_upto_region 8 with fail
     have eV:=aD (HS.bf 2)
     have gb:=cA (HS.bf 0)
     refine ef (n:=10) (S:=fun w'=>w'.cell? ⟨b7,0,none⟩=some (.slice E0 n.ks.length f0)∧w'.cell? ⟨b7,1,none⟩=some (.slice E1 n.ps.length f1)∧w'.cell? ⟨b7,2,none⟩=some (.slice E2 n.ss.length f2)∧w'.cell? ⟨b7,3,none⟩=some (.slice E3 n.ib.length f3)∧w'.cell? ⟨b7,4,none⟩=some (.int .i64 n.sd)∧w'.cell? ⟨wP,0,none⟩=some (.int .i64 sa)∧w'.cell? ⟨wP,1,none⟩=some (.int .i64 sb)∧w'.cell? ⟨wP,2,none⟩=some (.string sx)) (ds:=[]) (bl 10 0) (by kernel_rfl) rfl rfl ⟨eV.1,eV.2.1,eV.2.2.1,eV.2.2.2.1,eV.2.2.2.2.1,gb.1,gb.2.1,gb.2.2.1⟩ (fun an=> ?_);refine bW cC.yZ cC.rW (fun aC eE=> ?_)
     clear eV gb
     replace HS:=HS.drew
     generalize World.drew _=vO at HS an⊢
     refine cl 0 (some 34) 10 1 aC eE an ?_ (hy:=by rintro w' ⟨s0,s1,s2,s3,s4,s5,s6,s7⟩;go_simp;with_reducible rfl)
     refine cl 2 (some 36) 10 5 aC eE an ?_ (hy:=by rintro w' ⟨s0,s1,s2,s3,s4,s5,s6,s7⟩;go_simp;with_reducible rfl)
     refine QO (σ:=Value×Value×Value×Value×Nat) 2 (bl 10 255) (fun s_=>[(35,.agg #[s_.1,s_.2.1,s_.2.2.1,s_.2.2.2.1,.int .i64 n1.sd]),(37,.tuple #[.agg #[s_.1,s_.2.1,s_.2.2.1,s_.2.2.2.1,.int .i64 n4.sd],.bool q]),(33,.tuple #[.agg #[s_.1,s_.2.1,s_.2.2.1,s_.2.2.2.1,.int .i64 n4.sd],.bool q]),(38,.agg #[s_.1,s_.2.1,s_.2.2.1,s_.2.2.2.1,.int .i64 n4.sd]),(39,.bool q),(12,.pointer (some ⟨s_.2.2.2.2,0,none⟩))]) (fun s_ w'=>Sep w w' (bA s_.2.2.2.2 #[.slice none 0 0,.slice none 0 0,.slice none 0 0,.slice none 0 0,.int .i64 0] 27::rA KI 3 s_.1 n4.ks::sA KT 62 s_.2.1 n4.ps::sA KT 62 s_.2.2.1 n4.ss::sA KT 62 s_.2.2.2.1 n4.ib::bA wP #[.int .i64 sa,.int .i64 sb,.string sx] 53::rA Kd.bool 4 (.slice A9 d.length c9) d::bA b7 #[.slice E0 n.ks.length f0,.slice E1 n.ps.length f1,.slice E2 n.ss.length f2,.slice E3 n.ib.length f3,.int .i64 n.sd] 27::bA b4 #[.slice none 0 0,.slice none 0 0,.slice none 0 0,.slice none 0 0,.int .i64 0] 27::rA KI 3 (.slice E0 n.ks.length f0) n.ks::sA KT 62 (.slice E1 n.ps.length f1) n.ps::sA KT 62 (.slice E2 n.ss.length f2) n.ss::sA KT 62 (.slice E3 n.ib.length f3) n.ib::[])) ?_ ?_
     rotate_left
     ·intro xW
      refine Oc (i:=1) (j:=7) (Ni:=some 35) (Nj:=some 12) (bl 10 7) (bl 10 133) rfl rfl rfl rfl (by kernel_rfl) (by decide) (by decide) (fun K hK=> ?_) (fun K hK=> ?_)
      ·skip
       refine gw Tryz.func52 (by kernel_rfl) rfl #[.agg #[.slice E0 n.ks.length f0,.slice E1 n.ps.length f1,.slice E2 n.ss.length f2,.slice E3 n.ib.length f3,.int .i64 n.sd]] (by rfl) rfl rfl (by (try simp only [List.map_toArray,List.map_cons,List.map_nil]);first|done|rfl) ?_
       have dj:=en.calls (n:=n) (rL HS 4) T1.out
       refine dj.mono ?_
       clear dj an
       rintro e W_ ⟨u0,u1,u2,u3,rfl,nu,bn⟩
       refine ⟨_,rfl,?_⟩
       replace HS:=HS.news bn nu
       clear nu bn
       dsimp only [fH,List.cons_append,List.nil_append] at HS
       have eV:=aD (HS.bf 6)
       have gb:=cA (HS.bf 4)
       refine hK.out _ _ ⟨eV.1,eV.2.1,eV.2.2.1,eV.2.2.2.1,eV.2.2.2.2.1,gb.1,gb.2.1,gb.2.2.1⟩ (fun an=> ?_)
       clear hK K eV gb
       refine dF (a':= ?_) ?_ ?_
       rotate_left
       ·show Act.put _ (some 35) _=_
        simp only [Act.put,List.setIfInBounds_toArray,List.set_cons_zero,List.set_cons_succ,bX,cL]
        rfl
       refine Oc (i:=3) (j:=7) (Ni:=some 37) (Nj:=some 12) (bl 10 15) (bl 10 135) rfl rfl rfl rfl (by kernel_rfl) (by decide) (by decide) (fun K hK=> ?_) (fun K hK=> ?_)
       ·skip
        refine gw Tryz.func61 (by kernel_rfl) rfl #[.agg #[u0,u1,u2,u3,.int .i64 n1.sd],.agg #[.int .i64 sa,.int .i64 sb,.string sx]] (by rfl) rfl rfl (by (try simp only [List.map_toArray,List.map_cons,List.map_nil]);first|done|rfl) ?_
        have dj:=bP.calls (n:=n1) (HS) T2.out
        refine dj.mono ?_
        clear dj an
        rintro e W_ ⟨rfl,ij⟩
        refine ⟨_,rfl,?_⟩
        clear HS
        have HS:=ij
        clear ij
        dsimp only [fH,List.cons_append,List.nil_append] at HS
        have eV:=aD (HS.bf 6)
        have gb:=cA (HS.bf 4)
        refine hK.out _ _ ⟨eV.1,eV.2.1,eV.2.2.1,eV.2.2.2.1,eV.2.2.2.2.1,gb.1,gb.2.1,gb.2.2.1⟩ (fun an=> ?_)
        clear hK K eV gb
        refine dF (a':= ?_) ?_ ?_
        rotate_left
        ·show Act.put _ (some 37) _=_
         simp only [Act.put,List.setIfInBounds_toArray,List.set_cons_zero,List.set_cons_succ,bX,cL]
         rfl
        refine ag 4 (some 33) 10 31 aC ?_
        refine ag 5 (some 38) 10 63 aC ?_
        refine ag 6 (some 39) 10 127 aC ?_
        refine gv 7 (some 12) 10 255 aC (fun K hK=> ?_)
        clear an
        refine ug ?hg (N:=12) ?hd (cs:= #[.slice none 0 0,.slice none 0 0,.slice none 0 0,.slice none 0 0,.int .i64 0]) (t:=27) ?hr ?_;(case hd=>rfl);(case hg=>rfl);(case hr=>first|(go_simp;done)|(go_simp;rfl))
        intro Wl cg W_ bQ bn
        replace HS:=HS.box cg bQ bn
        clear cg bQ bn
        have eV:=aD (HS.bf 7)
        have gb:=cA (HS.bf 5)
        refine hK.out _ _ ⟨eV.1,eV.2.1,eV.2.2.1,eV.2.2.2.1,eV.2.2.2.2.1,gb.1,gb.2.1,gb.2.2.1⟩ (fun an=> ?_)
        clear hK K eV gb
        refine dF (a':= ?_) ?_ ?_
        rotate_left
        ·show Act.put _ (some 12) _=_
         simp only [Act.put,List.setIfInBounds_toArray,List.set_cons_zero,List.set_cons_succ,bX,cL]
         rfl
        exact dF (by simp only [mD,Act.put,List.setIfInBounds_toArray,List.set_cons_zero,List.set_cons_succ]) (xW (u0,u1,u2,u3,Wl) _ (HS))
       ·skip
        clear an
        refine ug ?hg (N:=12) ?hd (cs:= #[.slice none 0 0,.slice none 0 0,.slice none 0 0,.slice none 0 0,.int .i64 0]) (t:=27) ?hr ?_;(case hd=>rfl);(case hg=>rfl);(case hr=>first|(go_simp;done)|(go_simp;rfl))
        intro Wl cg W_ bQ bn
        replace HS:=HS.box cg bQ bn
        clear cg bQ bn
        have eV:=aD (HS.bf 7)
        have gb:=cA (HS.bf 5)
        refine hK.out _ _ ⟨eV.1,eV.2.1,eV.2.2.1,eV.2.2.2.1,eV.2.2.2.2.1,gb.1,gb.2.1,gb.2.2.1⟩ (fun an=> ?_)
        clear hK K eV gb
        refine dF (a':= ?_) ?_ ?_
        rotate_left
        ·show Act.put _ (some 12) _=_
         simp only [Act.put,List.setIfInBounds_toArray,List.set_cons_zero,List.set_cons_succ,bX,cL]
         rfl
        refine gv 3 (some 37) 10 143 aC (fun K hK=> ?_)
        refine gw Tryz.func61 (by kernel_rfl) rfl #[.agg #[u0,u1,u2,u3,.int .i64 n1.sd],.agg #[.int .i64 sa,.int .i64 sb,.string sx]] (by rfl) rfl rfl (by (try simp only [List.map_toArray,List.map_cons,List.map_nil]);first|done|rfl) ?_
        have dj:=bP.calls (n:=n1) (HS.mM.mM.mM.mM) T2.out
        refine dj.mono ?_
        clear dj an
        rintro e W_ ⟨rfl,ij⟩
        refine ⟨_,rfl,?_⟩
        clear HS
        have HS:=ij
        clear ij
        dsimp only [fH,List.cons_append,List.nil_append] at HS
        have eV:=aD (HS.bf 7)
        have gb:=cA (HS.bf 5)
        refine hK.out _ _ ⟨eV.1,eV.2.1,eV.2.2.1,eV.2.2.2.1,eV.2.2.2.2.1,gb.1,gb.2.1,gb.2.2.1⟩ (fun an=> ?_)
        clear hK K eV gb
        refine dF (a':= ?_) ?_ ?_
        rotate_left
        ·show Act.put _ (some 37) _=_
         simp only [Act.put,List.setIfInBounds_toArray,List.set_cons_zero,List.set_cons_succ,bX,cL]
         rfl
        refine ag 4 (some 33) 10 159 aC ?_
        refine ag 5 (some 38) 10 191 aC ?_
        refine ag 6 (some 39) 10 255 aC ?_
        exact dF (by simp only [mD,Act.put,List.setIfInBounds_toArray,List.set_cons_zero,List.set_cons_succ]) (xW (u0,u1,u2,u3,Wl) _ (HS.qh.qh.qh.qh.qh.qh.qh.qh.Dt.Dt.Dt.Dt.qh))
      ·skip
       clear an
       refine ug ?hg (N:=12) ?hd (cs:= #[.slice none 0 0,.slice none 0 0,.slice none 0 0,.slice none 0 0,.int .i64 0]) (t:=27) ?hr ?_;(case hd=>rfl);(case hg=>rfl);(case hr=>first|(go_simp;done)|(go_simp;rfl))
       intro Wl cg W_ bQ bn
       replace HS:=HS.box cg bQ bn
       clear cg bQ bn
       have eV:=aD (HS.bf 3)
       have gb:=cA (HS.bf 1)
       refine hK.out _ _ ⟨eV.1,eV.2.1,eV.2.2.1,eV.2.2.2.1,eV.2.2.2.2.1,gb.1,gb.2.1,gb.2.2.1⟩ (fun an=> ?_)
       clear hK K eV gb
       refine dF (a':= ?_) ?_ ?_
       rotate_left
       ·show Act.put _ (some 12) _=_
        simp only [Act.put,List.setIfInBounds_toArray,List.set_cons_zero,List.set_cons_succ,bX,cL]
        rfl
       refine gv 1 (some 35) 10 135 aC (fun K hK=> ?_)
       refine gw Tryz.func52 (by kernel_rfl) rfl #[.agg #[.slice E0 n.ks.length f0,.slice E1 n.ps.length f1,.slice E2 n.ss.length f2,.slice E3 n.ib.length f3,.int .i64 n.sd]] (by rfl) rfl rfl (by (try simp only [List.map_toArray,List.map_cons,List.map_nil]);first|done|rfl) ?_
       have dj:=en.calls (n:=n) (rL HS 5) T1.out
       refine dj.mono ?_
       clear dj an
       rintro e W_ ⟨u0,u1,u2,u3,rfl,nu,bn⟩
       refine ⟨_,rfl,?_⟩
       replace HS:=HS.news bn nu
       clear nu bn
       dsimp only [fH,List.cons_append,List.nil_append] at HS
       have eV:=aD (HS.bf 7)
       have gb:=cA (HS.bf 5)
       refine hK.out _ _ ⟨eV.1,eV.2.1,eV.2.2.1,eV.2.2.2.1,eV.2.2.2.2.1,gb.1,gb.2.1,gb.2.2.1⟩ (fun an=> ?_)
       clear hK K eV gb
       refine dF (a':= ?_) ?_ ?_
       rotate_left
       ·show Act.put _ (some 35) _=_
        simp only [Act.put,List.setIfInBounds_toArray,List.set_cons_zero,List.set_cons_succ,bX,cL]
        rfl
       refine gv 3 (some 37) 10 143 aC (fun K hK=> ?_)
       refine gw Tryz.func61 (by kernel_rfl) rfl #[.agg #[u0,u1,u2,u3,.int .i64 n1.sd],.agg #[.int .i64 sa,.int .i64 sb,.string sx]] (by rfl) rfl rfl (by (try simp only [List.map_toArray,List.map_cons,List.map_nil]);first|done|rfl) ?_
       have dj:=bP.calls (n:=n1) (HS) T2.out
       refine dj.mono ?_
       clear dj an
       rintro e W_ ⟨rfl,ij⟩
       refine ⟨_,rfl,?_⟩
       clear HS
       have HS:=ij
       clear ij
       dsimp only [fH,List.cons_append,List.nil_append] at HS
       have eV:=aD (HS.bf 7)
       have gb:=cA (HS.bf 5)
       refine hK.out _ _ ⟨eV.1,eV.2.1,eV.2.2.1,eV.2.2.2.1,eV.2.2.2.2.1,gb.1,gb.2.1,gb.2.2.1⟩ (fun an=> ?_)
       clear hK K eV gb
       refine dF (a':= ?_) ?_ ?_
       rotate_left
       ·show Act.put _ (some 37) _=_
        simp only [Act.put,List.setIfInBounds_toArray,List.set_cons_zero,List.set_cons_succ,bX,cL]
        rfl
       refine ag 4 (some 33) 10 159 aC ?_
       refine ag 5 (some 38) 10 191 aC ?_
       refine ag 6 (some 39) 10 255 aC ?_
       exact dF (by simp only [mD,Act.put,List.setIfInBounds_toArray,List.set_cons_zero,List.set_cons_succ]) (xW (u0,u1,u2,u3,Wl) _ (HS.qh.qh.qh.qh.qh.qh.qh.qh.Dt.Dt.Dt.Dt.qh))
     clear HS an
     intro s_ W_ HS
     obtain ⟨u0,u1,u2,u3,Wl⟩:=s_
     dsimp only at HS
     have an:=True.intro
     obtain ⟨Gh,wM,rfl⟩:=HS.lJ 1
     obtain ⟨Kf,zk,rfl⟩:=HS.jZ 2
     obtain ⟨NS,Cz,rfl⟩:=HS.jZ 3
     obtain ⟨Qw,FU,rfl⟩:=HS.jZ 4
     refine dF (a':= ?_) ?_ ?_
     rotate_left
     ·show mD _ _=_
      simp only [mD,Act.put,List.setIfInBounds_toArray,List.set_cons_zero,List.set_cons_succ,bX,cL]
      rfl
     refine gv 8 none 10 511 aC (fun K hK=> ?_)
     clear an
     have N9:=aD (HS.bf 0)
     refine kW (w1:= ?_) (by rfl) rfl ?_ ?_
     rotate_left
     ·go_simp
      rfl
     replace HS:=(((((HS.dg 0 0 (.slice Gh n4.ks.length wM) #[.slice Gh n4.ks.length wM,.slice none 0 0,.slice none 0 0,.slice none 0 0,.int .i64 0]).dg 0 1 (.slice Kf n4.ps.length zk) #[.slice Gh n4.ks.length wM,.slice Kf n4.ps.length zk,.slice none 0 0,.slice none 0 0,.int .i64 0]).dg 0 2 (.slice NS n4.ss.length Cz) #[.slice Gh n4.ks.length wM,.slice Kf n4.ps.length zk,.slice NS n4.ss.length Cz,.slice none 0 0,.int .i64 0]).dg 0 3 (.slice Qw n4.ib.length FU) #[.slice Gh n4.ks.length wM,.slice Kf n4.ps.length zk,.slice NS n4.ss.length Cz,.slice Qw n4.ib.length FU,.int .i64 0]).dg 0 4 (.int .i64 n4.sd) #[.slice Gh n4.ks.length wM,.slice Kf n4.ps.length zk,.slice NS n4.ss.length Cz,.slice Qw n4.ib.length FU,.int .i64 n4.sd])
     clear N9
     have eV:=aD (HS.bf 7)
     have gb:=cA (HS.bf 5)
     refine hK.out _ _ ⟨eV.1,eV.2.1,eV.2.2.1,eV.2.2.2.1,eV.2.2.2.2.1,gb.1,gb.2.1,gb.2.2.1⟩ (fun an=> ?_)
     clear hK K eV gb
     refine ag 9 (some 13) 10 1023 aC ?_
     refine fm (cW aC.out (by kernel_rfl)) ?_
     clear aC eE an
     have N9:=aD (HS.bf 0)
     have eV:=aD (HS.bf 7)
     cases q with
     |false=>
      rw [if_neg (by decide)] at h
      go_wp2_with (first|((with_reducible refine ax (N:=44) rfl ?_);refine Kd.gy Kd.bool _ 4 ?hg (N:=44) ?hd (xs:=([false]:List Bool)) (inner:=[.bool false]) (ok:=fun _=>True) (okp:=fun _=>True) ?hr ?hp (fun _ hk=>hk) trivial (Below.refl _ _) (Nat.le_refl _) (by simp) ?_;(case hd=>rfl);(case hg=>rfl);(case hr=>first|(go_simp;done)|(go_simp;rfl));(case hp=>exact (bN.one (show Kd.M Kd.bool _ _ _ false [.bool false] from rfl) (bN.none _ _)));intro xp W_ bQ bn _ _;replace HS:=HS.new (A:=rA Kd.bool 4 xp ([false])) bn bQ;clear bQ bn;obtain ⟨A8,c8,rfl⟩:=HS.lJ 0;clear N9 eV;have eV:=aD (HS.bf 8))|((with_reducible refine cr (b:= .append) (xs:= #[.tmp 42,.tmp 44]) rfl ?_);at_builtin;have HU:=(HS.jb 0).2.2;replace HS:=HS.zU;refine Sep.uj Kd.bool rfl (.tmp 42) (.tmp 44) 36 4 (.bool false) 1 rfl Tryz.underlying36 tq rfl (by decide) (by omega) (.slice A9 d.length c9) d [false] A8 1 c8 rfl rfl HS HU (fun _ _ _ _ h=>h) (by have:=LL.out;have:=HD.out;omega) ?_;clear HS HU;intro v9' W_ HS;clear eV;have eV:=aD (HS.bf 8)))
      replace HS:=HS.m7.tail
      replace HS:=HS.m7.tail
      replace HS:=HS.m7.tail
      replace HS:=HS.m7.tail
      replace HS:=HS.m7.tail
      replace HS:=HS.m7.tail
      replace HS:=HS.m7.tail
      go_roundg (l.length-(j+1))
      case measure=>omega
      case rel=>exact ⟨j+1,_,_,_,_,_,_,gm hj (Nat.le_trans LL.out (by decide)),⟨h⟩,hj,Nat.le_refl _,by rw [List.length_append,HD.out];rfl,HS⟩
     |true=>
      rw [if_pos rfl] at h
      go_upto_region 11 with fail
      clear N9 eV
      obtain ⟨uI,iW,iZ⟩:=(((((HS.dg 7 0 (.slice Gh n4.ks.length wM) #[.slice Gh n4.ks.length wM,.slice E1 n.ps.length f1,.slice E2 n.ss.length f2,.slice E3 n.ib.length f3,.int .i64 n.sd]).dg 7 1 (.slice Kf n4.ps.length zk) #[.slice Gh n4.ks.length wM,.slice Kf n4.ps.length zk,.slice E2 n.ss.length f2,.slice E3 n.ib.length f3,.int .i64 n.sd]).dg 7 2 (.slice NS n4.ss.length Cz) #[.slice Gh n4.ks.length wM,.slice Kf n4.ps.length zk,.slice NS n4.ss.length Cz,.slice E3 n.ib.length f3,.int .i64 n.sd]).dg 7 3 (.slice Qw n4.ib.length FU) #[.slice Gh n4.ks.length wM,.slice Kf n4.ps.length zk,.slice NS n4.ss.length Cz,.slice Qw n4.ib.length FU,.int .i64 n.sd]).dg 7 4 (.int .i64 n4.sd) #[.slice Gh n4.ks.length wM,.slice Kf n4.ps.length zk,.slice NS n4.ss.length Cz,.slice Qw n4.ib.length FU,.int .i64 n4.sd]).gen
      rw [iW]
      clear HS iW
      have HS:=iZ
      clear iZ
      have eV:=aD (HS.bf 7)
      go_wp2_with (first|((with_reducible refine ax (N:=44) rfl ?_);refine Kd.gy Kd.bool _ 4 ?hg (N:=44) ?hd (xs:=([true]:List Bool)) (inner:=[.bool true]) (ok:=fun _=>True) (okp:=fun _=>True) ?hr ?hp (fun _ hk=>hk) trivial (Below.refl _ _) (Nat.le_refl _) (by simp) ?_;(case hd=>rfl);(case hg=>rfl);(case hr=>first|(go_simp;done)|(go_simp;rfl));(case hp=>exact (bN.one (show Kd.M Kd.bool _ _ _ true [.bool true] from rfl) (bN.none _ _)));intro xp W_ bQ bn _ _;replace HS:=HS.new (A:=rA Kd.bool 4 xp ([true])) bn bQ;clear bQ bn;obtain ⟨A8,c8,rfl⟩:=HS.lJ 0;clear eV;have eV:=aD (HS.bf 8))|((with_reducible refine cr (b:= .append) (xs:= #[.tmp 42,.tmp 44]) rfl ?_);at_builtin;have HU:=(HS.jb 0).2.2;replace HS:=HS.zU;refine Sep.uj Kd.bool rfl (.tmp 42) (.tmp 44) 36 4 (.bool false) 1 rfl Tryz.underlying36 tq rfl (by decide) (by omega) (.slice A9 d.length c9) d [true] A8 1 c8 rfl rfl HS HU (fun _ _ _ _ h=>h) (by have:=LL.out;have:=HD.out;omega) ?_;clear HS HU;intro v9' W_ HS;clear eV;have eV:=aD (HS.bf 8)))
      replace HS:=HS.m7.tail
      replace HS:=HS.m7.tail
      replace HS:=HS.jI.tail
      replace HS:=HS.zU.tail
      replace HS:=HS.zU.tail
      replace HS:=HS.zU.tail
      replace HS:=HS.zU.tail
      go_roundg (l.length-(j+1))
      case measure=>omega
      case rel=>exact ⟨j+1,_,_,_,_,_,_,gm hj (Nat.le_trans LL.out (by decide)),⟨h⟩,hj,Nat.le_refl _,by rw [List.length_append,HD.out];rfl,HS.mM.mM.mM.mM.kG.kG.kG⟩
    ·rw [List.drop_eq_nil_of_le (by omega)] at h
     simp only [cC.l0] at h
     obtain ⟨rfl,rfl⟩:=(Prod.mk.injEq _ _ _ _).mp (Option.some.inj h)
     clear h
     have Fs:decide ((j:Int)<(l.length:Int))=false:=decide_eq_false (by omega)
     have eV:=aD (HS.bf 1)
     have fo:=aD (HS.bf 2)
     go_wp2_with (first|(go_at_call 52;have dj:=en.calls (n:=n) (rL HS 3) T9.out;refine dj.mono ?_;clear dj;rintro e W_ ⟨z0,z1,z2,z3,rfl,nu,bn⟩;replace HS:=HS.news bn nu;clear nu bn;dsimp only [fH,List.cons_append,List.nil_append] at HS;obtain ⟨Gh,wM,rfl⟩:=HS.lJ 0;obtain ⟨Kf,zk,rfl⟩:=HS.jZ 1;obtain ⟨NS,Cz,rfl⟩:=HS.jZ 2;obtain ⟨Qw,FU,rfl⟩:=HS.jZ 3;clear eV fo;have eV:=aD (HS.bf 5);have fo:=aD (HS.bf 6)))
     have HF:=HS.ko 6 (.slice Gh n3.ks.length wM) (.slice Kf n3.ps.length zk) (.slice NS n3.ss.length Cz) (.slice Qw n3.ib.length FU) (.int .i64 n3.sd)
     refine bodyPost_ret (kX rfl _ _ b4 27 #[.slice Gh n3.ks.length wM,.slice Kf n3.ps.length zk,.slice NS n3.ss.length Cz,.slice Qw n3.ib.length FU,.int .i64 n3.sd] (0,0) _ rfl (by exact (HF.bf 6).out) Tryz.underlying27 rfl (by kernel_rfl)) rfl ?_
     replace HS:=HF
     have HF:=HS
     exact ⟨_,_,_,_,_,rfl,uV HF,HF.base⟩
def xJ (A0:Option Addr) (c0:Nat) (l0:List Int) (gr:Nat) (x4 x5 x7 iz gJ jL kg:Value):Act:= { tmps:= #[.slice A0 l0.length c0,undef,.pointer (some ⟨gr,0,none⟩),.bool false,.slice A0 l0.length c0,.int .i64 (l0.length:Int),.bool true,.bool false,.bool false,.slice A0 l0.length c0,.bool true,.bool false,.bool false,undef,.slice A0 l0.length c0,x7,.slice A0 l0.length c0,.int .i64 (l0.length:Int),iz,.slice A0 l0.length c0,.int .i64 (l0.length:Int),gJ,jL,undef],defers:=[]}
def dW.T3:Bool×List (List Nat×List Nat):=(true,[([],[]),([0],[0]),([],[]),([2],[2]),([3,3],[3]),([],[]),([5],[5]),([6,6],[6]),([],[]),([1,4,7,8],[1,4,7,8]),([9,1,0,1,2,3,4,5,6,7,8,9],[9]),([10,0,1,2,3,4,5,6,7,8,9,10],[])])
def dW.B3:List Nat:=[0,1,0,4,12,0,32,96,0,511,1023,2047]
theorem dW.KK:gq .any (opsOf Tryz.f48 3)=dW.T3:=by kernel_rfl
theorem dW.DV:eF dW.T3.2 dW.B3=true:=by kernel_rfl
def dW.f (k:Nat) (l0:List Int):Option (List Int×List (List ByteArray)×List (List ByteArray)×List (List ByteArray)×Int×Bool):=(aM.f (l0.length:Int) 1 4).bind fun t1=>(if t1=true then ((eR.f k l0).bind fun t2=>(if t2=true then (if l0.length≤1048576 then some (l0,List.replicate l0.length [],List.replicate l0.length [],List.replicate 4 [],0,true) else none) else some ([],[],[],[],0,false))) else some ([],[],[],[],0,false))
theorem dW.ye (k:Nat) (A0:Option Addr) (c0:Nat) (l0:List Int) (r1:List Int) (r2:List (List ByteArray)) (r3:List (List ByteArray)) (r4:List (List ByteArray)) (r5:Int) (r6:Bool) (w:World) (eT:Kd.C (Kd.int .i64) w A0 l0.length l0) (fE:l0.length≤c0) (h:dW.f k l0=some (r1,r2,r3,r4,r5,r6)):
  Calls Tryz.prog 48 #[.slice A0 l0.length c0] w (Cj w r1 r2 r3 r4 r6)∧r5=0:=by
 have mX:=Tryz.underlying27
 have fB:=ak eT;have jD:=ak fE;clear eT fE
 have HB:=ak (Below.refl w.heap.size w)
 unfold dW.f at h
 obtain ⟨t1,A1,H⟩:=bS h;clear h
 cases t1 with
 |false=>
  obtain ⟨rfl,rfl,rfl,rfl,rfl,rfl⟩:[]=r1∧[]=r2∧[]=r3∧[]=r4∧0=r5∧false=r6:=by simpa using H
  refine ⟨?_,rfl⟩
  clear H
  go_enter Tryz.func48,Tryz.ntmps48
  go_wp2_with (first|((with_reducible refine ax (N:=2) rfl ?_);refine cm 2 #[.slice none 0 0,.slice none 0 0,.slice none 0 0,.slice none 0 0,.int .i64 0] 27 ?_;intro gr hg w8 dO hb;have BR:=ak dO;have GR:=ak (lT hg (ai HB));replace HB:=ak (aE (ai HB) hb);clear hb dO hg)|(go_at_call 70;(with_reducible refine (aM.calls (l0.length:Int) 1 4 false _ A1.out).mono ?_);rintro e w' ⟨rfl,⟨nd,rfl⟩⟩;(try (rw [l9 w8];generalize wJ:World.drewN w8 _=w8;have zH:Aside0 (w8.heap[gr]? =some (.cells #[.slice none 0 0,.slice none 0 0,.slice none 0 0,.slice none 0 0,.int .i64 0] 27 (0,0))):=⟨by rw [←wJ];exact (fk BR)⟩;have zG:Aside0 (Below w.heap.size w w8):=⟨by rw [←wJ];exact (aT HB GR)⟩;clear BR HB wJ;have BR:=zH;have HB:=zG;clear zH zG));obtain ⟨BT,BS,BL,BK,BE,BD,BC,Bw,Bv,Bp⟩:=aD BR))
  refine bodyPost_ret (dI rfl _ _ gr 27 #[.slice none 0 0,.slice none 0 0,.slice none 0 0,.slice none 0 0,.int .i64 0] (0,0) _ rfl (by exact oI BR.out _ _ _ _ _) Tryz.underlying27 rfl (by kernel_rfl)) rfl ?_
  exact ⟨_,_,_,_,0,1,2,rfl,Kd.pW _ _ _ _ _,Kd.pV _ _ _ _ _,Kd.pV _ _ _ _ _,Kd.pV _ _ _ _ _,⟨by decide,by decide,by decide⟩,l5 HB.out GR.out _ _ _ _ _⟩
 |true=>
  rw [if_pos rfl] at H
  obtain ⟨t2,A2,H⟩:=bS H
  cases t2 with
  |false=>
   obtain ⟨rfl,rfl,rfl,rfl,rfl,rfl⟩:[]=r1∧[]=r2∧[]=r3∧[]=r4∧0=r5∧false=r6:=by simpa using H
   refine ⟨?_,rfl⟩
   clear H
   go_enter Tryz.func48,Tryz.ntmps48
   go_wp2_with (first|((with_reducible refine ax (N:=2) rfl ?_);refine cm 2 #[.slice none 0 0,.slice none 0 0,.slice none 0 0,.slice none 0 0,.int .i64 0] 27 ?_;intro gr hg w8 dO hb;have BR:=ak dO;have GR:=ak (lT hg (ai HB));replace HB:=ak (aE (ai HB) hb);clear hb dO hg)|(go_at_call 70;(with_reducible refine (aM.calls (l0.length:Int) 1 4 true _ A1.out).mono ?_);rintro e w' ⟨rfl,⟨nd,rfl⟩⟩;(try (rw [l9 w8];generalize wJ:World.drewN w8 _=w8;have zH:Aside0 (w8.heap[gr]? =some (.cells #[.slice none 0 0,.slice none 0 0,.slice none 0 0,.slice none 0 0,.int .i64 0] 27 (0,0))):=⟨by rw [←wJ];exact (fk BR)⟩;have zG:Aside0 (Below w.heap.size w w8):=⟨by rw [←wJ];exact (aT HB GR)⟩;clear BR HB wJ;have BR:=zH;have HB:=zG;clear zH zG));obtain ⟨BT,BS,BL,BK,BE,BD,BC,Bw,Bv,Bp⟩:=aD BR)|(go_at_call 71;(with_reducible refine (eR.calls k _ _ l0 false _ ?side1 ?side2 A2.out).mono ?_);(case side1=>exact cd (Kd.aH fB.out (ai HB)));(case side2=>exact jD.out);rintro e w' ⟨rfl,⟨nd,rfl⟩⟩;clear BT BS BL BK BE BD BC Bw Bv Bp;(try (rw [l9 w8];generalize wJ:World.drewN w8 _=w8;have zH:Aside0 (w8.heap[gr]? =some (.cells #[.slice none 0 0,.slice none 0 0,.slice none 0 0,.slice none 0 0,.int .i64 0] 27 (0,0))):=⟨by rw [←wJ];exact (fk BR)⟩;have zG:Aside0 (Below w.heap.size w w8):=⟨by rw [←wJ];exact (aT HB GR)⟩;clear BR HB wJ;have BR:=zH;have HB:=zG;clear zH zG));obtain ⟨BT,BS,BL,BK,BE,BD,BC,Bw,Bv,Bp⟩:=aD BR))
   refine bodyPost_ret (dI rfl _ _ gr 27 #[.slice none 0 0,.slice none 0 0,.slice none 0 0,.slice none 0 0,.int .i64 0] (0,0) _ rfl (by exact oI BR.out _ _ _ _ _) Tryz.underlying27 rfl (by kernel_rfl)) rfl ?_
   exact ⟨_,_,_,_,0,1,2,rfl,Kd.pW _ _ _ _ _,Kd.pV _ _ _ _ _,Kd.pV _ _ _ _ _,Kd.pV _ _ _ _ _,⟨by decide,by decide,by decide⟩,l5 HB.out GR.out _ _ _ _ _⟩
  |true=>
   rw [if_pos rfl] at H
   obtain ⟨hn,H⟩:=cZ H
   obtain ⟨rfl,rfl,rfl,rfl,rfl,rfl⟩:l0=r1∧List.replicate l0.length []=r2∧List.replicate l0.length []=r3∧List.replicate 4 []=r4∧0=r5∧true=r6:=by simpa using H
   refine ⟨?_,rfl⟩
   clear H
   have HN:=ak hn;clear hn
   have HCL:=ak (show cP.f l0=some l0 from by unfold cP.f;rw [Option.bind_some,if_pos (by have:=HN.out;simp only [List.length_nil];omega)];rfl)
   go_enter Tryz.func48,Tryz.ntmps48
   try go_wp2_with (first|((with_reducible refine ax (N:=2) rfl ?_);refine cm 2 #[.slice none 0 0,.slice none 0 0,.slice none 0 0,.slice none 0 0,.int .i64 0] 27 ?_;intro gr hg w8 dO hb;have BR:=ak dO;have GR:=ak (lT hg (ai HB));replace HB:=ak (aE (ai HB) hb);clear hb dO hg)|(go_at_call 70;(with_reducible refine (aM.calls (l0.length:Int) 1 4 true _ A1.out).mono ?_);rintro e w' ⟨rfl,⟨nd,rfl⟩⟩;(try (rw [l9 w8];generalize wJ:World.drewN w8 _=w8;have zH:Aside0 (w8.heap[gr]? =some (.cells #[.slice none 0 0,.slice none 0 0,.slice none 0 0,.slice none 0 0,.int .i64 0] 27 (0,0))):=⟨by rw [←wJ];exact (fk BR)⟩;have zG:Aside0 (Below w.heap.size w w8):=⟨by rw [←wJ];exact (aT HB GR)⟩;clear BR HB wJ;have BR:=zH;have HB:=zG;clear zH zG));obtain ⟨BT,BS,BL,BK,BE,BD,BC,Bw,Bv,Bp⟩:=aD BR)|(go_at_call 71;(with_reducible refine (eR.calls k _ _ l0 true _ ?side1 ?side2 A2.out).mono ?_);(case side1=>exact cd (Kd.aH fB.out (ai HB)));(case side2=>exact jD.out);rintro e w' ⟨rfl,⟨nd,rfl⟩⟩;clear BT BS BL BK BE BD BC Bw Bv Bp;(try (rw [l9 w8];generalize wJ:World.drewN w8 _=w8;have zH:Aside0 (w8.heap[gr]? =some (.cells #[.slice none 0 0,.slice none 0 0,.slice none 0 0,.slice none 0 0,.int .i64 0] 27 (0,0))):=⟨by rw [←wJ];exact (fk BR)⟩;have zG:Aside0 (Below w.heap.size w w8):=⟨by rw [←wJ];exact (aT HB GR)⟩;clear BR HB wJ;have BR:=zH;have HB:=zG;clear zH zG));obtain ⟨BT,BS,BL,BK,BE,BD,BC,Bw,Bv,Bp⟩:=aD BR))
   clear BT BS BL BK BE BD BC Bw Bv Bp
   replace BR:=ak (ee BR.out)
   replace HB:=ak (cJ HB.out)
   refine ef (n:=12) (S:=fun w'=>True) (ds:=[]) (bl 12 0) (by kernel_rfl) rfl rfl trivial (fun an=> ?_);refine bW dW.KK dW.DV (fun aC eE=> ?_)
   generalize w8.drew=w9 at BR HB an⊢
   refine ag 0 (some 14) 12 1 aC ?_
   refine ag 2 (some 16) 12 5 aC ?_
   refine ag 3 (some 17) 12 13 aC ?_
   refine ag 5 (some 19) 12 45 aC ?_
   refine ag 6 (some 20) 12 109 aC ?_
   clear an eE
   refine GY [1,4,7,8] (bl 12 511) (fuel:=3) (fun s a W=>∃x4 x5 x7 iz gJ jL kg:Value,∃g5 g8 g9 gx:Nat,a=xJ A0 c0 l0 gr x4 x5 x7 iz gJ jL kg∧uv w W gr l0 false (s 1) (s 4) (s 7) (s 8) false false x4 x5 x7 iz gJ jL kg g5 g8 g9 gx) ⟨undef,undef,undef,undef,undef,undef,undef,0,0,0,0,by simp only [xJ],HB.out,BR.out,fun a=>(by cases a),fun a=>(by cases a),fun a=>(by cases a),fun a=>(by cases a),fun a=>(by cases a),fun a=>(by cases a),fun a=>(by cases a),fun a=>(by cases a),fun a=>(by cases a),fun a=>(by cases a)⟩ trivial ⟨?_,?_,?_,?_,trivial⟩ ?_
   ·refine LF (some 15) (fun s a W hI hs hd K hK=> ?_)
    obtain ⟨x4,x5,x7,iz,gJ,jL,kg,g5,g8,g9,gx,rfl,F⟩:=hI
    rw [hs] at F
    unfold xJ
    refine gw Tryz.func85 (by kernel_rfl) rfl #[.slice A0 l0.length c0] (by rfl) rfl rfl (by (try simp only [List.map_toArray,List.map_cons,List.map_nil]);first|done|rfl) ?_
    with_reducible refine (cP.calls _ _ l0 l0 _ ?side1 ?side2 HCL.out).mono ?_
    (case side1=>exact cd (Kd.aH fB.out F.below))
    (case side2=>exact jD.out)
    rintro e W1 ⟨v,rfl,ho,hb⟩
    refine ⟨_,rfl,?_⟩
    exact hK.out _ _ trivial ⟨x4,x5,v,iz,gJ,jL,kg,g5,g8,g9,gx,by show Act.put _ (some 15) _=_;simp only [xJ,Act.put,List.setIfInBounds_toArray,List.set_cons_zero,List.set_cons_succ],by simpa only [hs,hs,beq_self_eq_true,Bool.true_or,Bool.false_or,Nat.reduceBEq] using F.acF ho hb⟩
   ·refine LF (some 18) (fun s a W hI hs hd K hK=> ?_)
    obtain ⟨x4,x5,x7,iz,gJ,jL,kg,g5,g8,g9,gx,rfl,F⟩:=hI
    rw [hs] at F
    unfold xJ
    refine qX (by rfl) rfl _ rfl l0.length HN.out rfl (fun v W1 ho hb hn=> ?_)
    exact hK.out _ _ trivial ⟨x4,x5,x7,v,gJ,jL,kg,W.heap.size,g8,g9,gx,by show Act.put _ (some 18) _=_;simp only [xJ,Act.put,List.setIfInBounds_toArray,List.set_cons_zero,List.set_cons_succ],by simpa only [hs,hs,beq_self_eq_true,Bool.true_or,Bool.false_or,Nat.reduceBEq] using F.XD ho hb hn⟩
   ·refine LF (some 21) (fun s a W hI hs hd K hK=> ?_)
    obtain ⟨x4,x5,x7,iz,gJ,jL,kg,g5,g8,g9,gx,rfl,F⟩:=hI
    rw [hs] at F
    unfold xJ
    refine qX (by rfl) rfl _ rfl l0.length HN.out rfl (fun v W1 ho hb hn=> ?_)
    exact hK.out _ _ trivial ⟨x4,x5,x7,iz,v,jL,kg,g5,W.heap.size,g9,gx,by show Act.put _ (some 21) _=_;simp only [xJ,Act.put,List.setIfInBounds_toArray,List.set_cons_zero,List.set_cons_succ],by simpa only [hs,hs,beq_self_eq_true,Bool.true_or,Bool.false_or,Nat.reduceBEq] using F.XC ho hb hn⟩
   ·refine LF (some 22) (fun s a W hI hs hd K hK=> ?_)
    obtain ⟨x4,x5,x7,iz,gJ,jL,kg,g5,g8,g9,gx,rfl,F⟩:=hI
    rw [hs] at F
    unfold xJ
    refine qX (by rfl) rfl _ rfl 4 (by omega) rfl (fun v W1 ho hb hn=> ?_)
    exact hK.out _ _ trivial ⟨x4,x5,x7,iz,gJ,v,kg,g5,g8,W.heap.size,gx,by show Act.put _ (some 22) _=_;simp only [xJ,Act.put,List.setIfInBounds_toArray,List.set_cons_zero,List.set_cons_succ],by simpa only [hs,hs,beq_self_eq_true,Bool.true_or,Bool.false_or,Nat.reduceBEq] using F.XB ho hb hn⟩
   clear BR HB
   rintro a W-⟨x4,x5,x7,iz,gJ,jL,kg,g5,g8,g9,gx,rfl,F⟩
   have HF:=ak F
   have K0:=ak (F.h2 rfl);have K1:=ak (F.h5 rfl);have K2:=ak (F.h8 rfl);have K3:=ak (F.h9 rfl)
   have HNE:=ak (⟨F.O4 rfl rfl,F.O3 rfl rfl,F.O2 rfl rfl⟩:g5≠g8∧g5≠g9∧g8≠g9)
   have BR:=ak F.JK
   clear F
   unfold xJ
   obtain ⟨A7,c7,e7⟩:=Kd.dc K0.out;subst e7;obtain ⟨vo,gu,YW⟩:=Kd.me K1.out.1;subst YW;obtain ⟨rC,oa,YV⟩:=Kd.me K2.out.1;subst YV;obtain ⟨vQ,nv,YU⟩:=Kd.me K3.out.1;subst YU
   rw [List.length_replicate] at K1 K2;rw [show (List.replicate 4 ([]:List ByteArray)).length=4 from rfl] at K3
   refine ag 9 (some 23) 12 1023 aC ?_
   obtain ⟨Cx,zP,Cw,V5,V4,V7,JG,JF,N3,V6⟩:=aD BR
   refine gv 10 none 12 2047 aC (fun K hK=> ?_)
   refine kW (w1:= ?_) (by rfl) rfl ?_ ?_
   rotate_left
   ·go_simp
    rfl
   refine hK.out _ _ trivial (fun _=> ?_)
   clear hK K Cx zP Cw V5 V4 V7 JG JF N3 V6
   refine ag 11 (some 3) 12 4095 aC ?_
   refine fm (cW aC.out (by kernel_rfl)) ?_
   clear aC
   try simp only [List.length_replicate]
   go_wp2
   refine bodyPost_ret (dI rfl _ _ gr 27 #[.slice A7 l0.length c7,.slice vo l0.length gu,.slice rC l0.length oa,.slice vQ 4 nv,.int .i64 0] (0,0) _ rfl (by exact oI BR.out _ _ _ _ _) Tryz.underlying27 rfl (by kernel_rfl)) rfl ?_
   exact ⟨_,_,_,_,g5,g8,g9,rfl,AN K0.out BR.out _ _ _ _ _,(wo.MB K1.out BR.out _ _ _ _ _).1,(wo.MB K2.out BR.out _ _ _ _ _).1,(wo.MB K3.out BR.out _ _ _ _ _).1,HNE.out,l5 HF.out.below GR.out _ _ _ _ _⟩
theorem dW.calls (k:Nat) (A0:Option Addr) (c0:Nat) (l0:List Int) (r1:List Int) (r2:List (List ByteArray)) (r3:List (List ByteArray)) (r4:List (List ByteArray)) (r5:Int) (r6:Bool) (w:World) (eT:Kd.C (Kd.int .i64) w A0 l0.length l0) (fE:l0.length≤c0) (h:dW.f k l0=some (r1,r2,r3,r4,r5,r6)):
  Calls Tryz.prog 48 #[.slice A0 l0.length c0] w fun e w'=>∃kV zq CG CF:Value,e= .returned (.tuple #[.agg #[kV,zq,CG,CF,.int .i64 r5],.bool r6])∧Kd.R (Kd.int .i64) 3 w' w.heap.size (fun _=>True) kV r1∧Kd.S (Kd.slice 9 Kd.string) 62 w' w.heap.size (fun k_=>some k_≠(CG:Value).ownBlock∧some k_≠(CF:Value).ownBlock) zq r2∧Kd.S (Kd.slice 9 Kd.string) 62 w' w.heap.size (fun k_=>some k_≠(zq:Value).ownBlock∧some k_≠(CF:Value).ownBlock) CG r3∧Kd.S (Kd.slice 9 Kd.string) 62 w' w.heap.size (fun k_=>some k_≠(zq:Value).ownBlock∧some k_≠(CG:Value).ownBlock) CF r4∧Below w.heap.size w w':=by
 obtain ⟨h1,rfl⟩:=dW.ye k A0 c0 l0 r1 r2 r3 r4 r5 r6 w eT fE h
 exact h1.mono fun e w' he=>AO he
end Go.Proofs.YtihekdlcfohkkaaGreatDoor.QFnNet
