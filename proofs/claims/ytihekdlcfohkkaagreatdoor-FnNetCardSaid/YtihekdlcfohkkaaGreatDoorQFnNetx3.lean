-- printed by this session's own program (wip/tools/pp.py: the kit's print.py with changes); Lean checks it
import Derived.Test.YtihekdlcfohkkaaGreatDoorQFnNetx0
import Derived.Test.YtihekdlcfohkkaaGreatDoorQFnNetx1
import Derived.Test.YtihekdlcfohkkaaGreatDoorQFnNetx2
namespace Go.Proofs.YtihekdlcfohkkaaGreatDoor.QFnNet
open Go.RowKit Go.Proofs.YtihekdlcfohkkaaGreatDoorW.PrintWords Go.Proofs.YtihekdlcfohkkaaGreatDoorW.PrintLast Go.Proofs.YtihekdlcfohkkaaGreatDoorW.PrintMore
attribute [local go_sem] max2_int min2_int max_two min_two max_three min_three max_four min_four strLss strGtr strLeq strGeq
set_option linter.unusedVariables false
set_option linter.unusedSimpArgs false
set_option maxHeartbeats 16000000
set_option maxRecDepth 100000
def fh.l0:Nat→ByteArray→Int→Int→Int→Option (Int)
  |0,_,_,_,_=>none
  |k+1,x0,x3,x6,x7=>if x7<x6 then (if 0≤x7 then (if x7<(x0.size:Int) then (fh.l0 k x0 (wrap64 (x3+(wrap64 ((wrap64 (bt x0 x7))*(wrap64 (x7+1)))))) x6 (wrap64 (x7+1))) else (none)) else (none)) else (some (Int.tmod x3 251))
def fh.f (k:Nat) (a0:ByteArray):Option (Int):=fh.l0 k a0 0 (a0.size:Int) 0
theorem fh.calls (k:Nat) (a0:ByteArray) (r:Int) (w:World) (h:fh.f k a0=some r):
  Calls Tryz.prog 126 #[.string a0] w fun e w'=>e= .returned (.int .i64 r)∧cH w w':=by
 have H:(fh.l0 k a0 0 (a0.size:Int) 0)=some r:=h
 clear h
 have H':=ak H
 clear H
 go_enter Tryz.func126,Tryz.ntmps126
 go_wp2
 go_loopg [3,7] k (fun kq v3 v7 w'=>∃(iN:Int) (de:Int),v3= .int .i64 iN∧v7= .int .i64 de∧Aside0 (fh.l0 kq a0 iN (a0.size:Int) de=some r)∧Aside0 (kq≤k)∧cH w w')
 case atStart=>exact ⟨(0),(0),er,er,H',⟨Nat.le_refl _⟩,gh⟩
 case round=>
  clear H'
  obtain ⟨iN,de,rfl,rfl,HA,fP,⟨m1,rfl⟩⟩:=hrel
  cases gk with
  |zero=>exact absurd HA.out (by simp [fh.l0])
  |succ k1=>
   have H:=HA.out;clear HA
   simp only [fh.l0] at H
   by_cases c2:de<(a0.size:Int)
   ·rw [if_pos c2] at H
    have oQ:=decide_eq_true c2
    clear c2;replace H:=cZ H;obtain ⟨c3,H⟩:=H;have jh:=decide_eq_true c3;clear c3;replace H:=cZ H;obtain ⟨c4,H⟩:=H;have iI:=decide_eq_true c4;clear c4
    have H':=ak H
    clear H
    have p5:0≤(de:Int):=da
    have q5:de<(a0.size:Int):=da
    have hx5:=kD a0 de
    replace p5:=eq_true p5;replace q5:=eq_true q5;go_wp2
    go_roundg k1
    case measure=>have:=fP.out;omega
    case rel=>exact ⟨(wrap64 (iN+(wrap64 ((wrap64 (bt a0 de))*(wrap64 (de+1)))))),(wrap64 (de+1)),er,er,H',⟨by have:=fP.out;omega⟩,gh⟩
   ·rw [if_neg c2] at H
    have oQ:=decide_eq_false c2
    clear c2
    obtain rfl:=Option.some.inj H
    go_wp2
    go_ret
    exact ⟨er,gh⟩
def fj.f (k:Nat) (a0 a1:ByteArray):Option ByteArray:=match a1.data.toList with
  |[c]=>if c.toNat<128 then (if a0.size≤9223372036854775807 then some ⟨(Lib.trimRightB a0.data.toList c).toArray⟩ else none) else none
  |_=>none
theorem fj.calls (k:Nat) (a0 a1:ByteArray) (r:ByteArray) (w:World) (h:fj.f k a0 a1=some r):
  Calls Tryz.prog 140 #[.string a0,.string a1] w fun e w'=>e= .returned (.string r)∧cH w w':=by
 unfold fj.f at h
 split at h
 ·rename_i c hc
  replace h:=cZ h;obtain ⟨h0,h⟩:=h
  replace h:=cZ h;obtain ⟨h1,h⟩:=h
  obtain rfl:=Option.some.inj h
  obtain rfl:a1=⟨#[c]⟩:=by
   cases a1 with|mk d=>exact congrArg ByteArray.mk (Array.toList_inj.1 hc)
  refine (Any.strings_TrimRight_one acC a0 c h0 w h1).mono ?_
  rintro e w' ⟨rfl,rfl⟩
  exact ⟨rfl,gh⟩
 ·cases h
def strings_HasSuffix.f (k:Nat) (a0 a1:ByteArray):Option Bool:=if a0.size≤9223372036854775807 then some (Lib.hasSuffix a0.data.toList a1.data.toList) else none
theorem strings_HasSuffix.calls (k:Nat) (a0 a1:ByteArray) (r:Bool) (w:World) (h:strings_HasSuffix.f k a0 a1=some r):
  Calls Tryz.prog 141 #[.string a0,.string a1] w fun e w'=>e= .returned (.bool r)∧cH w w':=by
 unfold strings_HasSuffix.f at h
 replace h:=cZ h;obtain ⟨h0,h⟩:=h
 obtain rfl:=Option.some.inj h
 refine (Any.strings_HasSuffix acD a0 a1 w h0).mono ?_
 rintro e w' ⟨rfl,rfl⟩
 exact ⟨rfl,gh⟩
def je.f (k:Nat) (a0:ByteArray):Option (ByteArray×Bool):=(fj.f k a0 (⟨#[0]⟩:ByteArray)).bind fun t181=>(if (a0.size:Int)=16 then ((strings_HasSuffix.f k t181 (⟨#[128]⟩:ByteArray)).bind fun t182=>(if t182=true then (if 0≤(wrap64 ((t181.size:Int)-1)) then (if (wrap64 ((t181.size:Int)-1))≤(t181.size:Int) then (some (t181.extract 0 ((wrap64 ((t181.size:Int)-1)):Int).toNat,true)) else (none)) else (none)) else (some ((⟨#[]⟩:ByteArray),false)))) else (some ((⟨#[]⟩:ByteArray),false)))
theorem je.calls (k:Nat) (a0:ByteArray) (r1:ByteArray) (r2:Bool) (w:World) (h:je.f k a0=some (r1,r2)):
  Calls Tryz.prog 127 #[.string a0] w fun e w'=>e= .returned (.tuple #[.string r1,.bool r2])∧cH w w':=by
 have H:((fj.f k a0 (⟨#[0]⟩:ByteArray)).bind fun t181=>(if (a0.size:Int)=16 then ((strings_HasSuffix.f k t181 (⟨#[128]⟩:ByteArray)).bind fun t182=>(if t182=true then (if 0≤(wrap64 ((t181.size:Int)-1)) then (if (wrap64 ((t181.size:Int)-1))≤(t181.size:Int) then (some (t181.extract 0 ((wrap64 ((t181.size:Int)-1)):Int).toNat,true)) else (none)) else (none)) else (some ((⟨#[]⟩:ByteArray),false)))) else (some ((⟨#[]⟩:ByteArray),false))))=some (r1,r2):=h
 clear h;replace H:=bS H;obtain ⟨t181,A2,H⟩:=H
 by_cases c3:(a0.size:Int)=16
 ·rw [if_pos c3] at H
  have jh:=kI c3
  have sN:=kH c3
  clear c3;replace H:=bS H;obtain ⟨t182,A4,H⟩:=H
  by_cases c5:t182=true
  ·subst c5
   have H1:(if 0≤(wrap64 ((t181.size:Int)-1)) then (if (wrap64 ((t181.size:Int)-1))≤(t181.size:Int) then (some (t181.extract 0 ((wrap64 ((t181.size:Int)-1)):Int).toNat,true)) else (none)) else (none))=some (r1,r2):=by rw [if_pos rfl] at H;exact H
   clear H
   have H:=H1
   clear H1
   obtain ⟨V3,JI⟩:∃j_:Int,(wrap64 ((t181.size:Int)-1))=j_:=⟨_,rfl⟩
   replace H:(if 0≤(V3) then (if (V3)≤(t181.size:Int) then (some (t181.extract 0 ((V3):Int).toNat,true)) else (none)) else (none))=some (r1,r2):=by first|(rw [JI] at H;exact H)|(simp only [JI] at H⊢;exact H)
   (try rw [JI] at A2)
   (try rw [JI] at A4)
   have afD:(IntKind.i64.wrap ((t181.size:Int)-1))=V3:=(bX _).trans JI
   replace H:=cZ H;obtain ⟨c7,H⟩:=H;have rF:=eq_true c7
   have P2:decide (0≤(V3))=true:=decide_eq_true c7
   clear c7;replace H:=cZ H;obtain ⟨c8,H⟩:=H;have wm:=eq_true c8
   have DD:decide ((V3)≤(t181.size:Int))=true:=decide_eq_true c8
   clear c8
   simp only [Option.some.injEq,Prod.mk.injEq] at H
   obtain ⟨rfl,rfl⟩:=H
   go_enter Tryz.func127,Tryz.ntmps127
   go_wp2_with (first|(go_at_call 140;(with_reducible refine (fj.calls k a0 (⟨#[0]⟩:ByteArray) t181 _ A2.out).mono ?_);rintro e w' ⟨rfl,⟨nd,rfl⟩⟩)|(go_at_call 141;(with_reducible refine (strings_HasSuffix.calls k t181 (⟨#[128]⟩:ByteArray) true _ A4.out).mono ?_);rintro e w' ⟨rfl,⟨nd,rfl⟩⟩))
   go_ret2
   exact ⟨by first|rfl|(simp;done)|(simp only [←JI]<;>(first|rfl|simp))|(simp [*];done),gh⟩
  ·replace c5:=Bool.eq_false_iff.mpr c5
   subst c5
   have H1:(some ((⟨#[]⟩:ByteArray),false))=some (r1,r2):=by rw [if_neg (show¬(false=true) by decide)] at H;exact H
   clear H
   have H:=H1
   clear H1
   simp only [Option.some.injEq,Prod.mk.injEq] at H
   obtain ⟨rfl,rfl⟩:=H
   go_enter Tryz.func127,Tryz.ntmps127
   go_wp2_with (first|(go_at_call 140;(with_reducible refine (fj.calls k a0 (⟨#[0]⟩:ByteArray) t181 _ A2.out).mono ?_);rintro e w' ⟨rfl,⟨nd,rfl⟩⟩)|(go_at_call 141;(with_reducible refine (strings_HasSuffix.calls k t181 (⟨#[128]⟩:ByteArray) false _ A4.out).mono ?_);rintro e w' ⟨rfl,⟨nd,rfl⟩⟩))
   go_ret2
   exact ⟨er,gh⟩
 ·rw [if_neg c3] at H
  have jh:=jV c3
  have sN:=jU c3
  simp only [Option.some.injEq,Prod.mk.injEq] at H
  obtain ⟨rfl,rfl⟩:=H
  go_enter Tryz.func127,Tryz.ntmps127
  go_wp2_with (first|(go_at_call 140;(with_reducible refine (fj.calls k a0 (⟨#[0]⟩:ByteArray) t181 _ A2.out).mono ?_);rintro e w' ⟨rfl,⟨nd,rfl⟩⟩))
  go_ret2
  exact ⟨er,gh⟩
def dK.T4:Bool×List (List Nat×List Nat):=(true,[([],[]),([0],[0]),([1],[1]),([2],[2]),([3],[3]),([4,3],[4]),([5],[5]),([6,5],[5,6]),([7,5],[5,7]),([5],[5]),([9,5],[5,9]),([10,5,5],[5,10]),([8,11,5],[5,8,11]),([5,12],[5,12])])
def dK.B4:List Nat:=[0,1,3,7,15,31,63,127,255,63,575,1599,4095,8191]
theorem dK.Ao:gq .any (opsOf Tryz.f115 4)=dK.T4:=by kernel_rfl
theorem dK.uh:eF dK.T4.2 dK.B4=true:=by kernel_rfl
def dK.f (k:Nat) (a0:Int) (a1:ByteArray):Option (Int×ByteArray×ByteArray×Bool):=(l6.f a0).bind fun c0=>if c0=true∧a1.size=24 then (kL.f k a0 24).bind fun p=>(jP.f k a1 p).bind fun t=>if t.size=24 then (jQ.f (wrap64 (bt t 0))).bind fun c=>if c=true then (fh.f k (t.extract 2 18)).bind fun d=>if wrap64 (bt t 1)=d then (je.f k ((t.extract 2 t.size++(⟨#[0,0]⟩:ByteArray)).extract 0 16)).bind fun b=>some (wrap64 (bt t 0),t.extract 2 t.size++(⟨#[0,0]⟩:ByteArray),b.1,true) else some (0,⟨#[]⟩,⟨#[]⟩,false) else some (0,⟨#[]⟩,⟨#[]⟩,false) else none else none
theorem dK.calls (k:Nat) (a0:Int) (a1:ByteArray) (r1:Int) (r2:ByteArray) (r3:ByteArray) (r4:Bool) (w:World) (h:dK.f k a0 a1=some (r1,r2,r3,r4)):
  Calls Tryz.prog 115 #[.int .i64 a0,.string a1] w fun e w'=>e= .returned (.tuple #[.agg #[.int .i64 r1,.string r2,.string r3],.bool r4])∧Below w.heap.size w w':=by
 have huP:=Tryz.underlying105
 have HS:=Sep.nil w
 unfold dK.f at h
 replace h:=bS h;obtain ⟨c0,T0,h⟩:=h
 replace h:=cZ h;obtain ⟨⟨rfl,hz⟩,h⟩:=h
 replace h:=bS h;obtain ⟨p,T1,h⟩:=h
 replace h:=bS h;obtain ⟨t,T2,h⟩:=h
 replace h:=cZ h;obtain ⟨ht,h⟩:=h
 replace h:=bS h;obtain ⟨c,T3,h⟩:=h
 have zP:((a1.size:Int) !=24)=false:=by rw [hz];rfl
 have q0:(0<t.size)=True:=eq_true (by omega)
 have q1:(1<t.size)=True:=eq_true (by omega)
 have qi0:(0<(t.size:Int))=True:=eq_true (by omega)
 have qi1:(1<(t.size:Int))=True:=eq_true (by omega)
 have x0:∀h:0<t.size,((t[0]'h).toNat:Int)=bt t 0:=kD t 0
 have x1:∀h:1<t.size,((t[1]'h).toNat:Int)=bt t 1:=kD t 1
 have hl1:decide ((18:Int)≤(t.size:Int))=true:=decide_eq_true (by omega)
 have hl2:decide ((2:Int)≤(t.size:Int))=true:=decide_eq_true (by omega)
 have Dj:(t.extract 2 t.size).size=22:=by rw [ByteArray.size_extract,ht];rfl
 have hl3:decide ((t.extract 2 t.size).size+2≤9223372036854775807)=true:=decide_eq_true (by omega)
 have hl4:(9223372036854775807<(t.extract 2 t.size).size+2)=False:=eq_false (by omega)
 have PD:decide ((16:Int)≤((t.extract 2 t.size++(⟨#[0,0]⟩:ByteArray)).size:Int))=true:=decide_eq_true (by rw [ByteArray.size_append,Dj];decide)
 have hl6:(2≤(t.size:Int))=True:=eq_true (by omega)
 have hl7:(18≤(t.size:Int))=True:=eq_true (by omega)
 have hl8:(16≤((t.extract 2 t.size++(⟨#[0,0]⟩:ByteArray)).size:Int))=True:=eq_true (by rw [ByteArray.size_append,Dj];decide)
 have hl9:(9223372036854775807<t.size-2+2)=False:=eq_false (by omega)
 clear ht hz Dj hl3 hl4
 go_enter Tryz.func115,Tryz.ntmps115
 go_upto_region 4 with (first|((with_reducible refine ax (N:=4) rfl ?_);refine cm 4 #[.int .i64 0,.string (⟨#[]⟩:ByteArray),.string (⟨#[]⟩:ByteArray)] 105 ?_;intro b4 cg W_ bQ bn;replace HS:=HS.box cg bQ bn;clear cg bQ bn;have fo:=cA (HS.bf 0))|(go_at_call 122;refine (l6.calls a0 true _ T0.out).mono ?_;rintro e W_ ⟨rfl,gX,rfl⟩;replace HS:=HS.drewN gX;generalize World.drewN _ gX=W_ at HS⊢;clear fo;have fo:=cA (HS.bf 0))|(go_at_call 124;refine (kL.calls k a0 24 p _ T1.out).mono ?_;rintro e W_ ⟨rfl,bn⟩;replace HS:=HS.below bn;clear bn;clear fo;have fo:=cA (HS.bf 0))|(go_at_call 123;refine (jP.calls k a1 p t _ T2.out).mono ?_;rintro e W_ ⟨rfl,bn⟩;replace HS:=HS.below bn;clear bn;clear fo;have fo:=cA (HS.bf 0)))
 clear fo
 refine ef (n:=14) (S:=fun w'=>True) (ds:=[]) (bl 14 0) (by kernel_rfl) rfl rfl trivial (fun an=> ?_);refine bW dK.Ao dK.uh (fun aC eE=> ?_)
 replace HS:=HS.drew
 generalize World.drew _=vO at HS⊢
 refine ag 0 (some 22) 14 1 aC ?_
 refine ag 1 (some 23) 14 3 aC ?_
 refine ag 2 (some 24) 14 7 aC ?_
 refine gv 3 (some 25) 14 15 aC (fun K hK=> ?_)
 refine gw Tryz.func125 (by kernel_rfl) rfl #[.int .i64 (wrap64 (bt t 0))] (by rfl) rfl rfl (by (try simp only [List.map_toArray,List.map_cons,List.map_nil]);first|done|rfl) ?_
 refine (jQ.calls (wrap64 (bt t 0)) c _ T3.out).mono ?_
 clear an
 rintro e W_ ⟨rfl,gX,rfl⟩
 refine ⟨_,rfl,?_⟩
 replace HS:=HS.drewN gX
 generalize World.drewN _ gX=W_ at HS⊢
 refine hK.out _ _ trivial (fun an=> ?_)
 clear hK K
 refine dF (a':= ?_) ?_ ?_
 rotate_left
 ·show Act.put _ (some 25) _=_
  simp only [Act.put,List.setIfInBounds_toArray,List.set_cons_zero,List.set_cons_succ,bX,cL]
  rfl
 refine ag 4 (some 26) 14 31 aC ?_
 refine ag 5 (some 27) 14 63 aC ?_
 cases c with
 |false=>
  rw [if_neg (by decide)] at h
  simp only [Bool.not_false]
  refine cG 6 (some 28) 14 127 aC ?_
  refine cG 7 (some 29) 14 255 aC ?_
  refine cG 8 (some 30) 14 511 aC ?_
  refine cG 9 (some 31) 14 1023 aC ?_
  refine cG 10 (some 32) 14 2047 aC ?_
  refine cG 11 (some 33) 14 4095 aC ?_
  refine cG 12 (some 34) 14 8191 aC ?_
  refine ag 13 (some 35) 14 16383 aC ?_
  refine fm (cW aC.out (by kernel_rfl)) ?_
  clear aC eE an
  have fo:=cA (HS.bf 0)
  simp only [Option.some.injEq,Prod.mk.injEq] at h
  obtain ⟨rfl,rfl,rfl,rfl⟩:=h
  go_wp2
  have HF:=(((HS.dg 0 0 (.int .i64 0) #[.int .i64 0,.string (⟨#[]⟩:ByteArray),.string (⟨#[]⟩:ByteArray)]).dg 0 1 (.string (⟨#[]⟩:ByteArray)) #[.int .i64 0,.string (⟨#[]⟩:ByteArray),.string (⟨#[]⟩:ByteArray)]).dg 0 2 (.string (⟨#[]⟩:ByteArray)) #[.int .i64 0,.string (⟨#[]⟩:ByteArray),.string (⟨#[]⟩:ByteArray)])
  refine bodyPost_ret (dI rfl _ _ b4 105 #[.int .i64 0,.string (⟨#[]⟩:ByteArray),.string (⟨#[]⟩:ByteArray)] (0,0) _ rfl (by exact (HF.bf 0).out) Tryz.underlying105 rfl (by kernel_rfl)) rfl ?_
  exact ⟨rfl,HF.base⟩
 |true=>
  rw [if_pos rfl] at h
  simp only [Bool.not_true]
  replace h:=bS h;obtain ⟨d,T4,h⟩:=h
  refine ag 6 (some 28) 14 127 aC ?_
  refine ag 7 (some 29) 14 255 aC ?_
  refine ag 8 (some 30) 14 511 aC ?_
  refine ag 9 (some 31) 14 1023 aC ?_
  refine ag 10 (some 32) 14 2047 aC ?_
  refine gv 11 (some 33) 14 4095 aC (fun K hK=> ?_)
  refine gw Tryz.func126 (by kernel_rfl) rfl #[.string (t.extract 2 18)] (by rfl) rfl rfl (by (try simp only [List.map_toArray,List.map_cons,List.map_nil]);first|done|rfl) ?_
  refine (fh.calls k (t.extract 2 18) d _ T4.out).mono ?_
  clear an
  rintro e W_ ⟨rfl,gX,rfl⟩
  refine ⟨_,rfl,?_⟩
  replace HS:=HS.drewN gX
  generalize World.drewN _ gX=W_ at HS⊢
  refine hK.out _ _ trivial (fun an=> ?_)
  clear hK K
  refine dF (a':= ?_) ?_ ?_
  rotate_left
  ·show Act.put _ (some 33) _=_
   simp only [Act.put,List.setIfInBounds_toArray,List.set_cons_zero,List.set_cons_succ,bX,cL]
   rfl
  refine ag 12 (some 34) 14 8191 aC ?_
  refine ag 13 (some 35) 14 16383 aC ?_
  refine fm (cW aC.out (by kernel_rfl)) ?_
  clear aC eE an
  by_cases hc:wrap64 (bt t 1)=d
  ·rw [if_pos hc] at h
   have Us:(wrap64 (bt t 1) !=d)=false:=by rw [hc];exact bne_self_eq_false d
   simp only [Us]
   replace h:=bS h;obtain ⟨⟨b,b'⟩,T5,h⟩:=h
   have fo:=cA (HS.bf 0)
   go_upto_region 7 with fail
   generalize hu:t.extract 2 t.size++(⟨#[0,0]⟩:ByteArray)=u at h T5 PD hl8⊢
   simp only [Option.some.injEq,Prod.mk.injEq] at h
   obtain ⟨rfl,rfl,rfl,rfl⟩:=h
   clear hc hu
   go_wp2_with (first|(go_at_call 127;refine (je.calls k _ b b' _ T5.out).mono ?_;rintro e W_ ⟨rfl,gX,rfl⟩;replace HS:=HS.drewN gX;generalize World.drewN _ gX=W_ at HS⊢;clear fo;have fo:=cA (HS.bf 0)))
   have HF:=(((HS.dg 0 0 (.int .i64 (wrap64 (bt t 0))) #[.int .i64 (wrap64 (bt t 0)),.string (⟨#[]⟩:ByteArray),.string (⟨#[]⟩:ByteArray)]).dg 0 1 (.string u) #[.int .i64 (wrap64 (bt t 0)),.string u,.string (⟨#[]⟩:ByteArray)]).dg 0 2 (.string b) #[.int .i64 (wrap64 (bt t 0)),.string u,.string b])
   refine bodyPost_ret (dI rfl _ _ b4 105 #[.int .i64 (wrap64 (bt t 0)),.string u,.string b] (0,0) _ rfl (by exact (HF.bf 0).out) Tryz.underlying105 rfl (by kernel_rfl)) rfl ?_
   exact ⟨rfl,HF.base⟩
  ·rw [if_neg hc] at h
   have Us:(wrap64 (bt t 1) !=d)=true:=bne_iff_ne.mpr hc
   simp only [Us]
   clear hc
   have fo:=cA (HS.bf 0)
   simp only [Option.some.injEq,Prod.mk.injEq] at h
   obtain ⟨rfl,rfl,rfl,rfl⟩:=h
   go_wp2
   have HF:=(((HS.dg 0 0 (.int .i64 0) #[.int .i64 0,.string (⟨#[]⟩:ByteArray),.string (⟨#[]⟩:ByteArray)]).dg 0 1 (.string (⟨#[]⟩:ByteArray)) #[.int .i64 0,.string (⟨#[]⟩:ByteArray),.string (⟨#[]⟩:ByteArray)]).dg 0 2 (.string (⟨#[]⟩:ByteArray)) #[.int .i64 0,.string (⟨#[]⟩:ByteArray),.string (⟨#[]⟩:ByteArray)])
   refine bodyPost_ret (dI rfl _ _ b4 105 #[.int .i64 0,.string (⟨#[]⟩:ByteArray),.string (⟨#[]⟩:ByteArray)] (0,0) _ rfl (by exact (HF.bf 0).out) Tryz.underlying105 rfl (by kernel_rfl)) rfl ?_
   exact ⟨rfl,HF.base⟩
def aI.T0:Bool×List (List Nat×List Nat):=(true,[([],[]),([0],[0]),([1],[1]),([2],[2]),([],[]),([3,4],[3,4]),([5],[5]),([],[]),([],[]),([8],[8]),([9],[9]),([10],[10]),([11],[11]),([12],[12]),([7,13],[7,13]),([6,0,1,2,3,4,5,6],[6]),([14,15,0,1,2,3,4,5,6,7,8,9,10,11,12,13,14,15],[14])])
def aI.B0:List Nat:=[0,1,3,7,0,31,63,0,0,256,768,1792,3840,7936,16256,127,65535]
theorem aI.ab9:gq .any (opsOf Tryz.f92 0)=aI.T0:=by kernel_rfl
theorem aI.ZJ:eF aI.T0.2 aI.B0=true:=by kernel_rfl
def aI.RG:Bool×List (List Nat×List Nat):=(true,[([],[]),([0],[0]),([1],[1]),([2],[2]),([],[]),([],[]),([5],[5]),([6],[6]),([7],[7]),([],[]),([8,9],[8,9]),([10],[10]),([],[]),([12],[12]),([13],[13]),([11,14],[11,14]),([3,4,0,1,2,3,4,5,6,7,8,9,10,11,12,13,14,15],[3,4]),([16,15,15,0,1,2,3,4,5,6,7,8,9,10,11,12,13,14,15],[15,16])])
def aI.B11:List Nat:=[0,1,3,7,0,0,32,96,224,0,992,2016,0,4096,12288,32736,65535,131071]
theorem aI.KM:gq .any (opsOf Tryz.f92 11)=aI.RG:=by kernel_rfl
theorem aI.F6:eF aI.RG.2 aI.B11=true:=by kernel_rfl
def aI.l0 (k:Nat) (i:Int) (z:Bool):List ByteArray→Nt→Option Nt
  |[],n=>some n
  |s::r,n=>if i<(n.ks.length:Int) then (dK.f k (rd n.ks i) s).bind fun (x,y,b,o)=>if o=false then aI.l0 k i z r n else if z=false then (if x=1 then (bV.f k n (wrap64 (i+1)) y).bind fun n'=>aI.l0 k i z r n' else aI.l0 k i z r n) else (aM.f (wrap64 (x-2)) 0 3).bind fun c=>if c=false then aI.l0 k i z r n else if b=(⟨#[]⟩:ByteArray) then aI.l0 k i z r n else if 0≤wrap64 (x-2)∧wrap64 (x-2)<(n.ib.length:Int) then (if (n.ib.getD (wrap64 (x-2)).toNat []).length<60 then aI.l0 k i z r ⟨n.ks,n.ps,n.ss,n.ib.set (wrap64 (x-2)).toNat (n.ib.getD (wrap64 (x-2)).toNat []++[b]),n.sd⟩ else aI.l0 k i z r n) else none else none
def aI.f (k:Nat) (n:Nt) (i:Int):Option Nt:=if 0≤i∧i<(n.ps.length:Int)∧i<(n.ks.length:Int)∧0<n.ib.length∧(n.ps.getD i.toNat []).length≤1048576 then aI.l0 k i (i==wrap64 ((n.ks.length:Int)-1)) (n.ps.getD i.toNat []) ⟨n.ks,n.ps.set i.toNat [],n.ss,n.ib,n.sd⟩ else none
theorem aI.calls {k:Nat} {v0 v1 v2 v3:Value} {n m:Nt} {i:Int} {L:List SA} {w0 w:World} {b0:Nat} (hs:Sep w0 w (bA b0 #[v0,v1,v2,v3,.int .i64 n.sd] 27::fH v0 v1 v2 v3 n++L)) (h:aI.f k n i=some m):
    Calls Tryz.prog 92 #[.pointer (some ⟨b0,0,none⟩),.int .i64 i] w fun e w'=>e= .returned (.tuple #[])∧Sep w0 w' (bA b0 #[v0,v1,v2,v3,.int .i64 n.sd] 27::fH v0 v1 v2 v3 m++L):=by
 have mX:=Tryz.underlying27
 obtain ⟨ks,ps,ss,ib,sd⟩:=n
 have HS:Sep w0 w (bA b0 #[v0,v1,v2,v3,.int .i64 sd] 27::rA KI 3 v0 ks::sA KT 62 v1 ps::sA KT 62 v2 ss::sA KT 62 v3 ib::L):=hs
 clear hs
 unfold aI.f at h
 dsimp only at h⊢
 replace h:=cZ h;obtain ⟨⟨i0,i1,i2,i3,i4⟩,h⟩:=h
 obtain ⟨A2,c2,rfl⟩:=HS.jZ 3
 obtain ⟨g0,q0,rfl⟩:=HS.vN 1 (hx:=by omega)
 obtain ⟨g1,q1,rfl⟩:=HS.addr 2 (hx:=by omega)
 obtain ⟨g3,q3,rfl⟩:=HS.addr 4 (hx:=by omega)
 have p0:(0≤i)=True:=eq_true i0
 have p1:(i<(ps.length:Int))=True:=eq_true i1
 have p2:(i<(ks.length:Int))=True:=eq_true i2
 obtain ⟨AP,qP,HS,-,-⟩:=HS.mN.zf i i0 i1
 generalize ps.getD i.toNat []=P at HS h i4
 have I4:=ak i4;have H':=ak h;clear i4 h
 have hz_:∃z,(i==wrap64 ((ks.length:Int)-1))=z:=⟨_,rfl⟩
 obtain ⟨z,hz⟩:=hz_
 rw [hz] at H'
 go_enter Tryz.func92,Tryz.ntmps92
 go_upto_region 0 with fail
 have cK:=aD (HS.bf 2)
 obtain ⟨mF,pL⟩:=HS.hole i0 i1
 refine ef (n:=17) (S:=fun w'=>w'.cell? ⟨b0,0,none⟩=some (.slice (some ⟨g0,0,none⟩) ks.length q0)∧w'.cell? ⟨b0,1,none⟩=some (.slice (some ⟨g1,0,none⟩) ps.length q1)∧w'.cell? ⟨b0,2,none⟩=some (.slice A2 ss.length c2)∧w'.cell? ⟨b0,3,none⟩=some (.slice (some ⟨g3,0,none⟩) ib.length q3)∧w'.cell? ⟨b0,4,none⟩=some (.int .i64 sd)∧w'.cell? ⟨g1,i.toNat,none⟩=some (.slice AP P.length qP)) (ds:=[]) (bl 17 0) (by kernel_rfl) rfl rfl ⟨cK.1,cK.2.1,cK.2.2.1,cK.2.2.2.1,cK.2.2.2.2.1,mF⟩ (fun an=> ?_);refine bW aI.ab9 aI.ZJ (fun aC eE=> ?_)
 clear cK mF pL
 replace HS:=HS.drew
 generalize World.drew _=vO at HS an⊢
 refine ag 0 (some 11) 17 1 aC ?_
 refine ag 1 (some 12) 17 3 aC ?_
 refine ag 2 (some 13) 17 7 aC ?_
 refine cl 3 (some 14) 17 15 aC eE an ?_ (hy:=by rintro w' ⟨s0,s1,s2,s3,s4,s5⟩;go_simp;with_reducible rfl)
 refine ag 4 (some 15) 17 31 aC ?_
 refine ag 5 (some 16) 17 63 aC ?_
 refine cl 6 (some 17) 17 127 aC eE an ?_ (hy:=by rintro w' ⟨s0,s1,s2,s3,s4,s5⟩;go_simp;with_reducible rfl)
 refine ag 7 (some 18) 17 255 aC ?_
 refine ag 8 (some 19) 17 511 aC ?_
 refine ag 9 (some 20) 17 1023 aC ?_
 refine ag 10 (some 21) 17 2047 aC ?_
 refine cl 11 (some 22) 17 4095 aC eE an ?_ (hy:=by rintro w' ⟨s0,s1,s2,s3,s4,s5⟩;go_simp;with_reducible rfl)
 refine ag 12 (some 23) 17 8191 aC ?_
 refine ag 13 (some 24) 17 16383 aC ?_
 refine ag 14 (some 25) 17 32767 aC ?_
 refine ag 15 (some 4) 17 65535 aC ?_
 refine ag 16 (some 5) 17 131071 aC ?_
 refine fm (cW aC.out (by kernel_rfl)) ?_
 clear aC eE an
 have cK:=aD (HS.bf 2)
 obtain ⟨mF,pL⟩:=HS.hole i0 i1
 go_upto_region 2 with fail
 clear cK mF pL
 replace HS:=HS.Dk i0 i1 (.slice none 0 0) rfl
 obtain ⟨uI,iW,iZ⟩:=HS.gen
 rw [iW]
 clear HS iW
 have HS:=iZ
 clear iZ
 replace HS:=HS.qq Kd.string 9
 replace HS:=HS.m7.back
 replace HS:=HS.m7.jI.jI.ya.jI.jI
 try go_wp2
 go_loopg [34] P.length (fun kq v34 w'=>∃(j:Nat) (vw vp ri:List (List ByteArray)),v34= .int .i64 (j:Int)∧Aside0 (aI.l0 k i z (P.drop j) ⟨ks,vw,vp,ri,sd⟩=some m)∧j≤P.length∧P.length-j≤kq∧ri.length=ib.length∧Sep w0 w' (bA b0 #[.slice (some ⟨g0,0,none⟩) ks.length q0,.slice (some ⟨g1,0,none⟩) ps.length q1,.slice A2 ss.length c2,.slice (some ⟨g3,0,none⟩) ib.length q3,.int .i64 sd] 27::rA KI 3 (.slice (some ⟨g0,0,none⟩) ks.length q0) ks::sA KT 62 (.slice (some ⟨g1,0,none⟩) ps.length q1) vw::sA KT 62 (.slice A2 ss.length c2) vp::sA KT 62 (.slice (some ⟨g3,0,none⟩) ib.length q3) ri::rA Kd.string 9 (.slice AP P.length qP) P::L))
 case atStart=>exact ⟨0,_,_,_,rfl,H',Nat.zero_le _,Nat.le_refl _,rfl,HS⟩
 case round=>
  clear HS H'
  obtain ⟨j,vw,vp,ri,rfl,HA,j1,j2,Dm,HS⟩:=hrel
  have h:=HA.out;clear HA
  by_cases hj:j<P.length
  ·obtain ⟨s,X5⟩:∃s,aV ByteArray.empty P (j:Int)=s:=⟨_,rfl⟩
   have hd:P.drop j=s::P.drop (j+1):=by rw [←X5,List.drop_eq_getElem_cons hj];simp [aV,List.getD_eq_getElem?_getD,List.getElem?_eq_getElem hj]
   rw [hd] at h
   simp only [aI.l0] at h
   rw [if_pos i2] at h
   replace h:=bS h;obtain ⟨⟨x,y,b,o⟩,T1,h⟩:=h
   obtain ⟨gP,qP',e⟩:=HS.vN 5 (hx:=by omega)
   obtain rfl:AP=some ⟨gP,0,none⟩:=by injection e
   clear e
   have Fs:decide ((j:Int)<(P.length:Int))=true:=decide_eq_true (by omega)
   have pj0:(0≤(j:Int))=True:=eq_true (by omega)
   have XK:((j:Int)<(P.length:Int))=True:=eq_true (by omega)
   have TE:=HS.cellS 5 (n:=P.length) (j:Int) (by omega) (by omega)
   rw [X5] at TE
   rw [Int.toNat_natCast] at TE
   have TQ:=HS.DA 1 i i0 i2
   have cK:=aD (HS.bf 0)
   go_upto_region 6 with (first|(go_at_call 115;refine (dK.calls k _ _ x y b o _ T1.out).mono ?_;rintro e W_ ⟨rfl,bn⟩;replace HS:=HS.below bn;clear bn TE TQ;clear cK;have cK:=aD (HS.bf 0);have TQ:=HS.DA 1 i i0 i2)|((with_reducible refine ax (N:=8) rfl ?_);refine cm 8 #[.int .i64 0,.string (⟨#[]⟩:ByteArray),.string (⟨#[]⟩:ByteArray)] 105 ?_;intro b8 cg W_ bQ bn;replace HS:=HS.box cg bQ bn;clear cg bQ bn;clear cK;have jY:=cA (HS.bf 0);clear TQ;clear jY;have cK:=aD (HS.bf 1);have jY:=cA (HS.bf 0)))
   clear cK jY
   obtain ⟨uI,iW,iZ⟩:=(((HS.dg 0 0 (.int .i64 x) #[.int .i64 x,.string (⟨#[]⟩:ByteArray),.string (⟨#[]⟩:ByteArray)]).dg 0 1 (.string y) #[.int .i64 x,.string y,.string (⟨#[]⟩:ByteArray)]).dg 0 2 (.string b) #[.int .i64 x,.string y,.string b]).gen
   rw [iW]
   clear HS iW
   have HS:=iZ
   clear iZ
   have cK:=aD (HS.bf 1)
   have jY:=cA (HS.bf 0)
   go_upto_region 7 with fail
   generalize wrap64 (x-2)=u at h⊢
   cases o with
   |false=>
    rw [if_pos rfl] at h
    go_wp2
    replace HS:=HS.tail
    go_roundg (P.length-(j+1))
    case measure=>omega
    case rel=>exact ⟨j+1,vw,vp,ri,gm hj I4.out,⟨h⟩,hj,Nat.le_refl _,Dm,HS⟩
   |true=>
    rw [if_neg (by decide)] at h
    cases z with
    |false=>
     rw [if_pos rfl] at h
     by_cases hx:x=1
     ·rw [if_pos hx] at h
      have Tu:(x==1)=true:=beq_iff_eq.2 hx
      clear hx
      replace h:=bS h;obtain ⟨⟨N0,Kr,Kp,N1,Kq⟩,T3,h⟩:=h
      obtain ⟨e1,e2,e3⟩:=bV.keeps T3.out
      dsimp only at e1 e2 e3
      replace e1:=e1.symm;replace e2:=e2.symm;replace e3:=e3.symm
      subst e1 e2 e3
      go_wp2_with (first|(go_at_call 98;have dj:=bV.calls (n:=⟨ks,vw,vp,ri,sd⟩) (HS.jI.jI.jI.jI.jI) T3.out;refine dj.mono ?_;clear dj;rintro e W_ ⟨rfl,ij⟩;clear HS;have HS:=ij;clear ij;dsimp only [fH,List.cons_append,List.nil_append] at HS;clear cK jY;have cK:=aD (HS.bf 0);have jY:=cA (HS.bf 5)))
      replace HS:=HS.jI.tail
      go_roundg (P.length-(j+1))
      case measure=>omega
      case rel=>exact ⟨j+1,Kr,Kp,ri,gm hj I4.out,⟨h⟩,hj,Nat.le_refl _,Dm,HS⟩
     ·rw [if_neg hx] at h
      have Tu:(x==1)=false:=beq_eq_false_iff_ne.2 hx
      clear hx
      go_wp2
      replace HS:=HS.tail
      go_roundg (P.length-(j+1))
      case measure=>omega
      case rel=>exact ⟨j+1,vw,vp,ri,gm hj I4.out,⟨h⟩,hj,Nat.le_refl _,Dm,HS⟩
    |true=>
     rw [if_neg (by decide)] at h
     replace h:=bS h;obtain ⟨c,T2,h⟩:=h
     rcases Bool.eq_false_or_eq_true (x==1) with Tu|Tu
     all_goals
      cases c with
      |false=>
       rw [if_pos rfl] at h
       go_wp2_with (first|(go_at_call 70;refine (aM.calls _ _ _ _ _ T2.out).mono ?_;rintro e W_ ⟨rfl,gX,rfl⟩;replace HS:=HS.drewN gX;generalize World.drewN _ gX=W_ at HS⊢;clear cK jY;have cK:=aD (HS.bf 1);have jY:=cA (HS.bf 0)))
       replace HS:=HS.tail
       go_roundg (P.length-(j+1))
       case measure=>omega
       case rel=>exact ⟨j+1,vw,vp,ri,gm hj I4.out,⟨h⟩,hj,Nat.le_refl _,Dm,HS⟩
      |true=>
       rw [if_neg (by decide)] at h
       by_cases hb:b=(⟨#[]⟩:ByteArray)
       ·rw [if_pos hb] at h
        subst hb
        go_wp2_with (first|(go_at_call 70;refine (aM.calls _ _ _ _ _ T2.out).mono ?_;rintro e W_ ⟨rfl,gX,rfl⟩;replace HS:=HS.drewN gX;generalize World.drewN _ gX=W_ at HS⊢;clear cK jY;have cK:=aD (HS.bf 1);have jY:=cA (HS.bf 0)))
        replace HS:=HS.tail
        go_roundg (P.length-(j+1))
        case measure=>omega
        case rel=>exact ⟨j+1,vw,vp,ri,gm hj I4.out,⟨h⟩,hj,Nat.le_refl _,Dm,HS⟩
       ·rw [if_neg hb] at h
        have hbb:=nU hb
        clear hb
        replace h:=cZ h;obtain ⟨⟨u0,u1⟩,h⟩:=h
        rw [Dm] at u1
        have pu0:(0≤u)=True:=eq_true u0
        have pu1:(u<(ib.length:Int))=True:=eq_true u1
        obtain ⟨AI,qI,HS,-,-⟩:=HS.jI.zf u u0 u1
        generalize hI:ri.getD u.toNat []=I at HS h
        have GI:=ak hI;clear hI
        clear cK jY
        have cK:=aD (HS.bf 3)
        have jY:=cA (HS.bf 2)
        obtain ⟨kF,l8⟩:=HS.hole u0 u1
        by_cases hn:I.length<60
        ·rw [if_pos hn] at h
         have hnb:decide ((I.length:Int)<60)=true:=decide_eq_true (by omega)
         generalize hIb:I++[b]=I' at h
         go_upto_region 11 with (first|(go_at_call 70;refine (aM.calls _ _ _ _ _ T2.out).mono ?_;rintro e W_ ⟨rfl,gX,rfl⟩;replace HS:=HS.drewN gX;generalize World.drewN _ gX=W_ at HS⊢;clear cK jY kF l8;have cK:=aD (HS.bf 3);have jY:=cA (HS.bf 2);obtain ⟨kF,l8⟩:=HS.hole u0 u1))
         clear cK jY kF l8
         have cK:=aD (HS.bf 3)
         have jY:=cA (HS.bf 2)
         obtain ⟨kF,l8⟩:=HS.hole u0 u1
         refine ef (n:=18) (S:=fun w'=>w'.cell? ⟨b0,0,none⟩=some (.slice (some ⟨g0,0,none⟩) ks.length q0)∧w'.cell? ⟨b0,1,none⟩=some (.slice (some ⟨g1,0,none⟩) ps.length q1)∧w'.cell? ⟨b0,2,none⟩=some (.slice A2 ss.length c2)∧w'.cell? ⟨b0,3,none⟩=some (.slice (some ⟨g3,0,none⟩) ib.length q3)∧w'.cell? ⟨b0,4,none⟩=some (.int .i64 sd)∧w'.cell? ⟨b8,0,none⟩=some (.int .i64 x)∧w'.cell? ⟨b8,1,none⟩=some (.string y)∧w'.cell? ⟨b8,2,none⟩=some (.string b)∧w'.cell? ⟨g3,u.toNat,none⟩=some (.slice AI I.length qI)) (ds:=[17]) (bl 18 0) (by kernel_rfl) rfl rfl ⟨cK.1,cK.2.1,cK.2.2.1,cK.2.2.2.1,cK.2.2.2.2.1,jY.1,jY.2.1,jY.2.2.1,kF⟩ (fun an=> ?_);refine bW aI.KM aI.F6 (fun aC eE=> ?_)
         clear cK jY kF l8
         replace HS:=HS.drew
         generalize World.drew _=vO at HS an⊢
         refine ag 0 (some 92) 18 1 aC ?_
         refine ag 1 (some 93) 18 3 aC ?_
         refine ag 2 (some 94) 18 7 aC ?_
         refine cl 3 (some 95) 18 15 aC eE an ?_ (hy:=by rintro w' ⟨s0,s1,s2,s3,s4,s5,s6,s7,s8⟩;go_simp;with_reducible rfl)
         refine ag 4 (some 96) 18 31 aC ?_
         refine ag 5 (some 97) 18 63 aC ?_
         refine ag 6 (some 98) 18 127 aC ?_
         refine ag 7 (some 99) 18 255 aC ?_
         refine cl 8 (some 100) 18 511 aC eE an ?_ (hy:=by rintro w' ⟨s0,s1,s2,s3,s4,s5,s6,s7,s8⟩;go_simp;with_reducible rfl)
         refine ag 9 (some 101) 18 1023 aC ?_
         refine ag 10 (some 102) 18 2047 aC ?_
         refine cl 11 (some 103) 18 4095 aC eE an ?_ (hy:=by rintro w' ⟨s0,s1,s2,s3,s4,s5,s6,s7,s8⟩;go_simp;with_reducible rfl)
         refine ag 12 (some 104) 18 8191 aC ?_
         refine cl 13 (some 105) 18 16383 aC eE an ?_ (hy:=by rintro w' ⟨s0,s1,s2,s3,s4,s5,s6,s7,s8⟩;go_simp;with_reducible rfl)
         refine gv 14 (some 106) 18 32767 aC (fun K hK=> ?_)
         clear an
         refine Kd.jW Kd.string _ 9 ?hg (N:=106) ?hd (xs:=([b]:List ByteArray)) (inner:=[.string b]) (ok:=fun _=>True) (okp:=fun _=>True) ?hr ?hp (fun _ hk=>hk) trivial (Below.refl _ _) (Nat.le_refl _) (by simp) ?_
         (case hd=>rfl)
         (case hg=>rfl)
         (case hr=>first|(go_simp;done)|(go_simp;rfl))
         (case hp=>exact bN.one (show Kd.M Kd.string _ _ _ b [.string b] from rfl) (bN.none _ _))
         intro vU W_ bQ bn _ _
         replace HS:=HS.new (A:=rA Kd.string 9 vU [b]) bn bQ
         clear bQ bn
         obtain ⟨AU,qU,rfl⟩:=HS.lJ 0
         have cK:=aD (HS.bf 4)
         have jY:=cA (HS.bf 3)
         obtain ⟨kF,l8⟩:=HS.m7.hole u0 u1
         refine hK.out _ _ ⟨cK.1,cK.2.1,cK.2.2.1,cK.2.2.2.1,cK.2.2.2.2.1,jY.1,jY.2.1,jY.2.2.1,kF⟩ (fun an=> ?_)
         clear hK K cK jY kF l8
         refine dF (a':= ?_) ?_ ?_
         rotate_left
         ·show Act.put _ (some 106) _=_
          simp only [Act.put,List.setIfInBounds_toArray,List.set_cons_zero,List.set_cons_succ,bX,cL]
          rfl
         refine gv 15 (some 107) 18 65535 aC (fun K hK=> ?_)
         clear an
         have HU:=(HS.jb 0).2.2
         replace HS:=HS.mN
         refine Sep.append Kd.string (by rfl) (.tmp 103) (.tmp 106) 62 9 (.string ⟨#[]⟩) 16 rfl Tryz.underlying62 mK rfl (by decide) (by omega) (.slice AI I.length qI) I [b] AU 1 qU rfl rfl HS HU (fun _ _ _ _ h=>h) (by omega) ?_
         clear HS HU
         intro vI W_ HS
         rw [hIb] at HS
         obtain ⟨AI1,qI1,rfl⟩:=HS.lJ 0
         have cK:=aD (HS.bf 4)
         have jY:=cA (HS.bf 3)
         obtain ⟨kF,l8⟩:=HS.mN.hole u0 u1
         refine hK.out _ _ ⟨cK.1,cK.2.1,cK.2.2.1,cK.2.2.2.1,cK.2.2.2.2.1,jY.1,jY.2.1,jY.2.2.1,kF⟩ (fun an=> ?_)
         clear hK K cK jY kF l8
         refine dF (a':= ?_) ?_ ?_
         rotate_left
         ·show Act.put _ (some 107) _=_
          simp only [Act.put,List.setIfInBounds_toArray,List.set_cons_zero,List.set_cons_succ,bX,cL]
          rfl
         refine ag 16 (some 108) 18 131071 aC ?_
         refine mm (i:=17) (N:=none) (bl 18 262143) rfl rfl (jH aC.out (by kernel_rfl)) (by decide) (fun K hK=> ?_)
         clear an
         obtain ⟨kF,l8⟩:=HS.mN.hole u0 u1
         refine kW (w1:= ?_) (by rfl) rfl ?_ ?_
         rotate_left
         ·go_simp
          rfl
         clear kF l8
         replace HS:=HS.mN.Dk u0 u1 (.slice AI1 I'.length qI1) rfl
         refine hK.out _ _ ?_
         clear hK K
         refine fm (cW aC.out (by kernel_rfl)) ?_
         clear aC eE
         obtain ⟨uI,iW,iZ⟩:=HS.gen
         rw [iW]
         clear HS iW
         have HS:=iZ
         clear iZ
         replace HS:=HS.back
         have TT:(ri.set u.toNat I').length=ib.length:=by rw [List.length_set];exact Dm
         go_wp2
         replace HS:=HS.mN.tail
         replace HS:=HS.m7.tail
         go_roundg (P.length-(j+1))
         case measure=>omega
         case rel=>exact ⟨j+1,vw,vp,ri.set u.toNat I',gm hj I4.out,⟨h⟩,hj,Nat.le_refl _,TT,HS.jI.m7.jI.jI.jI.jI⟩
        ·rw [if_neg hn] at h
         have hnb:decide ((I.length:Int)<60)=false:=decide_eq_false (by omega)
         go_wp2_with (first|(go_at_call 70;refine (aM.calls _ _ _ _ _ T2.out).mono ?_;rintro e W_ ⟨rfl,gX,rfl⟩;replace HS:=HS.drewN gX;generalize World.drewN _ gX=W_ at HS⊢;clear cK jY kF l8;have cK:=aD (HS.bf 3);have jY:=cA (HS.bf 2);obtain ⟨kF,l8⟩:=HS.hole u0 u1))
         replace HS:=HS.rY GI
         replace HS:=HS.m7.tail
         go_roundg (P.length-(j+1))
         case measure=>omega
         case rel=>exact ⟨j+1,vw,vp,ri,gm hj I4.out,⟨h⟩,hj,Nat.le_refl _,Dm,HS.jI.m7.jI.jI.jI.jI⟩
  ·have hd:P.drop j=[]:=List.drop_eq_nil_of_le (by omega)
   rw [hd] at h
   simp only [aI.l0] at h
   obtain rfl:=Option.some.inj h
   have Fs:decide ((j:Int)<(P.length:Int))=false:=decide_eq_false (by omega)
   have cK:=aD (HS.bf 0)
   go_wp2
   refine bodyPost_end (results_none rfl _ _ _) rfl ?_
   replace HS:=HS.jI.tail
   exact ⟨rfl,HS⟩
theorem aI.nV {k:Nat} {i:Int} {z:Bool} :∀ {P:List ByteArray} {n m:Nt},aI.l0 k i z P n=some m→m.ks=n.ks∧m.sd=n.sd
 |[],n,m,h=>by
  simp only [aI.l0] at h
  obtain rfl:=Option.some.inj h
  exact ⟨rfl,rfl⟩
 |s::r,n,m,h=>by
  have ih:∀n':Nt,aI.l0 k i z r n'=some m→m.ks=n'.ks∧m.sd=n'.sd:=fun n' h'=>aI.nV h'
  simp only [aI.l0] at h
  replace h:=cZ h;obtain ⟨-,h⟩:=h
  replace h:=bS h;obtain ⟨⟨x,y,b,o⟩,-,h⟩:=h
  dsimp only at h
  repeat' split at h
  all_goals
   first
   |exact ih _ h
   |(replace h:=bS h;obtain ⟨n',T,h⟩:=h;obtain ⟨e1,e2,e3⟩:=bV.keeps T.out;have:=ih _ h;exact ⟨this.1.trans e1,this.2.trans e3⟩)
   |(replace h:=bS h;obtain ⟨c,-,h⟩:=h;(repeat' split at h);(all_goals first|exact ih _ h|(have h2:=ih _ h;exact h2)|cases h))
theorem aI.keeps {k:Nat} {n m:Nt} {i:Int} (h:aI.f k n i=some m):m.ks=n.ks∧m.sd=n.sd:=by
 unfold aI.f at h
 replace h:=cZ h;obtain ⟨-,h⟩:=h
 exact aI.nV (n:=⟨n.ks,n.ps.set i.toNat [],n.ss,n.ib,n.sd⟩) h
def bT.l0 (k:Nat):Nat→Nat→Nt→Option Nt
 |0,_,n=>some n
 |d+1,j,n=>(aI.f k n (j:Int)).bind fun n'=>bT.l0 k d (j+1) n'
def bT.f (k:Nat) (n:Nt):Option Nt:=if n.ks.length≤1048576 then bT.l0 k n.ks.length 0 n else none
theorem bT.nV {k:Nat} :∀ {d j:Nat} {n m:Nt},bT.l0 k d j n=some m→m.ks=n.ks∧m.sd=n.sd
 |0,j,n,m,h=>by
  simp only [bT.l0] at h
  obtain rfl:=Option.some.inj h
  exact ⟨rfl,rfl⟩
 |d+1,j,n,m,h=>by
  simp only [bT.l0] at h
  replace h:=bS h;obtain ⟨n',T,h⟩:=h
  have e:=aI.keeps T.out
  have e':=bT.nV h
  exact ⟨e'.1.trans e.1,e'.2.trans e.2⟩
theorem bT.keeps {k:Nat} {n m:Nt} (h:bT.f k n=some m):m.ks=n.ks∧m.sd=n.sd:=bT.nV (cZ h).2
theorem bT.calls {k:Nat} {v0 v1 v2 v3:Value} {n m:Nt} {L:List SA} {w0 w:World} {b0:Nat} (hs:Sep w0 w (bA b0 #[v0,v1,v2,v3,.int .i64 n.sd] 27::fH v0 v1 v2 v3 n++L)) (h:bT.f k n=some m):
    Calls Tryz.prog 56 #[.pointer (some ⟨b0,0,none⟩)] w fun e w'=>e= .returned (.tuple #[])∧Sep w0 w' (bA b0 #[v0,v1,v2,v3,.int .i64 n.sd] 27::fH v0 v1 v2 v3 m++L):=by
 have mX:=Tryz.underlying27
 obtain ⟨ks,ps,ss,ib,sd⟩:=n
 have HS:Sep w0 w (bA b0 #[v0,v1,v2,v3,.int .i64 sd] 27::rA KI 3 v0 ks::sA KT 62 v1 ps::sA KT 62 v2 ss::sA KT 62 v3 ib::L):=hs
 clear hs
 unfold bT.f at h
 dsimp only at h⊢
 obtain ⟨A0,c0,rfl⟩:=HS.lJ 1
 obtain ⟨A1,c1,rfl⟩:=HS.jZ 2
 obtain ⟨A2,c2,rfl⟩:=HS.jZ 3
 obtain ⟨A3,c3,rfl⟩:=HS.jZ 4
 obtain ⟨KL',h⟩:=cZ h
 have KL:=ak KL';clear KL'
 have H':=ak h;clear h
 go_enter Tryz.func56,Tryz.ntmps56
 have cK:=aD (HS.bf 0)
 go_wp2
 clear cK
 go_loopg [8] ks.length (fun kq v8 w'=>∃(j:Nat) (vw vp ri:List (List ByteArray)),v8= .int .i64 (j:Int)∧Aside0 (bT.l0 k (ks.length-j) j ⟨ks,vw,vp,ri,sd⟩=some m)∧j≤ks.length∧ks.length-j≤kq∧Sep w0 w' (bA b0 #[.slice A0 ks.length c0,.slice A1 ps.length c1,.slice A2 ss.length c2,.slice A3 ib.length c3,.int .i64 sd] 27::rA KI 3 (.slice A0 ks.length c0) ks::sA KT 62 (.slice A1 ps.length c1) vw::sA KT 62 (.slice A2 ss.length c2) vp::sA KT 62 (.slice A3 ib.length c3) ri::L))
 case atStart=>exact ⟨0,_,_,_,rfl,H',Nat.zero_le _,Nat.le_refl _,HS⟩
 case round=>
  clear HS H'
  obtain ⟨j,vw,vp,ri,rfl,HA,j1,j2,HS⟩:=hrel
  have h:=HA.out;clear HA
  by_cases hj:j<ks.length
  ·have Fs:decide ((j:Int)<(ks.length:Int))=true:=decide_eq_true (by omega)
   rw [show ks.length-j=(ks.length-(j+1))+1 from by omega] at h
   simp only [bT.l0] at h
   replace h:=bS h;obtain ⟨⟨N0,Kr,Kp,N1,Kq⟩,T1,h⟩:=h
   obtain ⟨e1,e3⟩:=aI.keeps T1.out
   dsimp only at e1 e3
   replace e1:=e1.symm;replace e3:=e3.symm
   subst e1 e3
   have cK:=aD (HS.bf 0)
   go_wp2_with (first|(go_at_call 92;have dj:=aI.calls (n:=⟨ks,vw,vp,ri,sd⟩) (HS) T1.out;refine dj.mono ?_;clear dj;rintro e W_ ⟨rfl,ij⟩;clear HS;have HS:=ij;clear ij;dsimp only [fH,List.cons_append,List.nil_append] at HS;clear cK;have cK:=aD (HS.bf 0)))
   go_roundg (ks.length-(j+1))
   case measure=>omega
   case rel=>exact ⟨j+1,_,_,_,gm hj KL.out,⟨h⟩,hj,Nat.le_refl _,HS⟩
  ·obtain rfl:j=ks.length:=by omega
   rw [Nat.sub_self] at h
   simp only [bT.l0] at h
   have Fs:decide ((ks.length:Int)<(ks.length:Int))=false:=decide_eq_false (by omega)
   obtain rfl:=Option.some.inj h
   have cK:=aD (HS.bf 0)
   go_wp2
   refine bodyPost_end (results_none rfl _ _ _) rfl ?_
   exact ⟨rfl,HS⟩
theorem aq.net {k:Nat} {v0 v1 v2 v3:Value} {n:Nt} {r:Bool} {w:World} (hn:NC w v0 v1 v2 v3 n) (h:aq.f k n.ks n.ps n.ss n.ib n.sd=some r):
    Calls Tryz.prog 35 #[.agg #[v0,v1,v2,v3,.int .i64 n.sd]] w fun e w'=>e= .returned (.bool r)∧Below w.heap.size w w':=by
  obtain ⟨A0,c0,A1,c1,A2,c2,A3,c3,⟨rfl,rfl,rfl,rfl⟩,⟨x0,y0⟩,⟨x1,y1⟩,⟨x2,y2⟩,⟨x3,y3⟩⟩:=hn
  exact aq.calls k A0 c0 n.ks A1 c1 n.ps A2 c2 n.ss A3 c3 n.ib n.sd r w x0 y0 x1 y1 x2 y2 x3 y3 h
def gY.f (k:Nat) (n:Nt):Option (Nt×Bool):=(aq.f k n.ks n.ps n.ss n.ib n.sd).bind fun g=>if g=false then some (⟨[],[],[],[],0⟩,false) else (eI.f k n).bind fun n1=>(bT.f k n1).bind fun n2=>some (n2,true)
theorem gY.calls {k:Nat} {v0 v1 v2 v3:Value} {n m:Nt} {r:Bool} {w:World} (hn:NC w v0 v1 v2 v3 n) (h:gY.f k n=some (m,r)):
    Calls Tryz.prog 11 #[.agg #[v0,v1,v2,v3,.int .i64 n.sd]] w (wW w m r):=by
 have mX:=Tryz.underlying27
 unfold gY.f at h
 obtain ⟨A0,c0,A1,c1,A2,c2,A3,c3,e_,x_⟩:=hn
 have HN:=ak (show NC w v0 v1 v2 v3 n from ⟨A0,c0,A1,c1,A2,c2,A3,c3,e_,x_⟩)
 obtain ⟨rfl,rfl,rfl,rfl⟩:=e_
 clear x_
 obtain ⟨ks,ps,ss,ib,sd⟩:=n
 dsimp only at HN h⊢
 have HS:=Sep.nil w
 replace h:=bS h;obtain ⟨g,T0,h⟩:=h
 cases g with
 |false=>
  rw [if_pos rfl] at h
  obtain ⟨rfl,rfl⟩:=(Prod.mk.injEq _ _ _ _).mp (Option.some.inj h)
  clear h
  go_enter Tryz.func11,Tryz.ntmps11
  go_wp2_with (first|((with_reducible refine ax (N:=1) rfl ?_);refine cm 1 #[.slice A0 ks.length c0,.slice A1 ps.length c1,.slice A2 ss.length c2,.slice A3 ib.length c3,.int .i64 sd] 27 ?_;intro b1 cg W_ bQ bn;replace HS:=HS.box cg bQ bn;clear cg bQ bn;have gi:=aD (HS.bf 0))|((with_reducible refine ax (N:=2) rfl ?_);refine cm 2 #[.slice none 0 0,.slice none 0 0,.slice none 0 0,.slice none 0 0,.int .i64 0] 27 ?_;intro b2 cg W_ bQ bn;replace HS:=HS.box cg bQ bn;clear cg bQ bn;clear gi;have fl:=aD (HS.bf 0);clear fl;have fl:=aD (HS.bf 0);have gi:=aD (HS.bf 1))|(go_at_call 35;have dj:=aq.net (n:=⟨ks,ps,ss,ib,sd⟩) (HN.out.below HS.base) T0.out;refine dj.mono ?_;clear dj;rintro e W_ ⟨rfl,bn⟩;replace HS:=HS.below bn;clear bn;clear fl gi;have fl:=aD (HS.bf 0);have gi:=aD (HS.bf 1)))
  have HF:=HS.ko 0 (.slice none 0 0) (.slice none 0 0) (.slice none 0 0) (.slice none 0 0) (.int .i64 0)
  refine bodyPost_ret (dI rfl _ _ b2 27 #[.slice none 0 0,.slice none 0 0,.slice none 0 0,.slice none 0 0,.int .i64 0] (0,0) _ rfl (by exact (HF.bf 0).out) Tryz.underlying27 rfl (by kernel_rfl)) rfl ?_
  exact ⟨_,_,_,_,rfl,OZ HF,HF.base⟩
 |true=>
  rw [if_neg (by decide)] at h
  replace h:=bS h;obtain ⟨⟨k1,p1,s1,i1,d1⟩,T1,h⟩:=h
  replace h:=bS h;obtain ⟨n2,T2,h⟩:=h
  go_enter Tryz.func11,Tryz.ntmps11
  go_upto_region 4 with (first|((with_reducible refine ax (N:=1) rfl ?_);refine cm 1 #[.slice A0 ks.length c0,.slice A1 ps.length c1,.slice A2 ss.length c2,.slice A3 ib.length c3,.int .i64 sd] 27 ?_;intro b1 cg W_ bQ bn;replace HS:=HS.box cg bQ bn;clear cg bQ bn;have gi:=aD (HS.bf 0))|((with_reducible refine ax (N:=2) rfl ?_);refine cm 2 #[.slice none 0 0,.slice none 0 0,.slice none 0 0,.slice none 0 0,.int .i64 0] 27 ?_;intro b2 cg W_ bQ bn;replace HS:=HS.box cg bQ bn;clear cg bQ bn;clear gi;have fl:=aD (HS.bf 0);clear fl;have fl:=aD (HS.bf 0);have gi:=aD (HS.bf 1))|(go_at_call 35;have dj:=aq.net (n:=⟨ks,ps,ss,ib,sd⟩) (HN.out.below HS.base) T0.out;refine dj.mono ?_;clear dj;rintro e W_ ⟨rfl,bn⟩;replace HS:=HS.below bn;clear bn;clear fl gi;have fl:=aD (HS.bf 0);have gi:=aD (HS.bf 1))|(go_at_call 55;have dj:=eI.calls (n:=⟨ks,ps,ss,ib,sd⟩) (HN.out.below HS.base) T1.out;refine dj.mono ?_;clear dj;rintro e W_ ⟨u0,u1,u2,u3,rfl,nu,bn⟩;replace HS:=HS.news bn nu;clear nu bn;dsimp only [fH,List.cons_append,List.nil_append] at HS;obtain ⟨B0,wM,rfl⟩:=HS.lJ 0;obtain ⟨B1,zk,rfl⟩:=HS.jZ 1;obtain ⟨B2,Cz,rfl⟩:=HS.jZ 2;obtain ⟨B3,FU,rfl⟩:=HS.jZ 3;clear fl gi;have fl:=aD (HS.bf 4);have gi:=aD (HS.bf 5))|((with_reducible refine ax (N:=4) rfl ?_);refine cm 4 #[.slice none 0 0,.slice none 0 0,.slice none 0 0,.slice none 0 0,.int .i64 0] 27 ?_;intro b4 cg W_ bQ bn;replace HS:=HS.box cg bQ bn;clear cg bQ bn;clear fl gi;have fo:=aD (HS.bf 0);clear fo;have fo:=aD (HS.bf 0)))
  clear fo
  obtain ⟨uI,iW,iZ⟩:=(((((HS.dg 0 0 (.slice B0 k1.length wM) #[.slice B0 k1.length wM,.slice none 0 0,.slice none 0 0,.slice none 0 0,.int .i64 0]).dg 0 1 (.slice B1 p1.length zk) #[.slice B0 k1.length wM,.slice B1 p1.length zk,.slice none 0 0,.slice none 0 0,.int .i64 0]).dg 0 2 (.slice B2 s1.length Cz) #[.slice B0 k1.length wM,.slice B1 p1.length zk,.slice B2 s1.length Cz,.slice none 0 0,.int .i64 0]).dg 0 3 (.slice B3 i1.length FU) #[.slice B0 k1.length wM,.slice B1 p1.length zk,.slice B2 s1.length Cz,.slice B3 i1.length FU,.int .i64 0]).dg 0 4 (.int .i64 d1) #[.slice B0 k1.length wM,.slice B1 p1.length zk,.slice B2 s1.length Cz,.slice B3 i1.length FU,.int .i64 d1]).gen
  rw [iW]
  clear HS iW
  have HS:=iZ
  clear iZ
  obtain ⟨rfl,rfl⟩:=(Prod.mk.injEq _ _ _ _).mp (Option.some.inj h)
  clear h
  obtain ⟨k2,p2,s2,i2,d2⟩:=n2
  obtain ⟨e1,e3⟩:=bT.keeps T2.out
  dsimp only at e1 e3
  subst e1 e3
  have fo:=aD (HS.bf 0)
  have fl:=aD (HS.bf 5)
  go_wp2_with (first|(go_at_call 56;have dj:=bT.calls (n:=⟨k2,p1,s1,i1,d2⟩) (HS) T2.out;refine dj.mono ?_;clear dj;rintro e W_ ⟨rfl,ij⟩;clear HS;have HS:=ij;clear ij;dsimp only [fH,List.cons_append,List.nil_append] at HS;clear fo fl;have fo:=aD (HS.bf 0);have fl:=aD (HS.bf 5)))
  have HF:=HS.ko 5 (.slice B0 k2.length wM) (.slice B1 p1.length zk) (.slice B2 s1.length Cz) (.slice B3 i1.length FU) (.int .i64 d2)
  refine bodyPost_ret (dI rfl _ _ b2 27 #[.slice B0 k2.length wM,.slice B1 p1.length zk,.slice B2 s1.length Cz,.slice B3 i1.length FU,.int .i64 d2] (0,0) _ rfl (by exact (HF.bf 5).out) Tryz.underlying27 rfl (by kernel_rfl)) rfl ?_
  replace HS:=HF
  have HF:=HS.mM.mM.mM.mM
  exact ⟨_,_,_,_,rfl,C6 HF,HF.base⟩
def bD.f (a0:Int) (a1:Int) (a2:Int):Option (Bool):=if a0≥a1 then (some (decide (a0≤a2))) else (some false)
theorem bD.calls (a0:Int) (a1:Int) (a2:Int) (r:Bool) (w:World) (h:bD.f a0 a1 a2=some r):
  Calls Tryz.prog 79 #[.int .i64 a0,.int .i64 a1,.int .i64 a2] w fun e w'=>e= .returned (.bool r)∧cH w w':=by
 have H:(if a0≥a1 then (some (decide (a0≤a2))) else (some false))=some r:=h
 clear h
 by_cases c4:a0≥a1
 ·rw [if_pos c4] at H
  have iI:=geT c4
  clear c4
  obtain rfl:=Option.some.inj H
  go_enter Tryz.func79,Tryz.ntmps79
  go_wp2
  go_ret
  exact ⟨er,gh⟩
 ·rw [if_neg c4] at H
  have iI:=geF c4
  clear c4
  obtain rfl:=Option.some.inj H
  go_enter Tryz.func79,Tryz.ntmps79
  go_wp2
  go_ret
  exact ⟨er,gh⟩
def bR.l0:Nat→Int→Int→List Int→Int→Int→Option (Bool)
  |0,_,_,_,_,_=>none
  |k+1,x1,x2,x9,iz,uM=>if uM<iz then (if 0≤uM then (if uM<(x9.length:Int) then ((bD.f (rd x9 uM) x1 x2).bind fun t184=>(if t184=true then (bR.l0 k x1 x2 x9 iz (wrap64 (uM+1))) else (some false))) else (none)) else (none)) else (some true)
def bR.f (k:Nat) (l0:List Int) (a1:Int) (a2:Int):Option (Bool):=bR.l0 k a1 a2 l0 (l0.length:Int) 0
theorem bR.calls (k:Nat) (A0:Option Addr) (c0:Nat) (l0:List Int) (a1:Int) (a2:Int) (r:Bool) (w:World) (eT:Kd.C (Kd.int .i64) w A0 l0.length l0) (fE:l0.length≤c0) (h:bR.f k l0 a1 a2=some r):
  Calls Tryz.prog 81 #[.slice A0 l0.length c0,.int .i64 a1,.int .i64 a2] w fun e w'=>e= .returned (.bool r)∧cH w w':=by
 have fB:=ak eT;have jD:=ak fE;clear eT fE
 have H:(bR.l0 k a1 a2 l0 (l0.length:Int) 0)=some r:=h
 clear h
 have H':=ak H
 clear H
 go_enter Tryz.func81,Tryz.ntmps81
 go_wp2
 go_loopg [11] k (fun kq v11 w'=>∃(fL:Int),v11= .int .i64 fL∧Aside0 (bR.l0 kq a1 a2 l0 (l0.length:Int) fL=some r)∧Aside0 (kq≤k)∧cH w w')
 case atStart=>exact ⟨(0),er,H',⟨Nat.le_refl _⟩,gh⟩
 case round=>
  clear H'
  obtain ⟨fL,rfl,HA,fP,⟨m1,rfl⟩⟩:=hrel
  cases gk with
  |zero=>exact absurd HA.out (by simp [bR.l0])
  |succ k1=>
   have H:=HA.out;clear HA
   simp only [bR.l0] at H
   by_cases c4:fL<(l0.length:Int)
   ·rw [if_pos c4] at H
    have iI:=decide_eq_true c4
    clear c4;replace H:=cZ H;obtain ⟨c5,H⟩:=H;have jg:=decide_eq_true c5;clear c5;replace H:=cZ H;obtain ⟨c6,H⟩:=H;have jz:=decide_eq_true c6;clear c6;replace H:=bS H;obtain ⟨t184,A7,H⟩:=H
    by_cases c8:t184=true
    ·subst c8
     have H1:(bR.l0 k1 a1 a2 l0 (l0.length:Int) (wrap64 (fL+1)))=some r:=by rw [if_pos rfl] at H;exact H
     clear H
     have H:=H1
     clear H1
     have H':=ak H
     clear H
     obtain ⟨ada,acU,aac,UW,Pr⟩:=m5 (Kd.jA fB.out fL)
     cases UW
     go_wp2_with (first|(go_at_call 79;(with_reducible refine (bD.calls (rd l0 fL) a1 a2 true _ A7.out).mono ?_);rintro e w' ⟨rfl,⟨nd,rfl⟩⟩))
     go_roundg k1
     case measure=>have:=fP.out;omega
     case rel=>exact ⟨(wrap64 (fL+1)),er,H',⟨by have:=fP.out;omega⟩,gh⟩
    ·replace c8:=Bool.eq_false_iff.mpr c8
     subst c8
     have H1:(some false)=some r:=by rw [if_neg (show¬(false=true) by decide)] at H;exact H
     clear H
     have H:=H1
     clear H1
     obtain rfl:=Option.some.inj H
     obtain ⟨ada,acU,aac,UW,Pr⟩:=m5 (Kd.jA fB.out fL)
     cases UW
     go_wp2_with (first|(go_at_call 79;(with_reducible refine (bD.calls (rd l0 fL) a1 a2 false _ A7.out).mono ?_);rintro e w' ⟨rfl,⟨nd,rfl⟩⟩))
     go_ret
     exact ⟨er,gh⟩
   ·rw [if_neg c4] at H
    have iI:=decide_eq_false c4
    clear c4
    obtain rfl:=Option.some.inj H
    go_wp2
    go_ret
    exact ⟨er,gh⟩
def cM.l0:Nat→List ByteArray→List ByteArray→Int→Int→Option (Bool)
  |0,_,_,_,_=>none
  |k+1,x0,x5,x6,x7=>if x7<x6 then (if 0≤x7 then (if x7<(x5.length:Int) then (if ((aV ByteArray.empty x5 x7).size:Int)=24 then (if x7>0 then (if 0≤(wrap64 (x7-1)) then (if (wrap64 (x7-1))<(x0.length:Int) then (if ((Op.bytesLess ((aV ByteArray.empty x0 (wrap64 (x7-1))).toList) ((aV ByteArray.empty x5 x7).toList))=true) then (cM.l0 k x0 x5 x6 (wrap64 (x7+1))) else (some false)) else (none)) else (none)) else (cM.l0 k x0 x5 x6 (wrap64 (x7+1)))) else (some false)) else (none)) else (none)) else (some (decide ((x0.length:Int)≤100)))
def cM.f (k:Nat) (l0:List ByteArray):Option (Bool):=cM.l0 k l0 l0 (l0.length:Int) 0
theorem cM.calls (k:Nat) (A0:Option Addr) (c0:Nat) (l0:List ByteArray) (r:Bool) (w:World) (eT:Kd.C Kd.string w A0 l0.length l0) (fE:l0.length≤c0) (h:cM.f k l0=some r):
  Calls Tryz.prog 82 #[.slice A0 l0.length c0] w fun e w'=>e= .returned (.bool r)∧cH w w':=by
 have fB:=ak eT;have jD:=ak fE;clear eT fE
 have H:(cM.l0 k l0 l0 (l0.length:Int) 0)=some r:=h
 clear h
 have H':=ak H
 clear H
 go_enter Tryz.func82,Tryz.ntmps82
 go_wp2
 go_loopg [7] k (fun kq v7 w'=>∃(de:Int),v7= .int .i64 de∧Aside0 (cM.l0 kq l0 l0 (l0.length:Int) de=some r)∧Aside0 (kq≤k)∧cH w w')
 case atStart=>exact ⟨(0),er,H',⟨Nat.le_refl _⟩,gh⟩
 case round=>
  clear H'
  obtain ⟨de,rfl,HA,fP,⟨m1,rfl⟩⟩:=hrel
  cases gk with
  |zero=>exact absurd HA.out (by simp [cM.l0])
  |succ k1=>
   have H:=HA.out;clear HA
   simp only [cM.l0] at H
   by_cases c2:de<(l0.length:Int)
   ·rw [if_pos c2] at H
    have oQ:=decide_eq_true c2
    clear c2;replace H:=cZ H;obtain ⟨c3,H⟩:=H;have jh:=decide_eq_true c3;clear c3;replace H:=cZ H;obtain ⟨c4,H⟩:=H;have iI:=decide_eq_true c4;clear c4
    by_cases c5:((aV ByteArray.empty l0 de).size:Int)=24
    ·rw [if_pos c5] at H
     have jg:=kI c5
     have BZ:=kH c5
     clear c5
     by_cases c6:de>0
     ·rw [if_pos c6] at H
      have jz:=H6 c6
      clear c6
      obtain ⟨nq,uZ⟩:∃j_:Int,(wrap64 (de-1))=j_:=⟨_,rfl⟩
      replace H:(if 0≤(nq) then (if (nq)<(l0.length:Int) then (if ((Op.bytesLess ((aV ByteArray.empty l0 (nq)).toList) ((aV ByteArray.empty l0 de).toList))=true) then (cM.l0 k1 l0 l0 (l0.length:Int) (wrap64 (de+1))) else (some false)) else (none)) else (none))=some r:=by first|(rw [uZ] at H;exact H)|(simp only [uZ] at H⊢;exact H)
      have Q8:(IntKind.i64.wrap (de-1))=nq:=(bX _).trans uZ
      replace H:=cZ H;obtain ⟨c8,H⟩:=H;have wm:=decide_eq_true c8;clear c8;replace H:=cZ H;obtain ⟨c9,H⟩:=H;have lQ:=decide_eq_true c9;clear c9
      by_cases gu:((Op.bytesLess ((aV ByteArray.empty l0 (nq)).toList) ((aV ByteArray.empty l0 de).toList))=true)
      ·rw [if_pos gu] at H
       have kC:(Op.bytesLess ((aV ByteArray.empty l0 (nq)).toList) ((aV ByteArray.empty l0 de).toList))=true:=gu
       clear gu
       have H':=ak H
       clear H
       obtain ⟨AE,Ay,DY,FR,Bk⟩:=m5 (Kd.bh fB.out de)
       cases FR
       have E6:0≤((nq):Int):=da
       have EK:(nq)<(l0.length:Int):=da
       obtain ⟨Nk,UU,Pq⟩:=Kd.bh fB.out (nq) E6 EK
       obtain rfl:DY=Nk:=(by injection UU)
       replace E6:=eq_true E6;replace EK:=eq_true EK;go_wp2
       go_roundg k1
       case measure=>have:=fP.out;omega
       case rel=>exact ⟨(wrap64 (de+1)),er,H',⟨by have:=fP.out;omega⟩,gh⟩
      ·rw [if_neg gu] at H
       have kC:(Op.bytesLess ((aV ByteArray.empty l0 (nq)).toList) ((aV ByteArray.empty l0 de).toList))=false:=by simpa using gu
       clear gu
       obtain rfl:=Option.some.inj H
       obtain ⟨AE,Ay,DY,FR,Bk⟩:=m5 (Kd.bh fB.out de)
       cases FR
       have E6:0≤((nq):Int):=da
       have EK:(nq)<(l0.length:Int):=da
       obtain ⟨Nk,UU,Pq⟩:=Kd.bh fB.out (nq) E6 EK
       obtain rfl:DY=Nk:=(by injection UU)
       replace E6:=eq_true E6;replace EK:=eq_true EK;go_wp2
       go_ret
       exact ⟨by first|rfl|(simp;done)|(simp only [←uZ]<;>(first|rfl|simp))|(simp [*];done),gh⟩
     ·rw [if_neg c6] at H
      have jz:=H7 c6
      clear c6
      have H':=ak H
      clear H
      have AE:0≤(de:Int):=da
      have Ay:de<(l0.length:Int):=da
      obtain ⟨DY,FR,Bk⟩:=Kd.bh fB.out de AE Ay
      cases FR
      replace AE:=eq_true AE;replace Ay:=eq_true Ay;go_wp2
      go_roundg k1
      case measure=>have:=fP.out;omega
      case rel=>exact ⟨(wrap64 (de+1)),er,H',⟨by have:=fP.out;omega⟩,gh⟩
    ·rw [if_neg c5] at H
     have jg:=jV c5
     have BZ:=jU c5
     obtain rfl:=Option.some.inj H
     have AE:0≤(de:Int):=da
     have Ay:de<(l0.length:Int):=da
     obtain ⟨DY,FR,Bk⟩:=Kd.bh fB.out de AE Ay
     cases FR
     replace AE:=eq_true AE;replace Ay:=eq_true Ay;go_wp2
     go_ret
     exact ⟨er,gh⟩
   ·rw [if_neg c2] at H
    have oQ:=decide_eq_false c2
    clear c2
    obtain rfl:=Option.some.inj H
    go_wp2
    go_ret
    exact ⟨er,gh⟩
end Go.Proofs.YtihekdlcfohkkaaGreatDoor.QFnNet
