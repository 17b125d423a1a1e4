-- printed by this session's own program (wip/tools/pp.py: the kit's print.py with changes); Lean checks it
import Derived.Test.YtihekdlcfohkkaaGreatDoorQFnNetx0
import Derived.Test.YtihekdlcfohkkaaGreatDoorQFnNetx2
import Derived.Test.YtihekdlcfohkkaaGreatDoorQFnNetx3
namespace Go.Proofs.YtihekdlcfohkkaaGreatDoor.QFnNet
open Go.RowKit Go.Proofs.YtihekdlcfohkkaaGreatDoorW.PrintWords Go.Proofs.YtihekdlcfohkkaaGreatDoorW.PrintLast Go.Proofs.YtihekdlcfohkkaaGreatDoorW.PrintMore
attribute [local go_sem] max2_int min2_int max_two min_two max_three min_three max_four min_four strLss strGtr strLeq strGeq
set_option linter.unusedVariables false
set_option linter.unusedSimpArgs false
set_option maxHeartbeats 16000000
set_option maxRecDepth 100000
def fS.f (a0:Int):Option (Bool):=(bD.f a0 0 65535).bind fun t212=>(some t212)
theorem fS.calls (a0:Int) (r:Bool) (w:World) (h:fS.f a0=some r):
  Calls Tryz.prog 109 #[.int .i64 a0] w fun e w'=>e= .returned (.bool r)∧cH w w':=by
 have H:((bD.f a0 0 65535).bind fun t212=>(some t212))=some r:=h
 clear h;replace H:=bS H;obtain ⟨t212,A2,H⟩:=H
 obtain rfl:=Option.some.inj H
 go_enter Tryz.func109,Tryz.ntmps109
 go_wp2_with (first|(go_at_call 79;(with_reducible refine (bD.calls a0 0 65535 t212 _ A2.out).mono ?_);rintro e w' ⟨rfl,⟨nd,rfl⟩⟩))
 go_ret
 exact ⟨er,gh⟩
def gW.f (k:Nat) (a0 a1:ByteArray):Option ByteArray:=if a0.size≤a1.size then (if a0.size≤1048576 then some (ot a0 a1) else none) else none
theorem gW.calls (k:Nat) (a0 a1:ByteArray) (r:ByteArray) (w:World) (h:gW.f k a0 a1=some r):
 Calls Tryz.prog 110 #[.string a0,.string a1] w fun e w'=>e= .returned (.string r)∧Below w.heap.size w w':=by
 unfold gW.f at h
 replace h:=cZ h;obtain ⟨hl,h⟩:=h
 replace h:=cZ h;obtain ⟨hm,h⟩:=h
 obtain rfl:=Option.some.inj h
 clear h
 have HL:=ak hl;have HM:=ak hm;clear hl hm
 have HCV:=ak (fun W=>vz (P:=Tryz.prog) 9 56 5 Tryz.underlying9 Tryz.underlying56 Tryz.underlying5 a0 W)
 go_enter Tryz.func110,Tryz.ntmps110
 have Qg:=ak (lY.start a0 a1 w 5)
 have Qr:=ak (vM (Below.refl w.heap.size w) (Nat.le_refl _) 5 a0)
 have NO:=HCV.out w
 clear HCV
 generalize hg:w.heap.size=g at Qg Qr NO
 generalize hW:Lib.bytesWorld w 5 a0=W1 at Qg Qr NO
 generalize Ut:grownCap w a0.size 0 5=cp at NO
 clear hW Ut
 go_wp2_with (simp only [NO,Result.andThen])
 clear NO
 go_loopg [11] a0.size (fun kq v11 w'=>∃(i:Int),v11= .int .i64 i∧0≤i∧i≤a0.size∧(a0.size-i.toNat:Nat)≤kq∧Aside0 (lY a0 a1 g i w')∧Aside0 (Below g w w'))
 case atStart=>exact ⟨0,rfl,Int.le_refl _,by omega,by omega,Qg,Qr⟩
 case round=>
 clear Qg Qr
 obtain ⟨i,rfl,we,Bo,hk,HX,HB⟩:=hrel
 by_cases eO:i<(a0.size:Int)
 ·have c1:decide (i<(a0.size:Int))=true:=decide_eq_true eO
  have p4:0≤i:=we
  have q4:i<(a1.size:Int):=by have:=HL.out;omega
  have hx4:=kD a1 i
  obtain ⟨hz,hf⟩:=HX.out.cell we eO
  have HX2:=ak ((show lY a0 a1 g i wr.drew from HX.out).put we eO HM.out)
  have HB2:=ak (Below.setCell (ig HB.out) (show g≤(Addr.mk g i.toNat none).block from Nat.le_refl _) (.int .u8 (Go.bits .xor .u8 (bt a0 i) (bt a1 i))))
  replace p4:=eq_true p4;replace q4:=eq_true q4;go_wp2
  go_region
  go_wp2
  go_roundg (a0.size-(i+1).toNat)
  case measure=>have:=HM.out;omega
  case rel=>exact ⟨wrap64 (i+1),er,by rw [IntWalk.wrap64_in _ (by have:=HM.out;omega)];omega,by rw [IntWalk.wrap64_in _ (by have:=HM.out;omega)];omega,by rw [IntWalk.wrap64_in _ (by have:=HM.out;omega)];exact Nat.le_refl _,HX2,HB2⟩
 ·have c1:decide (i<(a0.size:Int))=false:=decide_eq_false eO
  have sU:=pS (P:=Tryz.prog) (c:=cp) Tryz.underlying56 Tryz.underlying5 Tryz.underlying9 (HX.out.done eO (by have:=HM.out;omega))
  go_wp2
  go_ret
  subst hg
  exact ⟨er,HB.out⟩
def iF.f (k:Nat) (l0:List Int):Option (Bool):=if (l0.length:Int)≤8 then ((bR.f k l0 0 65535).bind fun t213=>(some t213)) else (some false)
theorem iF.calls (k:Nat) (A0:Option Addr) (c0:Nat) (l0:List Int) (r:Bool) (w:World) (eT:Kd.C (Kd.int .i64) w A0 l0.length l0) (fE:l0.length≤c0) (h:iF.f k l0=some r):
  Calls Tryz.prog 154 #[.slice A0 l0.length c0] w fun e w'=>e= .returned (.bool r)∧cH w w':=by
 have fB:=ak eT;have jD:=ak fE;clear eT fE
 have H:(if (l0.length:Int)≤8 then ((bR.f k l0 0 65535).bind fun t213=>(some t213)) else (some false))=some r:=h
 clear h
 by_cases c2:(l0.length:Int)≤8
 ·rw [if_pos c2] at H
  have oQ:=decide_eq_true c2
  have DI:decide (l0.length≤8)=true:=decide_eq_true (by omega)
  clear c2;replace H:=bS H;obtain ⟨t213,A3,H⟩:=H
  obtain rfl:=Option.some.inj H
  go_enter Tryz.func154,Tryz.ntmps154
  go_wp2_with (first|(go_at_call 81;(with_reducible refine (bR.calls k _ _ l0 0 65535 t213 _ ?side1 ?side2 A3.out).mono ?_);(case side1=>exact cd fB.out);(case side2=>exact jD.out);rintro e w' ⟨rfl,⟨nd,rfl⟩⟩))
  go_ret
  exact ⟨er,gh⟩
 ·rw [if_neg c2] at H
  have oQ:=decide_eq_false c2
  have DI:decide (l0.length≤8)=false:=decide_eq_false (by omega)
  clear c2
  obtain rfl:=Option.some.inj H
  go_enter Tryz.func154,Tryz.ntmps154
  go_wp2
  go_ret
  exact ⟨er,gh⟩
def fY.f (k:Nat) (l0:List Int) (a1:Int) (a2:ByteArray):Option (Bool):=(iF.f k l0).bind fun t214=>(if t214=true then ((fS.f a1).bind fun t215=>(if t215=true then (if (a2.size:Int)≤40 then (some (((a2.size:Int)%2)==0)) else (some false)) else (some false))) else (some false))
theorem fY.calls (k:Nat) (A0:Option Addr) (c0:Nat) (l0:List Int) (a1:Int) (a2:ByteArray) (r:Bool) (w:World) (eT:Kd.C (Kd.int .i64) w A0 l0.length l0) (fE:l0.length≤c0) (h:fY.f k l0 a1 a2=some r):
  Calls Tryz.prog 137 #[.slice A0 l0.length c0,.int .i64 a1,.string a2] w fun e w'=>e= .returned (.bool r)∧cH w w':=by
 have fB:=ak eT;have jD:=ak fE;clear eT fE
 have H:((iF.f k l0).bind fun t214=>(if t214=true then ((fS.f a1).bind fun t215=>(if t215=true then (if (a2.size:Int)≤40 then (some (((a2.size:Int)%2)==0)) else (some false)) else (some false))) else (some false)))=some r:=h
 clear h;replace H:=bS H;obtain ⟨t214,A4,H⟩:=H
 by_cases c5:t214=true
 ·subst c5
  have H1:((fS.f a1).bind fun t215=>(if t215=true then (if (a2.size:Int)≤40 then (some (((a2.size:Int)%2)==0)) else (some false)) else (some false)))=some r:=by rw [if_pos rfl] at H;exact H
  clear H
  have H:=H1
  clear H1;replace H:=bS H;obtain ⟨t215,A6,H⟩:=H
  by_cases c7:t215=true
  ·subst c7
   have H1:(if (a2.size:Int)≤40 then (some (((a2.size:Int)%2)==0)) else (some false))=some r:=by rw [if_pos rfl] at H;exact H
   clear H
   have H:=H1
   clear H1
   by_cases c8:(a2.size:Int)≤40
   ·rw [if_pos c8] at H
    have wm:=decide_eq_true c8
    have DD:decide (a2.size≤40)=true:=decide_eq_true (by omega)
    clear c8
    obtain rfl:=Option.some.inj H
    go_enter Tryz.func137,Tryz.ntmps137
    go_wp2_with (first|(go_at_call 154;(with_reducible refine (iF.calls k _ _ l0 true _ ?side1 ?side2 A4.out).mono ?_);(case side1=>exact cd fB.out);(case side2=>exact jD.out);rintro e w' ⟨rfl,⟨nd,rfl⟩⟩)|(go_at_call 109;(with_reducible refine (fS.calls a1 true _ A6.out).mono ?_);rintro e w' ⟨rfl,⟨nd,rfl⟩⟩))
    go_ret
    exact ⟨er,gh⟩
   ·rw [if_neg c8] at H
    have wm:=decide_eq_false c8
    have DD:decide (a2.size≤40)=false:=decide_eq_false (by omega)
    clear c8
    obtain rfl:=Option.some.inj H
    go_enter Tryz.func137,Tryz.ntmps137
    go_wp2_with (first|(go_at_call 154;(with_reducible refine (iF.calls k _ _ l0 true _ ?side1 ?side2 A4.out).mono ?_);(case side1=>exact cd fB.out);(case side2=>exact jD.out);rintro e w' ⟨rfl,⟨nd,rfl⟩⟩)|(go_at_call 109;(with_reducible refine (fS.calls a1 true _ A6.out).mono ?_);rintro e w' ⟨rfl,⟨nd,rfl⟩⟩))
    go_ret
    exact ⟨er,gh⟩
  ·replace c7:=Bool.eq_false_iff.mpr c7
   subst c7
   have H1:(some false)=some r:=by rw [if_neg (show¬(false=true) by decide)] at H;exact H
   clear H
   have H:=H1
   clear H1
   obtain rfl:=Option.some.inj H
   go_enter Tryz.func137,Tryz.ntmps137
   go_wp2_with (first|(go_at_call 154;(with_reducible refine (iF.calls k _ _ l0 true _ ?side1 ?side2 A4.out).mono ?_);(case side1=>exact cd fB.out);(case side2=>exact jD.out);rintro e w' ⟨rfl,⟨nd,rfl⟩⟩)|(go_at_call 109;(with_reducible refine (fS.calls a1 false _ A6.out).mono ?_);rintro e w' ⟨rfl,⟨nd,rfl⟩⟩))
   go_ret
   exact ⟨er,gh⟩
 ·replace c5:=Bool.eq_false_iff.mpr c5
  subst c5
  have H1:(some false)=some r:=by rw [if_neg (show¬(false=true) by decide)] at H;exact H
  clear H
  have H:=H1
  clear H1
  obtain rfl:=Option.some.inj H
  go_enter Tryz.func137,Tryz.ntmps137
  go_wp2_with (first|(go_at_call 154;(with_reducible refine (iF.calls k _ _ l0 false _ ?side1 ?side2 A4.out).mono ?_);(case side1=>exact cd fB.out);(case side2=>exact jD.out);rintro e w' ⟨rfl,⟨nd,rfl⟩⟩))
  go_ret
  exact ⟨er,gh⟩
def jn.f (a0:Int) (a1:Int):Option (Int):=some (Int.tmod (Int.tmod (wrap64 ((wrap64 ((wrap64 ((Int.tmod (wrap64 (a1+(Int.tmod a0 256))) 256)*(Int.tmod (wrap64 (a1+(Int.tmod a0 256))) 256)))+(wrap64 ((Int.tmod (wrap64 (a1+(Int.tmod a0 256))) 256)*(wrap64 (Int.tdiv a0 256))))))+29)) 65521) 256)
theorem jn.calls (a0:Int) (a1:Int) (r:Int) (w:World) (h:jn.f a0 a1=some r):
  Calls Tryz.prog 155 #[.int .i64 a0,.int .i64 a1] w fun e w'=>e= .returned (.int .i64 r)∧cH w w':=by
 have H:(some (Int.tmod (Int.tmod (wrap64 ((wrap64 ((wrap64 ((Int.tmod (wrap64 (a1+(Int.tmod a0 256))) 256)*(Int.tmod (wrap64 (a1+(Int.tmod a0 256))) 256)))+(wrap64 ((Int.tmod (wrap64 (a1+(Int.tmod a0 256))) 256)*(wrap64 (Int.tdiv a0 256))))))+29)) 65521) 256))=some r:=h
 clear h
 obtain rfl:=Option.some.inj H
 go_enter Tryz.func155,Tryz.ntmps155
 go_wp2
 go_ret
 exact ⟨er,gh⟩
def dN.l0:Nat→Int→Int→List Int→Int→Int→Option (Int)
  |0,_,_,_,_,_=>none
  |k+1,x5,x6,jL,kg,WV=>if WV<kg then (if 0≤WV then (if WV<(jL.length:Int) then ((jn.f (rd jL WV) x6).bind fun t217=>(dN.l0 k x6 (Go.bits .xor .i64 x5 t217) jL kg (wrap64 (WV+1)))) else (none)) else (none)) else (some (wrap64 ((wrap64 (256*x5))+x6)))
def dN.f (k:Nat) (l0:List Int) (a1:Int):Option (Int):=dN.l0 k (wrap64 (Int.tdiv a1 256)) (Int.tmod a1 256) l0 (l0.length:Int) 0
theorem dN.calls (k:Nat) (A0:Option Addr) (c0:Nat) (l0:List Int) (a1:Int) (r:Int) (w:World) (eT:Kd.C (Kd.int .i64) w A0 l0.length l0) (fE:l0.length≤c0) (h:dN.f k l0 a1=some r):
  Calls Tryz.prog 138 #[.slice A0 l0.length c0,.int .i64 a1] w fun e w'=>e= .returned (.int .i64 r)∧cH w w':=by
 have fB:=ak eT;have jD:=ak fE;clear eT fE
 have H:(dN.l0 k (wrap64 (Int.tdiv a1 256)) (Int.tmod a1 256) l0 (l0.length:Int) 0)=some r:=h
 clear h
 have H':=ak H
 clear H
 go_enter Tryz.func138,Tryz.ntmps138
 go_wp2
 go_loopg [5,6,16] k (fun kq v5 v6 v16 w'=>∃(dm:Int) (xh:Int) (xj:Int),v5= .int .i64 dm∧v6= .int .i64 xh∧v16= .int .i64 xj∧Aside0 (dN.l0 kq dm xh l0 (l0.length:Int) xj=some r)∧Aside0 (kq≤k)∧cH w w')
 case atStart=>exact ⟨(wrap64 (Int.tdiv a1 256)),(Int.tmod a1 256),(0),er,er,er,H',⟨Nat.le_refl _⟩,gh⟩
 case round=>
  clear H'
  obtain ⟨dm,xh,xj,rfl,rfl,rfl,HA,fP,⟨m1,rfl⟩⟩:=hrel
  cases gk with
  |zero=>exact absurd HA.out (by simp [dN.l0])
  |succ k1=>
   have H:=HA.out;clear HA
   simp only [dN.l0] at H
   by_cases c3:xj<(l0.length:Int)
   ·rw [if_pos c3] at H
    have jh:=decide_eq_true c3
    clear c3;replace H:=cZ H;obtain ⟨c4,H⟩:=H;have iI:=decide_eq_true c4;clear c4;replace H:=cZ H;obtain ⟨c5,H⟩:=H;have jg:=decide_eq_true c5;clear c5;replace H:=bS H;obtain ⟨t217,A6,H⟩:=H
    have H':=ak H
    clear H
    obtain ⟨ahe,ag3,af4,aeB,abD⟩:=m5 (Kd.jA fB.out xj)
    cases aeB
    go_wp2_with (first|(go_at_call 155;(with_reducible refine (jn.calls (rd l0 xj) xh t217 _ A6.out).mono ?_);rintro e w' ⟨rfl,⟨nd,rfl⟩⟩))
    go_roundg k1
    case measure=>have:=fP.out;omega
    case rel=>exact ⟨(xh),(Go.bits .xor .i64 dm t217),(wrap64 (xj+1)),er,er,er,H',⟨by have:=fP.out;omega⟩,gh⟩
   ·rw [if_neg c3] at H
    have jh:=decide_eq_false c3
    clear c3
    obtain rfl:=Option.some.inj H
    go_wp2
    go_ret
    exact ⟨er,gh⟩
def cY.l0:Nat→List Int→Int→ByteArray→List Int→Int→Option (ByteArray×Bool)
  |0,_,_,_,_,_=>none
  |k+1,x0,x1,x2,x8,x9=>if x9<(x2.size:Int) then (if 0≤x9 then (if 0≤(wrap64 (x9+1)) then (if (wrap64 (x9+1))<(x2.size:Int) then ((dN.f k x0 (Go.bits .xor .i64 (wrap64 ((wrap64 (256*(wrap64 (bt x2 x9))))+(wrap64 (bt x2 (wrap64 (x9+1)))))) x1)).bind fun t219=>((some (([(wrap64 (Int.tdiv t219 256))%256,(Int.tmod t219 256)%256]:List Int):List Int)).bind fun r9=>(if x8.length+r9.length<140737488355328 then (cY.l0 k x0 t219 x2 (x8++r9) (wrap64 (x9+2))) else (none)))) else (none)) else (none)) else (none)) else (some (strOfNums x8,true))
def cY.f (k:Nat) (l0:List Int) (a1:Int) (a2:ByteArray):Option (ByteArray×Bool):=(fY.f k l0 a1 a2).bind fun t218=>(if t218=true then (cY.l0 k l0 a1 a2 ([]:List Int) 0) else (some ((⟨#[]⟩:ByteArray),false)))
theorem cY.calls (k:Nat) (A0:Option Addr) (c0:Nat) (l0:List Int) (a1:Int) (a2:ByteArray) (r1:ByteArray) (r2:Bool) (w:World) (eT:Kd.C (Kd.int .i64) w A0 l0.length l0) (fE:l0.length≤c0) (h:cY.f k l0 a1 a2=some (r1,r2)):
  Calls Tryz.prog 121 #[.slice A0 l0.length c0,.int .i64 a1,.string a2] w fun e w'=>e= .returned (.tuple #[.string r1,.bool r2])∧Below w.heap.size w w':=by
 have fB:=ak eT;have jD:=ak fE;clear eT fE
 have HB:=ak (Below.refl w.heap.size w)
 have H:((fY.f k l0 a1 a2).bind fun t218=>(if t218=true then (cY.l0 k l0 a1 a2 ([]:List Int) 0) else (some ((⟨#[]⟩:ByteArray),false))))=some (r1,r2):=h
 clear h;replace H:=bS H;obtain ⟨t218,A4,H⟩:=H
 by_cases c5:t218=true
 ·subst c5
  have H1:(cY.l0 k l0 a1 a2 ([]:List Int) 0)=some (r1,r2):=by rw [if_pos rfl] at H;exact H
  clear H
  have H:=H1
  clear H1
  have H':=ak H
  clear H
  go_enter Tryz.func121,Tryz.ntmps121
  go_wp2_with (first|(go_at_call 137;(with_reducible refine (fY.calls k _ _ l0 a1 a2 true _ ?side1 ?side2 A4.out).mono ?_);(case side1=>exact cd fB.out);(case side2=>exact jD.out);rintro e w' ⟨rfl,⟨nd,rfl⟩⟩;(try first|exact ⟨rfl,_,World.drewN_drewN _ _ _⟩|exact ⟨rfl,_,Eq.trans (World.drewN_drewN _ _ _) (congrArg (World.drewN _) (Nat.add_assoc _ _ _))⟩)))
  repeat (go_quiet (first|(go_at_call 137;(with_reducible refine (fY.calls k _ _ l0 a1 a2 true _ ?side1 ?side2 A4.out).mono ?_);(case side1=>exact cd fB.out);(case side2=>exact jD.out);rintro e w' ⟨rfl,⟨nd,rfl⟩⟩;(try first|exact ⟨rfl,_,World.drewN_drewN _ _ _⟩|exact ⟨rfl,_,Eq.trans (World.drewN_drewN _ _ _) (congrArg (World.drewN _) (Nat.add_assoc _ _ _))⟩)));try go_wp2_with (first|(go_at_call 137;(with_reducible refine (fY.calls k _ _ l0 a1 a2 true _ ?side1 ?side2 A4.out).mono ?_);(case side1=>exact cd fB.out);(case side2=>exact jD.out);rintro e w' ⟨rfl,⟨nd,rfl⟩⟩;(try first|exact ⟨rfl,_,World.drewN_drewN _ _ _⟩|exact ⟨rfl,_,Eq.trans (World.drewN_drewN _ _ _) (congrArg (World.drewN _) (Nat.add_assoc _ _ _))⟩))))
  go_loopg [1,8,9] k (fun kq v1 v8 v9 w'=>∃(si:Int) (cO:List Int) (gB:Int),v1= .int .i64 si∧v9= .int .i64 gB∧Aside0 (cY.l0 kq l0 si a2 cO gB=some (r1,r2))∧Aside0 (kq≤k)∧Aside0 (Kd.R (Kd.int .u8) 5 w' w.heap.size (fun _=>True) v8 cO)∧Aside0 (Below w.heap.size w w'))
  case atStart=>exact ⟨(a1),(([]:List Int)),(0),er,er,H',⟨Nat.le_refl _⟩,⟨AQ⟩,⟨ai HB⟩⟩
  case round=>
   clear H'
   (try clear c5)
   obtain ⟨si,cO,gB,rfl,rfl,HA,fP,gU,HB⟩:=hrel
   cases gk with
   |zero=>exact absurd HA.out (by simp [cY.l0])
   |succ k1=>
    have H:=HA.out;clear HA
    simp only [cY.l0] at H
    by_cases c6:gB<(a2.size:Int)
    ·rw [if_pos c6] at H
     have jz:=decide_eq_true c6
     clear c6;replace H:=cZ H;obtain ⟨c7,H⟩:=H;have rF:=decide_eq_true c7;clear c7
     obtain ⟨lU,tQ⟩:∃j_:Int,(wrap64 (gB+1))=j_:=⟨_,rfl⟩
     replace H:(if 0≤(lU) then (if (lU)<(a2.size:Int) then ((dN.f k1 l0 (Go.bits .xor .i64 (wrap64 ((wrap64 (256*(wrap64 (bt a2 gB))))+(wrap64 (bt a2 (lU))))) si)).bind fun t219=>((some (([(wrap64 (Int.tdiv t219 256))%256,(Int.tmod t219 256)%256]:List Int):List Int)).bind fun r9=>(if cO.length+r9.length<140737488355328 then (cY.l0 k1 l0 t219 a2 (cO++r9) (wrap64 (gB+2))) else (none)))) else (none)) else (none))=some (r1,r2):=by first|(rw [tQ] at H;exact H)|(simp only [tQ] at H⊢;exact H)
     have Q7:(IntKind.i64.wrap (gB+1))=lU:=(bX _).trans tQ
     replace H:=cZ H;obtain ⟨gu,H⟩:=H;have kC:=decide_eq_true gu;clear gu;replace H:=cZ H;obtain ⟨lp,H⟩:=H;have lW:=decide_eq_true lp;clear lp;replace H:=bS H;obtain ⟨t219,rC,H⟩:=H
     obtain ⟨r9,eZ⟩:∃y_:List Int,y_=(([(wrap64 (Int.tdiv t219 256))%256,(Int.tmod t219 256)%256]:List Int)):=⟨_,rfl⟩
     replace H:(if cO.length+r9.length<140737488355328 then (cY.l0 k1 l0 t219 a2 (cO++r9) (wrap64 (gB+2))) else (none))=some (r1,r2):=yH
     have z7:=ak eZ;clear eZ;replace H:=cZ H;obtain ⟨nv,H⟩:=H;have yL:=ak nv;clear nv
     obtain ⟨WI,eZ⟩:∃y_:List Int,y_=(cO++r9):=⟨_,rfl⟩
     replace H:(cY.l0 k1 l0 t219 a2 WI (wrap64 (gB+2)))=some (r1,r2):=yH
     have Ns:=ak eZ;clear eZ
     have H':=ak H
     clear H
     have p8:0≤(gB:Int):=da
     have q8:gB<(a2.size:Int):=da
     have hx8:=kD a2 gB
     replace p8:=eq_true p8;replace q8:=eq_true q8
     have XL:0≤((lU):Int):=da
     have XH:(lU)<(a2.size:Int):=da
     have adn:=kD a2 (lU)
     replace XL:=eq_true XL;replace XH:=eq_true XH
     go_wp2_with (first|(go_at_call 138;(with_reducible refine (dN.calls k1 _ _ l0 (Go.bits .xor .i64 (wrap64 ((wrap64 (256*(wrap64 (bt a2 gB))))+(wrap64 (bt a2 (lU))))) si) t219 _ ?side1 ?side2 rC.out).mono ?_);(case side1=>exact cd (Kd.aH fB.out HB.out));(case side2=>exact jD.out);rintro e w' ⟨rfl,⟨nd,rfl⟩⟩;(try first|exact ⟨rfl,_,World.drewN_drewN _ _ _⟩|exact ⟨rfl,_,Eq.trans (World.drewN_drewN _ _ _) (congrArg (World.drewN _) (Nat.add_assoc _ _ _))⟩))|((with_reducible refine ax (N:=43) rfl ?_);refine Kd.gy (Kd.int .u8) _ 5 ?hg (N:=43) ?hd (xs:=([(wrap64 (Int.tdiv t219 256))%256,(Int.tmod t219 256)%256]:List Int)) (inner:=[.int .u8 ((wrap64 (Int.tdiv t219 256))%256),.int .u8 ((Int.tmod t219 256)%256)]) (ok:=fun _=>True) (okp:=fun _=>True) ?hr ?hp (fun _ hk=>hk) trivial (Below.refl _ _) (Nat.le_refl _) (by simp) ?_;(case hd=>rfl);(case hg=>rfl);(case hr=>exact qg);(case hp=>exact (bN.one (show Kd.M (Kd.int .u8) _ _ _ ((wrap64 (Int.tdiv t219 256))%256) [.int .u8 ((wrap64 (Int.tdiv t219 256))%256)] from rfl) (bN.one (show Kd.M (Kd.int .u8) _ _ _ ((Int.tmod t219 256)%256) [.int .u8 ((Int.tmod t219 256)%256)] from rfl) (bN.none _ _))));intro W7 QF jf hb cg dZ;clear cg dZ;(first|rw [←z7.out] at jf|(simp only [Int.reduceToNat] at jf;rw [←z7.out] at jf));have mu:=ak (Kd.dB (Kd.qN jf (Kd.rH (fy gU))) (bC (ai HB)));replace gU:=ak (Kd.mq (fy gU) (Kd.nE jf) hb);replace HB:=ak (aE (ai HB) hb);clear hb jf;obtain ⟨wq,wk,ua⟩:=Kd.dc mu.out;subst ua)|((with_reducible refine cr (b:= .append) (xs:= #[.tmp 36,.tmp 43]) rfl ?_);at_builtin;refine Kd.eK (Kd.int .u8) (w0:=w) w.heap.size rfl (.tmp 36) (.tmp 43) 56 5 (.int .u8 0) 1 rfl Tryz.underlying56 rR rfl (by decide) (by omega) u8 cO r9 _ _ _ (fun k_=>some k_≠(.slice wq r9.length wk:Value).ownBlock) (fun _=>False) rfl rfl ?aO ?aR (fun _ _ h=>h) (fun _ h=>h.elim) ?aF ?aB ?aS ?aL ?_;(case aR=>exact cd (Kd.bL mu.out).2.2);(case aB=>exact (ai HB));(case aF=>exact (fun k_ hk=>Kd.sL (Kd.rH (fy mu)) k_ hk));(case aO=>exact (by (with_reducible repeat (first|apply Kd.cu|apply Kd.ct|apply Kd.cy));exact Kd.bF gU.out (fun _ hk=>hk.2)));(case aS=>exact (bC (ai HB)));(case aL=>have:=yL.out;omega);intro W6 Ko ho hb hg gV;rw [←Ns.out] at ho;replace mu:=ak (Kd.oc (ok:=(fun _=>True)) (fy mu) hg gV);replace HB:=ak (hb);have NG:=ak (ho);clear gU;clear ho hb hg gV))
     repeat (go_quiet (first|(go_at_call 138;(with_reducible refine (dN.calls k1 _ _ l0 (Go.bits .xor .i64 (wrap64 ((wrap64 (256*(wrap64 (bt a2 gB))))+(wrap64 (bt a2 (lU))))) si) t219 _ ?side1 ?side2 rC.out).mono ?_);(case side1=>exact cd (Kd.aH fB.out HB.out));(case side2=>exact jD.out);rintro e w' ⟨rfl,⟨nd,rfl⟩⟩;(try first|exact ⟨rfl,_,World.drewN_drewN _ _ _⟩|exact ⟨rfl,_,Eq.trans (World.drewN_drewN _ _ _) (congrArg (World.drewN _) (Nat.add_assoc _ _ _))⟩))|((with_reducible refine ax (N:=43) rfl ?_);refine Kd.gy (Kd.int .u8) _ 5 ?hg (N:=43) ?hd (xs:=([(wrap64 (Int.tdiv t219 256))%256,(Int.tmod t219 256)%256]:List Int)) (inner:=[.int .u8 ((wrap64 (Int.tdiv t219 256))%256),.int .u8 ((Int.tmod t219 256)%256)]) (ok:=fun _=>True) (okp:=fun _=>True) ?hr ?hp (fun _ hk=>hk) trivial (Below.refl _ _) (Nat.le_refl _) (by simp) ?_;(case hd=>rfl);(case hg=>rfl);(case hr=>exact qg);(case hp=>exact (bN.one (show Kd.M (Kd.int .u8) _ _ _ ((wrap64 (Int.tdiv t219 256))%256) [.int .u8 ((wrap64 (Int.tdiv t219 256))%256)] from rfl) (bN.one (show Kd.M (Kd.int .u8) _ _ _ ((Int.tmod t219 256)%256) [.int .u8 ((Int.tmod t219 256)%256)] from rfl) (bN.none _ _))));intro W7 QF jf hb cg dZ;clear cg dZ;(first|rw [←z7.out] at jf|(simp only [Int.reduceToNat] at jf;rw [←z7.out] at jf));have mu:=ak (Kd.dB (Kd.qN jf (Kd.rH (fy gU))) (bC (ai HB)));replace gU:=ak (Kd.mq (fy gU) (Kd.nE jf) hb);replace HB:=ak (aE (ai HB) hb);clear hb jf;obtain ⟨wq,wk,ua⟩:=Kd.dc mu.out;subst ua)|((with_reducible refine cr (b:= .append) (xs:= #[.tmp 36,.tmp 43]) rfl ?_);at_builtin;refine Kd.eK (Kd.int .u8) (w0:=w) w.heap.size rfl (.tmp 36) (.tmp 43) 56 5 (.int .u8 0) 1 rfl Tryz.underlying56 rR rfl (by decide) (by omega) u8 cO r9 _ _ _ (fun k_=>some k_≠(.slice wq r9.length wk:Value).ownBlock) (fun _=>False) rfl rfl ?aO ?aR (fun _ _ h=>h) (fun _ h=>h.elim) ?aF ?aB ?aS ?aL ?_;(case aR=>exact cd (Kd.bL mu.out).2.2);(case aB=>exact (ai HB));(case aF=>exact (fun k_ hk=>Kd.sL (Kd.rH (fy mu)) k_ hk));(case aO=>exact (by (with_reducible repeat (first|apply Kd.cu|apply Kd.ct|apply Kd.cy));exact Kd.bF gU.out (fun _ hk=>hk.2)));(case aS=>exact (bC (ai HB)));(case aL=>have:=yL.out;omega);intro W6 Ko ho hb hg gV;rw [←Ns.out] at ho;replace mu:=ak (Kd.oc (ok:=(fun _=>True)) (fy mu) hg gV);replace HB:=ak (hb);have NG:=ak (ho);clear gU;clear ho hb hg gV));try go_wp2_with (first|(go_at_call 138;(with_reducible refine (dN.calls k1 _ _ l0 (Go.bits .xor .i64 (wrap64 ((wrap64 (256*(wrap64 (bt a2 gB))))+(wrap64 (bt a2 (lU))))) si) t219 _ ?side1 ?side2 rC.out).mono ?_);(case side1=>exact cd (Kd.aH fB.out HB.out));(case side2=>exact jD.out);rintro e w' ⟨rfl,⟨nd,rfl⟩⟩;(try first|exact ⟨rfl,_,World.drewN_drewN _ _ _⟩|exact ⟨rfl,_,Eq.trans (World.drewN_drewN _ _ _) (congrArg (World.drewN _) (Nat.add_assoc _ _ _))⟩))|((with_reducible refine ax (N:=43) rfl ?_);refine Kd.gy (Kd.int .u8) _ 5 ?hg (N:=43) ?hd (xs:=([(wrap64 (Int.tdiv t219 256))%256,(Int.tmod t219 256)%256]:List Int)) (inner:=[.int .u8 ((wrap64 (Int.tdiv t219 256))%256),.int .u8 ((Int.tmod t219 256)%256)]) (ok:=fun _=>True) (okp:=fun _=>True) ?hr ?hp (fun _ hk=>hk) trivial (Below.refl _ _) (Nat.le_refl _) (by simp) ?_;(case hd=>rfl);(case hg=>rfl);(case hr=>exact qg);(case hp=>exact (bN.one (show Kd.M (Kd.int .u8) _ _ _ ((wrap64 (Int.tdiv t219 256))%256) [.int .u8 ((wrap64 (Int.tdiv t219 256))%256)] from rfl) (bN.one (show Kd.M (Kd.int .u8) _ _ _ ((Int.tmod t219 256)%256) [.int .u8 ((Int.tmod t219 256)%256)] from rfl) (bN.none _ _))));intro W7 QF jf hb cg dZ;clear cg dZ;(first|rw [←z7.out] at jf|(simp only [Int.reduceToNat] at jf;rw [←z7.out] at jf));have mu:=ak (Kd.dB (Kd.qN jf (Kd.rH (fy gU))) (bC (ai HB)));replace gU:=ak (Kd.mq (fy gU) (Kd.nE jf) hb);replace HB:=ak (aE (ai HB) hb);clear hb jf;obtain ⟨wq,wk,ua⟩:=Kd.dc mu.out;subst ua)|((with_reducible refine cr (b:= .append) (xs:= #[.tmp 36,.tmp 43]) rfl ?_);at_builtin;refine Kd.eK (Kd.int .u8) (w0:=w) w.heap.size rfl (.tmp 36) (.tmp 43) 56 5 (.int .u8 0) 1 rfl Tryz.underlying56 rR rfl (by decide) (by omega) u8 cO r9 _ _ _ (fun k_=>some k_≠(.slice wq r9.length wk:Value).ownBlock) (fun _=>False) rfl rfl ?aO ?aR (fun _ _ h=>h) (fun _ h=>h.elim) ?aF ?aB ?aS ?aL ?_;(case aR=>exact cd (Kd.bL mu.out).2.2);(case aB=>exact (ai HB));(case aF=>exact (fun k_ hk=>Kd.sL (Kd.rH (fy mu)) k_ hk));(case aO=>exact (by (with_reducible repeat (first|apply Kd.cu|apply Kd.ct|apply Kd.cy));exact Kd.bF gU.out (fun _ hk=>hk.2)));(case aS=>exact (bC (ai HB)));(case aL=>have:=yL.out;omega);intro W6 Ko ho hb hg gV;rw [←Ns.out] at ho;replace mu:=ak (Kd.oc (ok:=(fun _=>True)) (fy mu) hg gV);replace HB:=ak (hb);have NG:=ak (ho);clear gU;clear ho hb hg gV)))
     go_roundg k1
     case measure=>have:=fP.out;omega
     case rel=>exact ⟨(t219),(WI),(wrap64 (gB+2)),er,er,H',⟨by have:=fP.out;omega⟩,⟨by (with_reducible repeat (first|apply Kd.cu|apply Kd.ct|apply Kd.cy));exact Kd.bF NG.out (fun _ hk=>trivial)⟩,⟨ai HB⟩⟩
    ·rw [if_neg c6] at H
     have jz:=decide_eq_false c6
     clear c6
     simp only [Option.some.injEq,Prod.mk.injEq] at H
     obtain ⟨rfl,rfl⟩:=H
     have Yi:=iP (P:=Tryz.prog) Tryz.underlying56 Tryz.underlying5 Tryz.underlying9 (Kd.iG gU.out)
     go_wp2
     repeat (go_quiet (fail);try go_wp2)
     go_ret2
     exact ⟨jT,ai HB⟩
 ·replace c5:=Bool.eq_false_iff.mpr c5
  subst c5
  have H1:(some ((⟨#[]⟩:ByteArray),false))=some (r1,r2):=by rw [if_neg (show¬(false=true) by decide)] at H;exact H
  clear H
  have H:=H1
  clear H1
  simp only [Option.some.injEq,Prod.mk.injEq] at H
  obtain ⟨rfl,rfl⟩:=H
  go_enter Tryz.func121,Tryz.ntmps121
  go_wp2_with (first|(go_at_call 137;(with_reducible refine (fY.calls k _ _ l0 a1 a2 false _ ?side1 ?side2 A4.out).mono ?_);(case side1=>exact cd fB.out);(case side2=>exact jD.out);rintro e w' ⟨rfl,⟨nd,rfl⟩⟩;(try first|exact ⟨rfl,_,World.drewN_drewN _ _ _⟩|exact ⟨rfl,_,Eq.trans (World.drewN_drewN _ _ _) (congrArg (World.drewN _) (Nat.add_assoc _ _ _))⟩)))
  repeat (go_quiet (first|(go_at_call 137;(with_reducible refine (fY.calls k _ _ l0 a1 a2 false _ ?side1 ?side2 A4.out).mono ?_);(case side1=>exact cd fB.out);(case side2=>exact jD.out);rintro e w' ⟨rfl,⟨nd,rfl⟩⟩;(try first|exact ⟨rfl,_,World.drewN_drewN _ _ _⟩|exact ⟨rfl,_,Eq.trans (World.drewN_drewN _ _ _) (congrArg (World.drewN _) (Nat.add_assoc _ _ _))⟩)));try go_wp2_with (first|(go_at_call 137;(with_reducible refine (fY.calls k _ _ l0 a1 a2 false _ ?side1 ?side2 A4.out).mono ?_);(case side1=>exact cd fB.out);(case side2=>exact jD.out);rintro e w' ⟨rfl,⟨nd,rfl⟩⟩;(try first|exact ⟨rfl,_,World.drewN_drewN _ _ _⟩|exact ⟨rfl,_,Eq.trans (World.drewN_drewN _ _ _) (congrArg (World.drewN _) (Nat.add_assoc _ _ _))⟩))))
  go_ret2
  exact ⟨jT,ai HB⟩
def iO.f (k:Nat) (a0:Int) (a1:Int):Option (ByteArray):=if 0≤a1 then (if (a1:Int).toNat≤281474976710656 then ((cY.f k (([a0,a0,a0]:List Int)) a0 (strOfNums (List.replicate (a1:Int).toNat 0))).bind fun yz=>(some yz.1)) else (none)) else (none)
theorem iO.calls (k:Nat) (a0:Int) (a1:Int) (r:ByteArray) (w:World) (h:iO.f k a0 a1=some r):
  Calls Tryz.prog 111 #[.int .i64 a0,.int .i64 a1] w fun e w'=>e= .returned (.string r)∧Below w.heap.size w w':=by
 have HB:=ak (Below.refl w.heap.size w)
 have H:(if 0≤a1 then (if (a1:Int).toNat≤281474976710656 then ((cY.f k (([a0,a0,a0]:List Int)) a0 (strOfNums (List.replicate (a1:Int).toNat 0))).bind fun yz=>(some yz.1)) else (none)) else (none))=some r:=h
 clear h
 obtain ⟨Sp,eZ⟩:∃y_:List Int,y_=(([a0,a0,a0]:List Int)):=⟨_,rfl⟩
 replace H:(if 0≤a1 then (if (a1:Int).toNat≤281474976710656 then ((cY.f k Sp a0 (strOfNums (List.replicate (a1:Int).toNat 0))).bind fun yz=>(some yz.1)) else (none)) else (none))=some r:=yH
 have RW:=ak eZ;clear eZ;replace H:=cZ H;obtain ⟨c3,H⟩:=H;have jh:=eq_true c3
 have sN:decide (0≤a1)=true:=decide_eq_true c3
 clear c3;replace H:=cZ H;obtain ⟨c4,H⟩:=H;have iI:=eq_true c4
 have Zi:decide ((a1:Int).toNat≤281474976710656)=true:=decide_eq_true c4
 clear c4
 obtain ⟨WH,eZ⟩:∃y_:List Int,y_=(List.replicate (a1:Int).toNat 0):=⟨_,rfl⟩
 replace H:((cY.f k Sp a0 (strOfNums WH)).bind fun yz=>(some yz.1))=some r:=yH
 have RV:=ak eZ;clear eZ;replace H:=bS H;obtain ⟨⟨t232,t233⟩,A5,H⟩:=H
 dsimp only at H
 obtain rfl:=Option.some.inj H
 go_enter Tryz.func111,Tryz.ntmps111
 go_wp2_with (first|((with_reducible refine ax (N:=11) rfl ?_);refine Kd.gy (Kd.int .i64) _ 3 ?hg (N:=11) ?hd (xs:=([a0,a0,a0]:List Int)) (inner:=[.int .i64 a0,.int .i64 a0,.int .i64 a0]) (ok:=fun _=>True) (okp:=fun _=>True) ?hr ?hp (fun _ hk=>hk) trivial (Below.refl _ _) (Nat.le_refl _) (by simp) ?_;(case hd=>rfl);(case hg=>rfl);(case hr=>exact qg);(case hp=>exact (bN.one (show Kd.M (Kd.int .i64) _ _ _ a0 [.int .i64 a0] from rfl) (bN.one (show Kd.M (Kd.int .i64) _ _ _ a0 [.int .i64 a0] from rfl) (bN.one (show Kd.M (Kd.int .i64) _ _ _ a0 [.int .i64 a0] from rfl) (bN.none _ _)))));intro v227 w6 X9 hb cg dZ;clear cg dZ;(first|rw [←RW.out] at X9|(simp only [Int.reduceToNat] at X9;rw [←RW.out] at X9));have yM:=ak (Kd.dB X9 (bC (ai HB)));replace HB:=ak (aE (ai HB) hb);clear hb X9)|((with_reducible refine ax (N:=14) rfl ?_);refine Kd.Np (Kd.int .u8) _ 5 rfl (N:=14) rfl 56 _ _ rfl a1 rfl rfl Tryz.underlying56 (.int .u8 0) 1 rR rfl (by decide) (by omega) 0 (ok:=fun _=>True) (okp:=fun _=>True) rfl (fun _ hk=>hk) trivial (da) (Nat.le_trans (Nat.mul_le_mul_right _ (da:a1.toNat≤281474976710656)) (by omega)) (Below.refl _ _) (Nat.le_refl _) ?_;intro agO w8 X8 hb cg dZ;clear cg dZ;(first|rw [←RV.out] at X8|(simp only [Int.reduceToNat] at X8;rw [←RV.out] at X8));replace yM:=ak (Kd.ey (fy yM) hb);have NF:=ak (Kd.dB X8 (bC (ai HB)));replace HB:=ak (aE (ai HB) hb);clear hb X8;have afG:=iP (P:=Tryz.prog) Tryz.underlying56 Tryz.underlying5 Tryz.underlying9 (Kd.iG NF.out);obtain ⟨Kj,JW,MC⟩:=Kd.dc yM.out;subst MC)|(go_at_call 121;(with_reducible refine (cY.calls k _ _ Sp a0 (strOfNums WH) t232 t233 _ ?side1 ?side2 A5.out).mono ?_);(case side1=>exact cd (Kd.bL yM.out).2.2);(case side2=>exact (Kd.bL yM.out).2.1);rintro e w12 ⟨rfl,hb⟩;replace yM:=ak (Kd.ey (fy yM) hb);replace NF:=ak (Kd.ey (fy NF) hb);replace HB:=ak (aE (ai HB) hb);(try clear hb)))
 go_ret
 exact ⟨jT,ai HB⟩
def dU.l0:Nat→ByteArray→Int→Int→Option (Int)
  |0,_,_,_=>none
  |k+1,x0,x3,x4=>if x4<(x0.size:Int) then (if 0≤x4 then (dU.l0 k x0 (wrap64 (x3+(wrap64 ((wrap64 (bt x0 x4))*(wrap64 (x4+1)))))) (wrap64 (x4+1))) else (none)) else (some (Int.tmod x3 251))
def dU.f (k:Nat) (a0:ByteArray):Option (Int):=dU.l0 k a0 0 0
theorem dU.calls (k:Nat) (a0:ByteArray) (r:Int) (w:World) (h:dU.f k a0=some r):
  Calls Tryz.prog 112 #[.string a0] w fun e w'=>e= .returned (.int .i64 r)∧cH w w':=by
 have H:(dU.l0 k a0 0 0)=some r:=h
 clear h
 have H':=ak H
 clear H
 go_enter Tryz.func112,Tryz.ntmps112
 go_wp2
 go_loopg [3,4] k (fun kq v3 v4 w'=>∃(iN:Int) (gC:Int),v3= .int .i64 iN∧v4= .int .i64 gC∧Aside0 (dU.l0 kq a0 iN gC=some r)∧Aside0 (kq≤k)∧cH w w')
 case atStart=>exact ⟨(0),(0),er,er,H',⟨Nat.le_refl _⟩,gh⟩
 case round=>
  clear H'
  obtain ⟨iN,gC,rfl,rfl,HA,fP,⟨m1,rfl⟩⟩:=hrel
  cases gk with
  |zero=>exact absurd HA.out (by simp [dU.l0])
  |succ k1=>
   have H:=HA.out;clear HA
   simp only [dU.l0] at H
   by_cases c2:gC<(a0.size:Int)
   ·rw [if_pos c2] at H
    have oQ:=decide_eq_true c2
    clear c2;replace H:=cZ H;obtain ⟨c3,H⟩:=H;have jh:=decide_eq_true c3;clear c3
    have H':=ak H
    clear H
    have p4:0≤(gC:Int):=da
    have q4:gC<(a0.size:Int):=da
    have hx4:=kD a0 gC
    replace p4:=eq_true p4;replace q4:=eq_true q4;go_wp2
    go_roundg k1
    case measure=>have:=fP.out;omega
    case rel=>exact ⟨(wrap64 (iN+(wrap64 ((wrap64 (bt a0 gC))*(wrap64 (gC+1)))))),(wrap64 (gC+1)),er,er,H',⟨by have:=fP.out;omega⟩,gh⟩
   ·rw [if_neg c2] at H
    have oQ:=decide_eq_false c2
    clear c2
    obtain rfl:=Option.some.inj H
    go_wp2
    go_ret
    exact ⟨er,gh⟩
def cT.l0:Nat→ByteArray→Int→Option (ByteArray×Bool)
  |0,_,_=>none
  |k+1,x0,x4=>if x4>0 then (if 0≤x4 then (if x4<(x0.size:Int) then (if (bt x0 x4)=0 then (cT.l0 k x0 (wrap64 (x4-1))) else (if (bt x0 x4)=128 then (if x4≤(x0.size:Int) then (some (x0.extract 0 (x4:Int).toNat,true)) else (none)) else (some ((⟨#[]⟩:ByteArray),false)))) else (none)) else (none)) else (if 0≤x4 then (if x4<(x0.size:Int) then (if (bt x0 x4)=128 then (if x4≤(x0.size:Int) then (some (x0.extract 0 (x4:Int).toNat,true)) else (none)) else (some ((⟨#[]⟩:ByteArray),false))) else (none)) else (none))
def cT.f (k:Nat) (a0:ByteArray):Option (ByteArray×Bool):=if (a0.size:Int)=16 then (cT.l0 k a0 (wrap64 ((a0.size:Int)-1))) else (some ((⟨#[]⟩:ByteArray),false))
theorem cT.calls (k:Nat) (a0:ByteArray) (r1:ByteArray) (r2:Bool) (w:World) (h:cT.f k a0=some (r1,r2)):
  Calls Tryz.prog 113 #[.string a0] w fun e w'=>e= .returned (.tuple #[.string r1,.bool r2])∧cH w w':=by
 have H:(if (a0.size:Int)=16 then (cT.l0 k a0 (wrap64 ((a0.size:Int)-1))) else (some ((⟨#[]⟩:ByteArray),false)))=some (r1,r2):=h
 clear h
 by_cases c2:(a0.size:Int)=16
 ·rw [if_pos c2] at H
  have oQ:=kI c2
  have DI:=kH c2
  clear c2
  have H':=ak H
  clear H
  go_enter Tryz.func113,Tryz.ntmps113
  go_wp2
  go_loopg [4] k (fun kq v4 w'=>∃(gC:Int),v4= .int .i64 gC∧Aside0 (cT.l0 kq a0 gC=some (r1,r2))∧Aside0 (kq≤k)∧cH w w')
  case atStart=>exact ⟨(wrap64 ((a0.size:Int)-1)),er,H',⟨Nat.le_refl _⟩,gh⟩
  case round=>
   clear H'
   (try clear oQ);(try clear DI)
   obtain ⟨gC,rfl,HA,fP,⟨m1,rfl⟩⟩:=hrel
   cases gk with
   |zero=>exact absurd HA.out (by simp [cT.l0])
   |succ k1=>
    have H:=HA.out;clear HA
    simp only [cT.l0] at H
    by_cases c3:gC>0
    ·rw [if_pos c3] at H
     have jh:=H6 c3
     clear c3;replace H:=cZ H;obtain ⟨c4,H⟩:=H;have iI:=decide_eq_true c4;clear c4;replace H:=cZ H;obtain ⟨c5,H⟩:=H;have jg:=decide_eq_true c5;clear c5
     by_cases c7:(bt a0 gC)=0
     ·rw [if_pos c7] at H
      have rF:=kI c7
      have P2:=kH c7
      clear c7
      have H':=ak H
      clear H
      have p6:0≤(gC:Int):=da
      have q6:gC<(a0.size:Int):=da
      have hx6:=kD a0 gC
      replace p6:=eq_true p6;replace q6:=eq_true q6;go_wp2
      go_roundg k1
      case measure=>have:=fP.out;omega
      case rel=>exact ⟨(wrap64 (gC-1)),er,H',⟨by have:=fP.out;omega⟩,gh⟩
     ·rw [if_neg c7] at H
      have rF:=jV c7
      have P2:=jU c7
      by_cases c9:(bt a0 gC)=128
      ·rw [if_pos c9] at H
       have lQ:=kI c9
       have FY:=kH c9
       clear c9
       have kC:=eq_true (da:0≤gC)
       replace H:=cZ H;obtain ⟨lp,H⟩:=H;have lW:=eq_true lp
       have Ik:decide (gC≤(a0.size:Int))=true:=decide_eq_true lp
       clear lp
       simp only [Option.some.injEq,Prod.mk.injEq] at H
       obtain ⟨rfl,rfl⟩:=H
       have p6:0≤(gC:Int):=da
       have q6:gC<(a0.size:Int):=da
       have hx6:=kD a0 gC
       replace p6:=eq_true p6;replace q6:=eq_true q6
       have p8:0≤(gC:Int):=da
       have q8:gC<(a0.size:Int):=da
       have hx8:=kD a0 gC
       replace p8:=eq_true p8;replace q8:=eq_true q8;go_wp2
       go_ret2
       exact ⟨er,gh⟩
      ·rw [if_neg c9] at H
       have lQ:=jV c9
       have FY:=jU c9
       simp only [Option.some.injEq,Prod.mk.injEq] at H
       obtain ⟨rfl,rfl⟩:=H
       have p6:0≤(gC:Int):=da
       have q6:gC<(a0.size:Int):=da
       have hx6:=kD a0 gC
       replace p6:=eq_true p6;replace q6:=eq_true q6
       have p8:0≤(gC:Int):=da
       have q8:gC<(a0.size:Int):=da
       have hx8:=kD a0 gC
       replace p8:=eq_true p8;replace q8:=eq_true q8;go_wp2
       go_ret2
       exact ⟨er,gh⟩
    ·rw [if_neg c3] at H
     have jh:=H7 c3
     clear c3;replace H:=cZ H;obtain ⟨nL,H⟩:=H;have pU:=decide_eq_true nL;clear nL;replace H:=cZ H;obtain ⟨oa,H⟩:=H;have DM:=decide_eq_true oa;clear oa
     by_cases rB:(bt a0 gC)=128
     ·rw [if_pos rB] at H
      have ue:=kI rB
      have yj:=kH rB
      clear rB
      have DL:=eq_true (da:0≤gC)
      replace H:=cZ H;obtain ⟨CA,H⟩:=H;have Ii:=eq_true CA
      have MV:decide (gC≤(a0.size:Int))=true:=decide_eq_true CA
      clear CA
      simp only [Option.some.injEq,Prod.mk.injEq] at H
      obtain ⟨rfl,rfl⟩:=H
      have Jm:0≤(gC:Int):=da
      have Jl:gC<(a0.size:Int):=da
      have adm:=kD a0 gC
      replace Jm:=eq_true Jm;replace Jl:=eq_true Jl;go_wp2
      go_ret2
      exact ⟨er,gh⟩
     ·rw [if_neg rB] at H
      have ue:=jV rB
      have yj:=jU rB
      simp only [Option.some.injEq,Prod.mk.injEq] at H
      obtain ⟨rfl,rfl⟩:=H
      have Jm:0≤(gC:Int):=da
      have Jl:gC<(a0.size:Int):=da
      have adm:=kD a0 gC
      replace Jm:=eq_true Jm;replace Jl:=eq_true Jl;go_wp2
      go_ret2
      exact ⟨er,gh⟩
 ·rw [if_neg c2] at H
  have oQ:=jV c2
  have DI:=jU c2
  simp only [Option.some.injEq,Prod.mk.injEq] at H
  obtain ⟨rfl,rfl⟩:=H
  go_enter Tryz.func113,Tryz.ntmps113
  go_wp2
  go_ret2
  exact ⟨er,gh⟩
def dJ.T4:Bool×List (List Nat×List Nat):=(true,[([],[]),([0],[0]),([1],[1]),([2],[2]),([3],[3]),([4,3],[4]),([5],[5]),([6,5],[5,6]),([7,5],[5,7]),([5],[5]),([9,5],[5,9]),([10,5,5],[5,10]),([8,11,5],[5,8,11]),([5,12],[5,12])])
def dJ.B4:List Nat:=[0,1,3,7,15,31,63,127,255,63,575,1599,4095,8191]
theorem dJ.Ao:gq .any (opsOf Tryz.f88 4)=dJ.T4:=by kernel_rfl
theorem dJ.uh:eF dJ.T4.2 dJ.B4=true:=by kernel_rfl
def dJ.f (k:Nat) (a0:Int) (a1:ByteArray):Option (Int×ByteArray×ByteArray×Bool):=(fS.f a0).bind fun c0=>if c0=true∧a1.size=24 then (iO.f k a0 24).bind fun p=>(gW.f k a1 p).bind fun t=>if t.size=24 then (bD.f (wrap64 (bt t 0)) 1 250).bind fun c=>if c=true then (dU.f k (t.extract 2 18)).bind fun d=>if wrap64 (bt t 1)=d then (cT.f k ((t.extract 2 t.size++(⟨#[0,0]⟩:ByteArray)).extract 0 16)).bind fun b=>some (wrap64 (bt t 0),t.extract 2 t.size++(⟨#[0,0]⟩:ByteArray),b.1,true) else some (0,⟨#[]⟩,⟨#[]⟩,false) else some (0,⟨#[]⟩,⟨#[]⟩,false) else none else none
theorem dJ.calls (k:Nat) (a0:Int) (a1:ByteArray) (r1:Int) (r2:ByteArray) (r3:ByteArray) (r4:Bool) (w:World) (h:dJ.f k a0 a1=some (r1,r2,r3,r4)):
  Calls Tryz.prog 88 #[.int .i64 a0,.string a1] w fun e w'=>e= .returned (.tuple #[.agg #[.int .i64 r1,.string r2,.string r3],.bool r4])∧Below w.heap.size w w':=by
 have huP:=Tryz.underlying105
 have HS:=Sep.nil w
 unfold dJ.f at h
 replace h:=bS h;obtain ⟨c0,T0,h⟩:=h
 replace h:=cZ h;obtain ⟨⟨rfl,hz⟩,h⟩:=h
 replace h:=bS h;obtain ⟨p,T1,h⟩:=h
 replace h:=bS h;obtain ⟨t,T2,h⟩:=h
 replace h:=cZ h;obtain ⟨ht,h⟩:=h
 replace h:=bS h;obtain ⟨c,T3,h⟩:=h
 have zP:((a1.size:Int) !=24)=false:=by rw [hz];rfl
 have q0:(0<t.size)=True:=eq_true (by omega)
 have q1:(1<t.size)=True:=eq_true (by omega)
 have qi0:(0<(t.size:Int))=True:=eq_true (by omega)
 have qi1:(1<(t.size:Int))=True:=eq_true (by omega)
 have x0:∀h:0<t.size,((t[0]'h).toNat:Int)=bt t 0:=kD t 0
 have x1:∀h:1<t.size,((t[1]'h).toNat:Int)=bt t 1:=kD t 1
 have hl1:decide ((18:Int)≤(t.size:Int))=true:=decide_eq_true (by omega)
 have hl2:decide ((2:Int)≤(t.size:Int))=true:=decide_eq_true (by omega)
 have Dj:(t.extract 2 t.size).size=22:=by rw [ByteArray.size_extract,ht];rfl
 have hl3:decide ((t.extract 2 t.size).size+2≤9223372036854775807)=true:=decide_eq_true (by omega)
 have hl4:(9223372036854775807<(t.extract 2 t.size).size+2)=False:=eq_false (by omega)
 have PD:decide ((16:Int)≤((t.extract 2 t.size++(⟨#[0,0]⟩:ByteArray)).size:Int))=true:=decide_eq_true (by rw [ByteArray.size_append,Dj];decide)
 have hl6:(2≤(t.size:Int))=True:=eq_true (by omega)
 have hl7:(18≤(t.size:Int))=True:=eq_true (by omega)
 have hl8:(16≤((t.extract 2 t.size++(⟨#[0,0]⟩:ByteArray)).size:Int))=True:=eq_true (by rw [ByteArray.size_append,Dj];decide)
 have hl9:(9223372036854775807<t.size-2+2)=False:=eq_false (by omega)
 clear ht hz Dj hl3 hl4
 go_enter Tryz.func88,Tryz.ntmps88
 go_upto_region 4 with (first|((with_reducible refine ax (N:=4) rfl ?_);refine cm 4 #[.int .i64 0,.string (⟨#[]⟩:ByteArray),.string (⟨#[]⟩:ByteArray)] 105 ?_;intro b4 cg W_ bQ bn;replace HS:=HS.box cg bQ bn;clear cg bQ bn;have fo:=cA (HS.bf 0))|(go_at_call 109;refine (fS.calls a0 true _ T0.out).mono ?_;rintro e W_ ⟨rfl,gX,rfl⟩;replace HS:=HS.drewN gX;generalize World.drewN _ gX=W_ at HS⊢;clear fo;have fo:=cA (HS.bf 0))|(go_at_call 111;refine (iO.calls k a0 24 p _ T1.out).mono ?_;rintro e W_ ⟨rfl,bn⟩;replace HS:=HS.below bn;clear bn;clear fo;have fo:=cA (HS.bf 0))|(go_at_call 110;refine (gW.calls k a1 p t _ T2.out).mono ?_;rintro e W_ ⟨rfl,bn⟩;replace HS:=HS.below bn;clear bn;clear fo;have fo:=cA (HS.bf 0)))
 clear fo
 refine ef (n:=14) (S:=fun w'=>True) (ds:=[]) (bl 14 0) (by kernel_rfl) rfl rfl trivial (fun an=> ?_);refine bW dJ.Ao dJ.uh (fun aC eE=> ?_)
 replace HS:=HS.drew
 generalize World.drew _=vO at HS⊢
 refine ag 0 (some 23) 14 1 aC ?_
 refine ag 1 (some 24) 14 3 aC ?_
 refine ag 2 (some 25) 14 7 aC ?_
 refine gv 3 (some 26) 14 15 aC (fun K hK=> ?_)
 refine gw Tryz.func79 (by kernel_rfl) rfl #[.int .i64 (wrap64 (bt t 0)),.int .i64 1,.int .i64 250] (by rfl) rfl rfl (by (try simp only [List.map_toArray,List.map_cons,List.map_nil]);first|done|rfl) ?_
 refine (bD.calls (wrap64 (bt t 0)) 1 250 c _ T3.out).mono ?_
 clear an
 rintro e W_ ⟨rfl,gX,rfl⟩
 refine ⟨_,rfl,?_⟩
 replace HS:=HS.drewN gX
 generalize World.drewN _ gX=W_ at HS⊢
 refine hK.out _ _ trivial (fun an=> ?_)
 clear hK K
 refine dF (a':= ?_) ?_ ?_
 rotate_left
 ·show Act.put _ (some 26) _=_
  simp only [Act.put,List.setIfInBounds_toArray,List.set_cons_zero,List.set_cons_succ,bX,cL]
  rfl
 refine ag 4 (some 27) 14 31 aC ?_
 refine ag 5 (some 28) 14 63 aC ?_
 cases c with
 |false=>
  rw [if_neg (by decide)] at h
  simp only [Bool.not_false]
  refine cG 6 (some 29) 14 127 aC ?_
  refine cG 7 (some 30) 14 255 aC ?_
  refine cG 8 (some 31) 14 511 aC ?_
  refine cG 9 (some 32) 14 1023 aC ?_
  refine cG 10 (some 33) 14 2047 aC ?_
  refine cG 11 (some 34) 14 4095 aC ?_
  refine cG 12 (some 35) 14 8191 aC ?_
  refine ag 13 (some 36) 14 16383 aC ?_
  refine fm (cW aC.out (by kernel_rfl)) ?_
  clear aC eE an
  have fo:=cA (HS.bf 0)
  simp only [Option.some.injEq,Prod.mk.injEq] at h
  obtain ⟨rfl,rfl,rfl,rfl⟩:=h
  go_wp2
  have HF:=(((HS.dg 0 0 (.int .i64 0) #[.int .i64 0,.string (⟨#[]⟩:ByteArray),.string (⟨#[]⟩:ByteArray)]).dg 0 1 (.string (⟨#[]⟩:ByteArray)) #[.int .i64 0,.string (⟨#[]⟩:ByteArray),.string (⟨#[]⟩:ByteArray)]).dg 0 2 (.string (⟨#[]⟩:ByteArray)) #[.int .i64 0,.string (⟨#[]⟩:ByteArray),.string (⟨#[]⟩:ByteArray)])
  refine bodyPost_ret (dI rfl _ _ b4 105 #[.int .i64 0,.string (⟨#[]⟩:ByteArray),.string (⟨#[]⟩:ByteArray)] (0,0) _ rfl (by exact (HF.bf 0).out) Tryz.underlying105 rfl (by kernel_rfl)) rfl ?_
  exact ⟨rfl,HF.base⟩
 |true=>
  rw [if_pos rfl] at h
  simp only [Bool.not_true]
  replace h:=bS h;obtain ⟨d,T4,h⟩:=h
  refine ag 6 (some 29) 14 127 aC ?_
  refine ag 7 (some 30) 14 255 aC ?_
  refine ag 8 (some 31) 14 511 aC ?_
  refine ag 9 (some 32) 14 1023 aC ?_
  refine ag 10 (some 33) 14 2047 aC ?_
  refine gv 11 (some 34) 14 4095 aC (fun K hK=> ?_)
  refine gw Tryz.func112 (by kernel_rfl) rfl #[.string (t.extract 2 18)] (by rfl) rfl rfl (by (try simp only [List.map_toArray,List.map_cons,List.map_nil]);first|done|rfl) ?_
  refine (dU.calls k (t.extract 2 18) d _ T4.out).mono ?_
  clear an
  rintro e W_ ⟨rfl,gX,rfl⟩
  refine ⟨_,rfl,?_⟩
  replace HS:=HS.drewN gX
  generalize World.drewN _ gX=W_ at HS⊢
  refine hK.out _ _ trivial (fun an=> ?_)
  clear hK K
  refine dF (a':= ?_) ?_ ?_
  rotate_left
  ·show Act.put _ (some 34) _=_
   simp only [Act.put,List.setIfInBounds_toArray,List.set_cons_zero,List.set_cons_succ,bX,cL]
   rfl
  refine ag 12 (some 35) 14 8191 aC ?_
  refine ag 13 (some 36) 14 16383 aC ?_
  refine fm (cW aC.out (by kernel_rfl)) ?_
  clear aC eE an
  by_cases hc:wrap64 (bt t 1)=d
  ·rw [if_pos hc] at h
   have Us:(wrap64 (bt t 1) !=d)=false:=by rw [hc];exact bne_self_eq_false d
   simp only [Us]
   replace h:=bS h;obtain ⟨⟨b,b'⟩,T5,h⟩:=h
   have fo:=cA (HS.bf 0)
   go_upto_region 7 with fail
   generalize hu:t.extract 2 t.size++(⟨#[0,0]⟩:ByteArray)=u at h T5 PD hl8⊢
   simp only [Option.some.injEq,Prod.mk.injEq] at h
   obtain ⟨rfl,rfl,rfl,rfl⟩:=h
   clear hc hu
   go_wp2_with (first|(go_at_call 113;refine (cT.calls k _ b b' _ T5.out).mono ?_;rintro e W_ ⟨rfl,gX,rfl⟩;replace HS:=HS.drewN gX;generalize World.drewN _ gX=W_ at HS⊢;clear fo;have fo:=cA (HS.bf 0)))
   have HF:=(((HS.dg 0 0 (.int .i64 (wrap64 (bt t 0))) #[.int .i64 (wrap64 (bt t 0)),.string (⟨#[]⟩:ByteArray),.string (⟨#[]⟩:ByteArray)]).dg 0 1 (.string u) #[.int .i64 (wrap64 (bt t 0)),.string u,.string (⟨#[]⟩:ByteArray)]).dg 0 2 (.string b) #[.int .i64 (wrap64 (bt t 0)),.string u,.string b])
   refine bodyPost_ret (dI rfl _ _ b4 105 #[.int .i64 (wrap64 (bt t 0)),.string u,.string b] (0,0) _ rfl (by exact (HF.bf 0).out) Tryz.underlying105 rfl (by kernel_rfl)) rfl ?_
   exact ⟨rfl,HF.base⟩
  ·rw [if_neg hc] at h
   have Us:(wrap64 (bt t 1) !=d)=true:=bne_iff_ne.mpr hc
   simp only [Us]
   clear hc
   have fo:=cA (HS.bf 0)
   simp only [Option.some.injEq,Prod.mk.injEq] at h
   obtain ⟨rfl,rfl,rfl,rfl⟩:=h
   go_wp2
   have HF:=(((HS.dg 0 0 (.int .i64 0) #[.int .i64 0,.string (⟨#[]⟩:ByteArray),.string (⟨#[]⟩:ByteArray)]).dg 0 1 (.string (⟨#[]⟩:ByteArray)) #[.int .i64 0,.string (⟨#[]⟩:ByteArray),.string (⟨#[]⟩:ByteArray)]).dg 0 2 (.string (⟨#[]⟩:ByteArray)) #[.int .i64 0,.string (⟨#[]⟩:ByteArray),.string (⟨#[]⟩:ByteArray)])
   refine bodyPost_ret (dI rfl _ _ b4 105 #[.int .i64 0,.string (⟨#[]⟩:ByteArray),.string (⟨#[]⟩:ByteArray)] (0,0) _ rfl (by exact (HF.bf 0).out) Tryz.underlying105 rfl (by kernel_rfl)) rfl ?_
   exact ⟨rfl,HF.base⟩
def ek.l0:Nat→List ByteArray→ByteArray→Int→Option (List ByteArray)
  |0,_,_,_=>none
  |k+1,x0,x1,x5=>if x5<(x0.length:Int) then (if 0≤x5 then (if ((Op.bytesLess x1.toList ((aV ByteArray.empty x0 x5).toList))=true) then ((some (([]:List ByteArray):List ByteArray)).bind fun Ef=>(if x5≤(x0.length:Int) then (if Ef.length+(x0.take (x5:Int).toNat).length<8796093022208 then ((some (Ef++(x0.take (x5:Int).toNat):List ByteArray)).bind fun yS=>(if yS.length<8796093022208 then ((some (yS++[x1]:List ByteArray)).bind fun uL=>(if uL.length+(x0.drop (x5:Int).toNat).length<8796093022208 then (some (uL++(x0.drop (x5:Int).toNat))) else (none))) else (none))) else (none)) else (none))) else (ek.l0 k x0 x1 (wrap64 (x5+1)))) else (none)) else ((some (([]:List ByteArray):List ByteArray)).bind fun Ee=>(if 0≤x5 then (if x5≤(x0.length:Int) then (if Ee.length+(x0.take (x5:Int).toNat).length<8796093022208 then ((some (Ee++(x0.take (x5:Int).toNat):List ByteArray)).bind fun yR=>(if yR.length<8796093022208 then ((some (yR++[x1]:List ByteArray)).bind fun uK=>(if uK.length+(x0.drop (x5:Int).toNat).length<8796093022208 then (some (uK++(x0.drop (x5:Int).toNat))) else (none))) else (none))) else (none)) else (none)) else (none)))
def ek.f (k:Nat) (l0:List ByteArray) (a1:ByteArray):Option (List ByteArray):=ek.l0 k l0 a1 0
theorem ek.calls (k:Nat) (A0:Option Addr) (c0:Nat) (l0:List ByteArray) (a1:ByteArray) (r:List ByteArray) (w:World) (eT:Kd.C Kd.string w A0 l0.length l0) (fE:l0.length≤c0) (h:ek.f k l0 a1=some r):
  Calls Tryz.prog 114 #[.slice A0 l0.length c0,.string a1] w fun e w'=>∃kV:Value,e= .returned (kV)∧Kd.R Kd.string 9 w' w.heap.size (fun _=>True) kV r∧Below w.heap.size w w':=by
 have fB:=ak eT;have jD:=ak fE;clear eT fE
 have HB:=ak (Below.refl w.heap.size w)
 have H:(ek.l0 k l0 a1 0)=some r:=h
 clear h
 have H':=ak H
 clear H
 go_enter Tryz.func114,Tryz.ntmps114
 go_wp2
 go_loopg [5] k (fun kq v5 w'=>∃(dm:Int),v5= .int .i64 dm∧Aside0 (ek.l0 kq l0 a1 dm=some r)∧Aside0 (kq≤k)∧Aside0 (Below w.heap.size w w'))
 case atStart=>exact ⟨(0),er,H',⟨Nat.le_refl _⟩,⟨ai HB⟩⟩
 case round=>
  clear H'
  obtain ⟨dm,rfl,HA,fP,HB⟩:=hrel
  cases gk with
  |zero=>exact absurd HA.out (by simp [ek.l0])
  |succ k1=>
   have H:=HA.out;clear HA
   simp only [ek.l0] at H
   by_cases c3:dm<(l0.length:Int)
   ·rw [if_pos c3] at H
    have jh:=decide_eq_true c3
    clear c3;replace H:=cZ H;obtain ⟨c4,H⟩:=H;have iI:=decide_eq_true c4;clear c4
    by_cases c5:((Op.bytesLess a1.toList ((aV ByteArray.empty l0 dm).toList))=true)
    ·rw [if_pos c5] at H
     have jg:(Op.bytesLess a1.toList ((aV ByteArray.empty l0 dm).toList))=true:=c5
     clear c5
     obtain ⟨Ef,eZ⟩:∃y_:List ByteArray,y_=(([]:List ByteArray)):=⟨_,rfl⟩
     replace H:(if dm≤(l0.length:Int) then (if Ef.length+(l0.take (dm:Int).toNat).length<8796093022208 then ((some (Ef++(l0.take (dm:Int).toNat):List ByteArray)).bind fun yS=>(if yS.length<8796093022208 then ((some (yS++[a1]:List ByteArray)).bind fun uL=>(if uL.length+(l0.drop (dm:Int).toNat).length<8796093022208 then (some (uL++(l0.drop (dm:Int).toNat))) else (none))) else (none))) else (none)) else (none))=some r:=yH
     have RU:=ak eZ;clear eZ
     have jz:=eq_true (da:0≤dm)
     replace H:=cZ H;obtain ⟨c7,H⟩:=H;have rF:=eq_true c7
     have P2:decide (dm≤(l0.length:Int))=true:=decide_eq_true c7
     clear c7;replace H:=cZ H;obtain ⟨c8,H⟩:=H;have Vu:=ak c8;clear c8
     obtain ⟨yS,eZ⟩:∃y_:List ByteArray,y_=(Ef++(l0.take (dm:Int).toNat)):=⟨_,rfl⟩
     replace H:(if yS.length<8796093022208 then ((some (yS++[a1]:List ByteArray)).bind fun uL=>(if uL.length+(l0.drop (dm:Int).toNat).length<8796093022208 then (some (uL++(l0.drop (dm:Int).toNat))) else (none))) else (none))=some r:=yH
     have aaK:=ak eZ;clear eZ;replace H:=cZ H;obtain ⟨c9,H⟩:=H;have ae3:=ak c9;clear c9
     obtain ⟨uL,eZ⟩:∃y_:List ByteArray,y_=(yS++[a1]):=⟨_,rfl⟩
     replace H:(if uL.length+(l0.drop (dm:Int).toNat).length<8796093022208 then (some (uL++(l0.drop (dm:Int).toNat))) else (none))=some r:=yH
     have aaJ:=ak eZ;clear eZ
     have kC:=eq_true (da:0≤dm)
     have lW:=eq_true (da:dm≤(l0.length:Int))
     replace H:=cZ H;obtain ⟨nL,H⟩:=H;have Nw:=ak nL;clear nL
     obtain ⟨abL,eZ⟩:∃y_:List ByteArray,y_=(uL++(l0.drop (dm:Int).toNat)):=⟨_,rfl⟩
     replace H:(some abL)=some r:=yH
     have aaI:=ak eZ;clear eZ
     obtain rfl:=Option.some.inj H
     have EX:0≤(dm:Int):=da
     have EF:dm<(l0.length:Int):=da
     obtain ⟨Nh,UP,pF⟩:=Kd.bh fB.out dm EX EF
     cases UP
     replace pF:=(HB.out.cell (World.block_lt_of_cell? w _ pF)).trans pF
     replace EX:=eq_true EX;replace EF:=eq_true EF
     go_wp2_with (first|((with_reducible refine ax (N:=21) rfl ?_);refine Kd.gy Kd.string _ 9 ?hg (N:=21) ?hd (xs:=([]:List ByteArray)) (inner:=[]) (ok:=fun _=>True) (okp:=fun _=>True) ?hr ?hp (fun _ hk=>hk) trivial (Below.refl _ _) (Nat.le_refl _) (by simp) ?_;(case hd=>rfl);(case hg=>rfl);(case hr=>exact qg);(case hp=>exact (bN.none _ _));intro v236 w13 Mi hb cg dZ;clear cg dZ;(first|rw [←RU.out] at Mi|(simp only [Int.reduceToNat] at Mi;rw [←RU.out] at Mi));have Se:=ak (Kd.dB Mi (bC (ai HB)));replace HB:=ak (aE (ai HB) hb);clear hb Mi;obtain ⟨ahj,Rc,_,QW,_⟩:=info_parts mK;obtain ⟨adY,Yw,Ys⟩:=rN (P:=Tryz.prog) Value.string (⟨#[]⟩:ByteArray) 62 9 .i64 Tryz.underlying62 Rc QW (some Nh) c0 l0 dm (da) (da) jD.out;have NA:=ak (Kd.mb (h1:=fun _=>rfl) (Yw _ (Kd.kR fB.out)));have agd:=ak Ys;clear Yw Ys Rc QW)|((with_reducible refine cr (b:= .append) (xs:= #[.tmp 21,.tmp 24]) rfl ?_);at_builtin;refine Kd.eK Kd.string (w0:=w) w.heap.size rfl (.tmp 21) (.tmp 24) 62 9 (.string ⟨#[]⟩) 16 rfl Tryz.underlying62 mK rfl (by decide) (by omega) v236 Ef (l0.take (dm:Int).toNat) _ _ _ (fun _=>True) (fun _=>False) rfl rfl ?aO ?aR (fun _ _ h=>h) (fun _ h=>h.elim) ?aF ?aB ?aS ?aL ?_;(case aR=>first|(refine Eq.mp (congrArg (fun z_=>fA _ _ _ _ z_ _) (show (l0.take (dm:Int).toNat).length=dm.toNat from (by rw [List.length_take];have h_:(dm:Int)≤(l0.length:Int):=da;omega))) ?_;exact cd (Kd.aH NA.out HB.out))|(rw [←show (l0.take (dm:Int).toNat).length=dm.toNat from (by rw [List.length_take];have h_:(dm:Int)≤(l0.length:Int):=da;omega)];exact cd (Kd.aH NA.out HB.out))|(exact cd (Kd.aH NA.out HB.out)));(case aB=>exact (ai HB));(case aF=>exact (fun _ _=>trivial));(case aO=>exact (fy Se));(case aS=>exact (bC (ai HB)));(case aL=>have:=Vu.out;have TN:=(show (l0.take (dm:Int).toNat).length=dm.toNat from (by rw [List.length_take];have h_:(dm:Int)≤(l0.length:Int):=da;omega));omega);intro ab2 KE ho hb hg gV;rw [←aaK.out] at ho;replace HB:=ak (hb);have Sd:=ak (ho);clear Se;clear ho hb hg gV)|((with_reducible refine cr (b:= .append) (xs:= #[.tmp 26,.tmp 28]) rfl ?_);at_builtin;refine Kd.lS Kd.string (w0:=w) w.heap.size rfl (.tmp 26) (.tmp 28) 62 9 (.string ⟨#[]⟩) 16 rfl Tryz.underlying62 mK rfl (by decide) (by omega) ab2 yS a1 [.string a1] (fun _=>True) (fun _=>False) rfl rfl ?aP (fun _ hk=>hk.elim) ?aF ?aO ?aB ?aS ?aL ?_;(case aP=>exact rfl);(case aB=>exact (ai HB));(case aF=>exact (fun _ _=>trivial));(case aO=>exact (fy Sd));(case aS=>exact (bC (ai HB)));(case aL=>have:=ae3.out;omega);intro ab1 Ko ho hb hg gV;rw [←aaJ.out] at ho;replace HB:=ak (hb);have Sc:=ak (ho);clear Sd;clear ho hb hg gV;obtain ⟨ahi,Rb,_,QV,_⟩:=info_parts mK;obtain ⟨A18,adX,Yv,Yr⟩:=rO (P:=Tryz.prog) Value.string (⟨#[]⟩:ByteArray) 62 9 .i64 Tryz.underlying62 Rb QV (some Nh) c0 l0 dm (da) (da) jD.out;have Nz:=ak (Kd.mb (h1:=fun _=>rfl) (Yv _ (Kd.kR fB.out)));have agc:=ak Yr;clear Yv Yr Rb QV)|((with_reducible refine cr (b:= .append) (xs:= #[.tmp 30,.tmp 33]) rfl ?_);at_builtin;refine Kd.eK Kd.string (w0:=w) w.heap.size rfl (.tmp 30) (.tmp 33) 62 9 (.string ⟨#[]⟩) 16 rfl Tryz.underlying62 mK rfl (by decide) (by omega) ab1 uL (l0.drop (dm:Int).toNat) _ _ _ (fun _=>True) (fun _=>False) rfl rfl ?aO ?aR (fun _ _ h=>h) (fun _ h=>h.elim) ?aF ?aB ?aS ?aL ?_;(case aR=>first|(refine Eq.mp (congrArg (fun z_=>fA _ _ _ _ z_ _) (show (l0.drop (dm:Int).toNat).length=(l0.length-dm.toNat) from List.length_drop)) ?_;exact cd (Kd.aH Nz.out HB.out))|(rw [←show (l0.drop (dm:Int).toNat).length=(l0.length-dm.toNat) from List.length_drop];exact cd (Kd.aH Nz.out HB.out))|(exact cd (Kd.aH Nz.out HB.out)));(case aB=>exact (ai HB));(case aF=>exact (fun _ _=>trivial));(case aO=>exact (fy Sc));(case aS=>exact (bC (ai HB)));(case aL=>have:=Nw.out;have TN:=(show (l0.drop (dm:Int).toNat).length=(l0.length-dm.toNat) from List.length_drop);omega);intro agN w19 ho hb hg gV;rw [←aaI.out] at ho;replace HB:=ak (hb);have abd:=ak (ho);clear Sc;clear ho hb hg gV))
     go_ret
     exact ⟨_,jT,by (with_reducible repeat (first|apply Kd.cu|apply Kd.ct|apply Kd.cy));exact abd.out,ai HB⟩
    ·rw [if_neg c5] at H
     have jg:(Op.bytesLess a1.toList ((aV ByteArray.empty l0 dm).toList))=false:=by simpa using c5
     clear c5
     have H':=ak H
     clear H
     have EX:0≤(dm:Int):=da
     have EF:dm<(l0.length:Int):=da
     obtain ⟨Nh,UP,pF⟩:=Kd.bh fB.out dm EX EF
     cases UP
     replace pF:=(HB.out.cell (World.block_lt_of_cell? w _ pF)).trans pF
     replace EX:=eq_true EX;replace EF:=eq_true EF;go_wp2
     go_roundg k1
     case measure=>have:=fP.out;omega
     case rel=>exact ⟨(wrap64 (dm+1)),er,H',⟨by have:=fP.out;omega⟩,⟨ai HB⟩⟩
   ·rw [if_neg c3] at H
    have jh:=decide_eq_false c3
    clear c3
    obtain ⟨Ee,eZ⟩:∃y_:List ByteArray,y_=(([]:List ByteArray)):=⟨_,rfl⟩
    replace H:(if 0≤dm then (if dm≤(l0.length:Int) then (if Ee.length+(l0.take (dm:Int).toNat).length<8796093022208 then ((some (Ee++(l0.take (dm:Int).toNat):List ByteArray)).bind fun yR=>(if yR.length<8796093022208 then ((some (yR++[a1]:List ByteArray)).bind fun uK=>(if uK.length+(l0.drop (dm:Int).toNat).length<8796093022208 then (some (uK++(l0.drop (dm:Int).toNat))) else (none))) else (none))) else (none)) else (none)) else (none))=some r:=yH
    have RT:=ak eZ;clear eZ;replace H:=cZ H;obtain ⟨DK,H⟩:=H;have vL:=eq_true DK
    have afY:decide (0≤dm)=true:=decide_eq_true DK
    clear DK;replace H:=cZ H;obtain ⟨Ky,H⟩:=H;have DJ:=eq_true Ky
    have afX:decide (dm≤(l0.length:Int))=true:=decide_eq_true Ky
    clear Ky;replace H:=cZ H;obtain ⟨Ca,H⟩:=H;have aaU:=ak Ca;clear Ca
    obtain ⟨yR,eZ⟩:∃y_:List ByteArray,y_=(Ee++(l0.take (dm:Int).toNat)):=⟨_,rfl⟩
    replace H:(if yR.length<8796093022208 then ((some (yR++[a1]:List ByteArray)).bind fun uK=>(if uK.length+(l0.drop (dm:Int).toNat).length<8796093022208 then (some (uK++(l0.drop (dm:Int).toNat))) else (none))) else (none))=some r:=yH
    have aaH:=ak eZ;clear eZ;replace H:=cZ H;obtain ⟨Kx,H⟩:=H;have aaT:=ak Kx;clear Kx
    obtain ⟨uK,eZ⟩:∃y_:List ByteArray,y_=(yR++[a1]):=⟨_,rfl⟩
    replace H:(if uK.length+(l0.drop (dm:Int).toNat).length<8796093022208 then (some (uK++(l0.drop (dm:Int).toNat))) else (none))=some r:=yH
    have aaG:=ak eZ;clear eZ
    have Ry:=eq_true (da:0≤dm)
    have Zu:=eq_true (da:dm≤(l0.length:Int))
    replace H:=cZ H;obtain ⟨MU,H⟩:=H;have aaS:=ak MU;clear MU
    obtain ⟨abK,eZ⟩:∃y_:List ByteArray,y_=(uK++(l0.drop (dm:Int).toNat)):=⟨_,rfl⟩
    replace H:(some abK)=some r:=yH
    have aaF:=ak eZ;clear eZ
    obtain rfl:=Option.some.inj H
    go_wp2_with (first|((with_reducible refine ax (N:=21) rfl ?_);refine Kd.gy Kd.string _ 9 ?hg (N:=21) ?hd (xs:=([]:List ByteArray)) (inner:=[]) (ok:=fun _=>True) (okp:=fun _=>True) ?hr ?hp (fun _ hk=>hk) trivial (Below.refl _ _) (Nat.le_refl _) (by simp) ?_;(case hd=>rfl);(case hg=>rfl);(case hr=>exact qg);(case hp=>exact (bN.none _ _));intro ab0 w27 Md hb cg dZ;clear cg dZ;(first|rw [←RT.out] at Md|(simp only [Int.reduceToNat] at Md;rw [←RT.out] at Md));have Sb:=ak (Kd.dB Md (bC (ai HB)));replace HB:=ak (aE (ai HB) hb);clear hb Md;obtain ⟨ahh,Ra,_,QU,_⟩:=info_parts mK;obtain ⟨adW,Yu,Yq⟩:=rN (P:=Tryz.prog) Value.string (⟨#[]⟩:ByteArray) 62 9 .i64 Tryz.underlying62 Ra QU A0 c0 l0 dm (da) (da) jD.out;have Ny:=ak (Kd.mb (h1:=fun _=>rfl) (Yu _ (Kd.kR fB.out)));have agb:=ak Yq;clear Yu Yq Ra QU)|((with_reducible refine cr (b:= .append) (xs:= #[.tmp 21,.tmp 24]) rfl ?_);at_builtin;refine Kd.eK Kd.string (w0:=w) w.heap.size rfl (.tmp 21) (.tmp 24) 62 9 (.string ⟨#[]⟩) 16 rfl Tryz.underlying62 mK rfl (by decide) (by omega) ab0 Ee (l0.take (dm:Int).toNat) _ _ _ (fun _=>True) (fun _=>False) rfl rfl ?aO ?aR (fun _ _ h=>h) (fun _ h=>h.elim) ?aF ?aB ?aS ?aL ?_;(case aR=>first|(refine Eq.mp (congrArg (fun z_=>fA _ _ _ _ z_ _) (show (l0.take (dm:Int).toNat).length=dm.toNat from (by rw [List.length_take];have h_:(dm:Int)≤(l0.length:Int):=da;omega))) ?_;exact cd (Kd.aH Ny.out HB.out))|(rw [←show (l0.take (dm:Int).toNat).length=dm.toNat from (by rw [List.length_take];have h_:(dm:Int)≤(l0.length:Int):=da;omega)];exact cd (Kd.aH Ny.out HB.out))|(exact cd (Kd.aH Ny.out HB.out)));(case aB=>exact (ai HB));(case aF=>exact (fun _ _=>trivial));(case aO=>exact (fy Sb));(case aS=>exact (bC (ai HB)));(case aL=>have:=aaU.out;have TN:=(show (l0.take (dm:Int).toNat).length=dm.toNat from (by rw [List.length_take];have h_:(dm:Int)≤(l0.length:Int):=da;omega));omega);intro abZ w30 ho hb hg gV;rw [←aaH.out] at ho;replace HB:=ak (hb);have Sa:=ak (ho);clear Sb;clear ho hb hg gV)|((with_reducible refine cr (b:= .append) (xs:= #[.tmp 26,.tmp 28]) rfl ?_);at_builtin;refine Kd.lS Kd.string (w0:=w) w.heap.size rfl (.tmp 26) (.tmp 28) 62 9 (.string ⟨#[]⟩) 16 rfl Tryz.underlying62 mK rfl (by decide) (by omega) abZ yR a1 [.string a1] (fun _=>True) (fun _=>False) rfl rfl ?aP (fun _ hk=>hk.elim) ?aF ?aO ?aB ?aS ?aL ?_;(case aP=>exact rfl);(case aB=>exact (ai HB));(case aF=>exact (fun _ _=>trivial));(case aO=>exact (fy Sa));(case aS=>exact (bC (ai HB)));(case aL=>have:=aaT.out;omega);intro abY w31 ho hb hg gV;rw [←aaG.out] at ho;replace HB:=ak (hb);have R9:=ak (ho);clear Sa;clear ho hb hg gV;obtain ⟨ahg,Q9,_,QT,_⟩:=info_parts mK;obtain ⟨A32,adV,Yt,Yp⟩:=rO (P:=Tryz.prog) Value.string (⟨#[]⟩:ByteArray) 62 9 .i64 Tryz.underlying62 Q9 QT A0 c0 l0 dm (da) (da) jD.out;have Nx:=ak (Kd.mb (h1:=fun _=>rfl) (Yt _ (Kd.kR fB.out)));have aga:=ak Yp;clear Yt Yp Q9 QT)|((with_reducible refine cr (b:= .append) (xs:= #[.tmp 30,.tmp 33]) rfl ?_);at_builtin;refine Kd.eK Kd.string (w0:=w) w.heap.size rfl (.tmp 30) (.tmp 33) 62 9 (.string ⟨#[]⟩) 16 rfl Tryz.underlying62 mK rfl (by decide) (by omega) abY uK (l0.drop (dm:Int).toNat) _ _ _ (fun _=>True) (fun _=>False) rfl rfl ?aO ?aR (fun _ _ h=>h) (fun _ h=>h.elim) ?aF ?aB ?aS ?aL ?_;(case aR=>first|(refine Eq.mp (congrArg (fun z_=>fA _ _ _ _ z_ _) (show (l0.drop (dm:Int).toNat).length=(l0.length-dm.toNat) from List.length_drop)) ?_;exact cd (Kd.aH Nx.out HB.out))|(rw [←show (l0.drop (dm:Int).toNat).length=(l0.length-dm.toNat) from List.length_drop];exact cd (Kd.aH Nx.out HB.out))|(exact cd (Kd.aH Nx.out HB.out)));(case aB=>exact (ai HB));(case aF=>exact (fun _ _=>trivial));(case aO=>exact (fy R9));(case aS=>exact (bC (ai HB)));(case aL=>have:=aaS.out;have TN:=(show (l0.drop (dm:Int).toNat).length=(l0.length-dm.toNat) from List.length_drop);omega);intro agM w33 ho hb hg gV;rw [←aaF.out] at ho;replace HB:=ak (hb);have abc:=ak (ho);clear R9;clear ho hb hg gV))
    go_ret
    exact ⟨_,jT,by (with_reducible repeat (first|apply Kd.cu|apply Kd.ct|apply Kd.cy));exact abc.out,ai HB⟩
end Go.Proofs.YtihekdlcfohkkaaGreatDoor.QFnNet
