-- printed by this session's own program (wip/tools/pp.py: the kit's print.py with changes); Lean checks it
import Derived.Test.YtihekdlcfohkkaaGreatDoorQFnNetx0
namespace Go.Proofs.YtihekdlcfohkkaaGreatDoor.QFnNet
open Go.RowKit Go.Proofs.YtihekdlcfohkkaaGreatDoorW.PrintWords Go.Proofs.YtihekdlcfohkkaaGreatDoorW.PrintLast Go.Proofs.YtihekdlcfohkkaaGreatDoorW.PrintMore
attribute [local go_sem] max2_int min2_int max_two min_two max_three min_three max_four min_four strLss strGtr strLeq strGeq
set_option linter.unusedVariables false
set_option linter.unusedSimpArgs false
set_option maxHeartbeats 16000000
set_option maxRecDepth 100000
def aM.f (a0:Int) (a1:Int) (a2:Int):Option (Bool):=if a0≥a1 then (some (decide (a0≤a2))) else (some false)
theorem aM.calls (a0:Int) (a1:Int) (a2:Int) (r:Bool) (w:World) (h:aM.f a0 a1 a2=some r):
  Calls Tryz.prog 70 #[.int .i64 a0,.int .i64 a1,.int .i64 a2] w fun e w'=>e= .returned (.bool r)∧cH w w':=by
 have H:(if a0≥a1 then (some (decide (a0≤a2))) else (some false))=some r:=h
 clear h
 by_cases c4:a0≥a1
 ·rw [if_pos c4] at H
  have iI:=geT c4
  clear c4
  obtain rfl:=Option.some.inj H
  go_enter Tryz.func70,Tryz.ntmps70
  go_wp2
  go_ret
  exact ⟨er,gh⟩
 ·rw [if_neg c4] at H
  have iI:=geF c4
  clear c4
  obtain rfl:=Option.some.inj H
  go_enter Tryz.func70,Tryz.ntmps70
  go_wp2
  go_ret
  exact ⟨er,gh⟩
def dz.l0:Nat→Int→Int→List Int→Int→Int→Option (Bool)
  |0,_,_,_,_,_=>none
  |k+1,x1,x2,x9,iz,uM=>if uM<iz then (if 0≤uM then (if uM<(x9.length:Int) then ((aM.f (rd x9 uM) x1 x2).bind fun t102=>(if t102=true then (dz.l0 k x1 x2 x9 iz (wrap64 (uM+1))) else (some false))) else (none)) else (none)) else (some true)
def dz.f (k:Nat) (l0:List Int) (a1:Int) (a2:Int):Option (Bool):=dz.l0 k a1 a2 l0 (l0.length:Int) 0
theorem dz.calls (k:Nat) (A0:Option Addr) (c0:Nat) (l0:List Int) (a1:Int) (a2:Int) (r:Bool) (w:World) (eT:Kd.C (Kd.int .i64) w A0 l0.length l0) (fE:l0.length≤c0) (h:dz.f k l0 a1 a2=some r):
  Calls Tryz.prog 102 #[.slice A0 l0.length c0,.int .i64 a1,.int .i64 a2] w fun e w'=>e= .returned (.bool r)∧cH w w':=by
 have fB:=ak eT;have jD:=ak fE;clear eT fE
 have H:(dz.l0 k a1 a2 l0 (l0.length:Int) 0)=some r:=h
 clear h
 have H':=ak H
 clear H
 go_enter Tryz.func102,Tryz.ntmps102
 go_wp2
 go_loopg [11] k (fun kq v11 w'=>∃(fL:Int),v11= .int .i64 fL∧Aside0 (dz.l0 kq a1 a2 l0 (l0.length:Int) fL=some r)∧Aside0 (kq≤k)∧cH w w')
 case atStart=>exact ⟨(0),er,H',⟨Nat.le_refl _⟩,gh⟩
 case round=>
  clear H'
  obtain ⟨fL,rfl,HA,fP,⟨m1,rfl⟩⟩:=hrel
  cases gk with
  |zero=>exact absurd HA.out (by simp [dz.l0])
  |succ k1=>
   have H:=HA.out;clear HA
   simp only [dz.l0] at H
   by_cases c4:fL<(l0.length:Int)
   ·rw [if_pos c4] at H
    have iI:=decide_eq_true c4
    clear c4;replace H:=cZ H;obtain ⟨c5,H⟩:=H;have jg:=decide_eq_true c5;clear c5;replace H:=cZ H;obtain ⟨c6,H⟩:=H;have jz:=decide_eq_true c6;clear c6;replace H:=bS H;obtain ⟨t102,A7,H⟩:=H
    by_cases c8:t102=true
    ·subst c8
     have H1:(dz.l0 k1 a1 a2 l0 (l0.length:Int) (wrap64 (fL+1)))=some r:=by rw [if_pos rfl] at H;exact H
     clear H
     have H:=H1
     clear H1
     have H':=ak H
     clear H
     obtain ⟨adg,acY,aai,U4,Py⟩:=m5 (Kd.jA fB.out fL)
     cases U4
     go_wp2_with (first|(go_at_call 70;(with_reducible refine (aM.calls (rd l0 fL) a1 a2 true _ A7.out).mono ?_);rintro e w' ⟨rfl,⟨nd,rfl⟩⟩))
     go_roundg k1
     case measure=>have:=fP.out;omega
     case rel=>exact ⟨(wrap64 (fL+1)),er,H',⟨by have:=fP.out;omega⟩,gh⟩
    ·replace c8:=Bool.eq_false_iff.mpr c8
     subst c8
     have H1:(some false)=some r:=by rw [if_neg (show¬(false=true) by decide)] at H;exact H
     clear H
     have H:=H1
     clear H1
     obtain rfl:=Option.some.inj H
     obtain ⟨adg,acY,aai,U4,Py⟩:=m5 (Kd.jA fB.out fL)
     cases U4
     go_wp2_with (first|(go_at_call 70;(with_reducible refine (aM.calls (rd l0 fL) a1 a2 false _ A7.out).mono ?_);rintro e w' ⟨rfl,⟨nd,rfl⟩⟩))
     go_ret
     exact ⟨er,gh⟩
   ·rw [if_neg c4] at H
    have iI:=decide_eq_false c4
    clear c4
    obtain rfl:=Option.some.inj H
    go_wp2
    go_ret
    exact ⟨er,gh⟩
def eR.f (k:Nat) (l0:List Int):Option (Bool):=if (l0.length:Int)≤8 then ((dz.f k l0 0 65535).bind fun t103=>(some t103)) else (some false)
theorem eR.calls (k:Nat) (A0:Option Addr) (c0:Nat) (l0:List Int) (r:Bool) (w:World) (eT:Kd.C (Kd.int .i64) w A0 l0.length l0) (fE:l0.length≤c0) (h:eR.f k l0=some r):
  Calls Tryz.prog 71 #[.slice A0 l0.length c0] w fun e w'=>e= .returned (.bool r)∧cH w w':=by
 have fB:=ak eT;have jD:=ak fE;clear eT fE
 have H:(if (l0.length:Int)≤8 then ((dz.f k l0 0 65535).bind fun t103=>(some t103)) else (some false))=some r:=h
 clear h
 by_cases c2:(l0.length:Int)≤8
 ·rw [if_pos c2] at H
  have oQ:=decide_eq_true c2
  have DI:decide (l0.length≤8)=true:=decide_eq_true (by omega)
  clear c2;replace H:=bS H;obtain ⟨t103,A3,H⟩:=H
  obtain rfl:=Option.some.inj H
  go_enter Tryz.func71,Tryz.ntmps71
  go_wp2_with (first|(go_at_call 102;(with_reducible refine (dz.calls k _ _ l0 0 65535 t103 _ ?side1 ?side2 A3.out).mono ?_);(case side1=>exact cd fB.out);(case side2=>exact jD.out);rintro e w' ⟨rfl,⟨nd,rfl⟩⟩))
  go_ret
  exact ⟨er,gh⟩
 ·rw [if_neg c2] at H
  have oQ:=decide_eq_false c2
  have DI:decide (l0.length≤8)=false:=decide_eq_false (by omega)
  clear c2
  obtain rfl:=Option.some.inj H
  go_enter Tryz.func71,Tryz.ntmps71
  go_wp2
  go_ret
  exact ⟨er,gh⟩
def cN.l0:Nat→List ByteArray→List ByteArray→Int→Int→Option (Bool)
  |0,_,_,_,_=>none
  |k+1,x0,x5,x6,x7=>if x7<x6 then (if 0≤x7 then (if x7<(x5.length:Int) then (if ((aV ByteArray.empty x5 x7).size:Int)=24 then (if x7>0 then (if 0≤(wrap64 (x7-1)) then (if (wrap64 (x7-1))<(x0.length:Int) then (if ((Op.bytesLess ((aV ByteArray.empty x0 (wrap64 (x7-1))).toList) ((aV ByteArray.empty x5 x7).toList))=true) then (cN.l0 k x0 x5 x6 (wrap64 (x7+1))) else (some false)) else (none)) else (none)) else (cN.l0 k x0 x5 x6 (wrap64 (x7+1)))) else (some false)) else (none)) else (none)) else (some (decide ((x0.length:Int)≤100)))
def cN.f (k:Nat) (l0:List ByteArray):Option (Bool):=cN.l0 k l0 l0 (l0.length:Int) 0
theorem cN.calls (k:Nat) (A0:Option Addr) (c0:Nat) (l0:List ByteArray) (r:Bool) (w:World) (eT:Kd.C Kd.string w A0 l0.length l0) (fE:l0.length≤c0) (h:cN.f k l0=some r):
  Calls Tryz.prog 72 #[.slice A0 l0.length c0] w fun e w'=>e= .returned (.bool r)∧cH w w':=by
 have fB:=ak eT;have jD:=ak fE;clear eT fE
 have H:(cN.l0 k l0 l0 (l0.length:Int) 0)=some r:=h
 clear h
 have H':=ak H
 clear H
 go_enter Tryz.func72,Tryz.ntmps72
 go_wp2
 go_loopg [7] k (fun kq v7 w'=>∃(de:Int),v7= .int .i64 de∧Aside0 (cN.l0 kq l0 l0 (l0.length:Int) de=some r)∧Aside0 (kq≤k)∧cH w w')
 case atStart=>exact ⟨(0),er,H',⟨Nat.le_refl _⟩,gh⟩
 case round=>
  clear H'
  obtain ⟨de,rfl,HA,fP,⟨m1,rfl⟩⟩:=hrel
  cases gk with
  |zero=>exact absurd HA.out (by simp [cN.l0])
  |succ k1=>
   have H:=HA.out;clear HA
   simp only [cN.l0] at H
   by_cases c2:de<(l0.length:Int)
   ·rw [if_pos c2] at H
    have oQ:=decide_eq_true c2
    clear c2;replace H:=cZ H;obtain ⟨c3,H⟩:=H;have jh:=decide_eq_true c3;clear c3;replace H:=cZ H;obtain ⟨c4,H⟩:=H;have iI:=decide_eq_true c4;clear c4
    by_cases c5:((aV ByteArray.empty l0 de).size:Int)=24
    ·rw [if_pos c5] at H
     have jg:=kI c5
     have BZ:=kH c5
     clear c5
     by_cases c6:de>0
     ·rw [if_pos c6] at H
      have jz:=H6 c6
      clear c6
      obtain ⟨nq,uZ⟩:∃j_:Int,(wrap64 (de-1))=j_:=⟨_,rfl⟩
      replace H:(if 0≤(nq) then (if (nq)<(l0.length:Int) then (if ((Op.bytesLess ((aV ByteArray.empty l0 (nq)).toList) ((aV ByteArray.empty l0 de).toList))=true) then (cN.l0 k1 l0 l0 (l0.length:Int) (wrap64 (de+1))) else (some false)) else (none)) else (none))=some r:=by first|(rw [uZ] at H;exact H)|(simp only [uZ] at H⊢;exact H)
      have Q8:(IntKind.i64.wrap (de-1))=nq:=(bX _).trans uZ
      replace H:=cZ H;obtain ⟨c8,H⟩:=H;have wm:=decide_eq_true c8;clear c8;replace H:=cZ H;obtain ⟨c9,H⟩:=H;have lQ:=decide_eq_true c9;clear c9
      by_cases gu:((Op.bytesLess ((aV ByteArray.empty l0 (nq)).toList) ((aV ByteArray.empty l0 de).toList))=true)
      ·rw [if_pos gu] at H
       have kC:(Op.bytesLess ((aV ByteArray.empty l0 (nq)).toList) ((aV ByteArray.empty l0 de).toList))=true:=gu
       clear gu
       have H':=ak H
       clear H
       obtain ⟨AF,Az,DZ,FT,Bn⟩:=m5 (Kd.bh fB.out de)
       cases FT
       have Fa:0≤((nq):Int):=da
       have EO:(nq)<(l0.length:Int):=da
       obtain ⟨Nn,U3,Px⟩:=Kd.bh fB.out (nq) Fa EO
       obtain rfl:DZ=Nn:=(by injection U3)
       replace Fa:=eq_true Fa;replace EO:=eq_true EO;go_wp2
       go_roundg k1
       case measure=>have:=fP.out;omega
       case rel=>exact ⟨(wrap64 (de+1)),er,H',⟨by have:=fP.out;omega⟩,gh⟩
      ·rw [if_neg gu] at H
       have kC:(Op.bytesLess ((aV ByteArray.empty l0 (nq)).toList) ((aV ByteArray.empty l0 de).toList))=false:=by simpa using gu
       clear gu
       obtain rfl:=Option.some.inj H
       obtain ⟨AF,Az,DZ,FT,Bn⟩:=m5 (Kd.bh fB.out de)
       cases FT
       have Fa:0≤((nq):Int):=da
       have EO:(nq)<(l0.length:Int):=da
       obtain ⟨Nn,U3,Px⟩:=Kd.bh fB.out (nq) Fa EO
       obtain rfl:DZ=Nn:=(by injection U3)
       replace Fa:=eq_true Fa;replace EO:=eq_true EO;go_wp2
       go_ret
       exact ⟨by first|rfl|(simp;done)|(simp only [←uZ]<;>(first|rfl|simp))|(simp [*];done),gh⟩
     ·rw [if_neg c6] at H
      have jz:=H7 c6
      clear c6
      have H':=ak H
      clear H
      have AF:0≤(de:Int):=da
      have Az:de<(l0.length:Int):=da
      obtain ⟨DZ,FT,Bn⟩:=Kd.bh fB.out de AF Az
      cases FT
      replace AF:=eq_true AF;replace Az:=eq_true Az;go_wp2
      go_roundg k1
      case measure=>have:=fP.out;omega
      case rel=>exact ⟨(wrap64 (de+1)),er,H',⟨by have:=fP.out;omega⟩,gh⟩
    ·rw [if_neg c5] at H
     have jg:=jV c5
     have BZ:=jU c5
     obtain rfl:=Option.some.inj H
     have AF:0≤(de:Int):=da
     have Az:de<(l0.length:Int):=da
     obtain ⟨DZ,FT,Bn⟩:=Kd.bh fB.out de AF Az
     cases FT
     replace AF:=eq_true AF;replace Az:=eq_true Az;go_wp2
     go_ret
     exact ⟨er,gh⟩
   ·rw [if_neg c2] at H
    have oQ:=decide_eq_false c2
    clear c2
    obtain rfl:=Option.some.inj H
    go_wp2
    go_ret
    exact ⟨er,gh⟩
def bE.l0:Nat→List ByteArray→ByteArray→Int→Int→Option (Int)
  |0,_,_,_,_=>none
  |k+1,x0,x1,x7,x8=>if x8<x7 then (if 0≤x8 then (if x8<(x0.length:Int) then (if x1.toList=(aV ByteArray.empty x0 x8).toList then (some x8) else (bE.l0 k x0 x1 x7 (wrap64 (x8+1)))) else (none)) else (none)) else (some (-1))
def bE.f (k:Nat) (l0:List ByteArray) (a1:ByteArray):Option (Int):=bE.l0 k l0 a1 (l0.length:Int) 0
theorem bE.calls (k:Nat) (A0:Option Addr) (c0:Nat) (l0:List ByteArray) (a1:ByteArray) (r:Int) (w:World) (eT:Kd.C Kd.string w A0 l0.length l0) (fE:l0.length≤c0) (h:bE.f k l0 a1=some r):
  Calls Tryz.prog 103 #[.slice A0 l0.length c0,.string a1] w fun e w'=>e= .returned (.int .i64 r)∧cH w w':=by
 have fB:=ak eT;have jD:=ak fE;clear eT fE
 have H:(bE.l0 k l0 a1 (l0.length:Int) 0)=some r:=h
 clear h
 have H':=ak H
 clear H
 go_enter Tryz.func103,Tryz.ntmps103
 go_wp2
 go_loopg [8] k (fun kq v8 w'=>∃(cO:Int),v8= .int .i64 cO∧Aside0 (bE.l0 kq l0 a1 (l0.length:Int) cO=some r)∧Aside0 (kq≤k)∧cH w w')
 case atStart=>exact ⟨(0),er,H',⟨Nat.le_refl _⟩,gh⟩
 case round=>
  clear H'
  obtain ⟨cO,rfl,HA,fP,⟨m1,rfl⟩⟩:=hrel
  cases gk with
  |zero=>exact absurd HA.out (by simp [bE.l0])
  |succ k1=>
   have H:=HA.out;clear HA
   simp only [bE.l0] at H
   by_cases c3:cO<(l0.length:Int)
   ·rw [if_pos c3] at H
    have jh:=decide_eq_true c3
    clear c3;replace H:=cZ H;obtain ⟨c4,H⟩:=H;have iI:=decide_eq_true c4;clear c4;replace H:=cZ H;obtain ⟨c5,H⟩:=H;have jg:=decide_eq_true c5;clear c5
    by_cases c6:a1.toList=(aV ByteArray.empty l0 cO).toList
    ·rw [if_pos c6] at H
     have jz:=kI c6
     have qz:=kH c6
     clear c6
     obtain rfl:=Option.some.inj H
     have E9:0≤(cO:Int):=da
     have EN:cO<(l0.length:Int):=da
     obtain ⟨aah,U2,Pw⟩:=Kd.bh fB.out cO E9 EN
     cases U2
     replace E9:=eq_true E9;replace EN:=eq_true EN;go_wp2
     go_ret
     exact ⟨er,gh⟩
    ·rw [if_neg c6] at H
     have jz:=jV c6
     have qz:=jU c6
     have H':=ak H
     clear H
     have E9:0≤(cO:Int):=da
     have EN:cO<(l0.length:Int):=da
     obtain ⟨aah,U2,Pw⟩:=Kd.bh fB.out cO E9 EN
     cases U2
     replace E9:=eq_true E9;replace EN:=eq_true EN;go_wp2
     go_roundg k1
     case measure=>have:=fP.out;omega
     case rel=>exact ⟨(wrap64 (cO+1)),er,H',⟨by have:=fP.out;omega⟩,gh⟩
   ·rw [if_neg c3] at H
    have jh:=decide_eq_false c3
    clear c3
    obtain rfl:=Option.some.inj H
    go_wp2
    go_ret
    exact ⟨er,gh⟩
def cI.f (k:Nat) (l0:List ByteArray) (a1:ByteArray):Option (Bool):=(bE.f k l0 a1).bind fun t107=>(some (decide (t107≥0)))
theorem cI.calls (k:Nat) (A0:Option Addr) (c0:Nat) (l0:List ByteArray) (a1:ByteArray) (r:Bool) (w:World) (eT:Kd.C Kd.string w A0 l0.length l0) (fE:l0.length≤c0) (h:cI.f k l0 a1=some r):
  Calls Tryz.prog 73 #[.slice A0 l0.length c0,.string a1] w fun e w'=>e= .returned (.bool r)∧cH w w':=by
 have fB:=ak eT;have jD:=ak fE;clear eT fE
 have H:((bE.f k l0 a1).bind fun t107=>(some (decide (t107≥0))))=some r:=h
 clear h;replace H:=bS H;obtain ⟨t107,A3,H⟩:=H
 obtain rfl:=Option.some.inj H
 go_enter Tryz.func73,Tryz.ntmps73
 go_wp2_with (first|(go_at_call 103;(with_reducible refine (bE.calls k _ _ l0 a1 t107 _ ?side1 ?side2 A3.out).mono ?_);(case side1=>exact cd fB.out);(case side2=>exact jD.out);rintro e w' ⟨rfl,⟨nd,rfl⟩⟩))
 go_ret
 exact ⟨er,gh⟩
def hJ.f (a0:ByteArray):Option (Bool):=(aM.f (a0.size:Int) 1 15).bind fun t108=>(some (!t108))
theorem hJ.calls (a0:ByteArray) (r:Bool) (w:World) (h:hJ.f a0=some r):
  Calls Tryz.prog 75 #[.string a0] w fun e w'=>e= .returned (.bool r)∧cH w w':=by
 have H:((aM.f (a0.size:Int) 1 15).bind fun t108=>(some (!t108)))=some r:=h
 clear h;replace H:=bS H;obtain ⟨t108,A2,H⟩:=H
 obtain rfl:=Option.some.inj H
 go_enter Tryz.func75,Tryz.ntmps75
 go_wp2_with (first|(go_at_call 70;(with_reducible refine (aM.calls (a0.size:Int) 1 15 t108 _ A2.out).mono ?_);rintro e w' ⟨rfl,⟨nd,rfl⟩⟩))
 go_ret
 exact ⟨er,gh⟩
def bp.l0:Nat→List ByteArray→Int→Int→Option (Int)
  |0,_,_,_=>none
  |k+1,x0,x7,x8=>if x8<x7 then (if 0≤x8 then (if x8<(x0.length:Int) then ((hJ.f (aV ByteArray.empty x0 x8)).bind fun t110=>(if t110=true then (some x8) else (bp.l0 k x0 x7 (wrap64 (x8+1))))) else (none)) else (none)) else (some (-1))
def bp.f (k:Nat) (l0:List ByteArray):Option (Int):=bp.l0 k l0 (l0.length:Int) 0
theorem bp.calls (k:Nat) (A0:Option Addr) (c0:Nat) (l0:List ByteArray) (r:Int) (w:World) (eT:Kd.C Kd.string w A0 l0.length l0) (fE:l0.length≤c0) (h:bp.f k l0=some r):
  Calls Tryz.prog 104 #[.slice A0 l0.length c0,.func (.func 75) #[] #[]] w fun e w'=>e= .returned (.int .i64 r)∧cH w w':=by
 have fB:=ak eT;have jD:=ak fE;clear eT fE
 have H:(bp.l0 k l0 (l0.length:Int) 0)=some r:=h
 clear h
 have H':=ak H
 clear H
 go_enter Tryz.func104,Tryz.ntmps104
 go_wp2
 go_loopg [8] k (fun kq v8 w'=>∃(cO:Int),v8= .int .i64 cO∧Aside0 (bp.l0 kq l0 (l0.length:Int) cO=some r)∧Aside0 (kq≤k)∧cH w w')
 case atStart=>exact ⟨(0),er,H',⟨Nat.le_refl _⟩,gh⟩
 case round=>
  clear H'
  obtain ⟨cO,rfl,HA,fP,⟨m1,rfl⟩⟩:=hrel
  cases gk with
  |zero=>exact absurd HA.out (by simp [bp.l0])
  |succ k1=>
   have H:=HA.out;clear HA
   simp only [bp.l0] at H
   by_cases c3:cO<(l0.length:Int)
   ·rw [if_pos c3] at H
    have jh:=decide_eq_true c3
    clear c3;replace H:=cZ H;obtain ⟨c4,H⟩:=H;have iI:=decide_eq_true c4;clear c4;replace H:=cZ H;obtain ⟨c5,H⟩:=H;have jg:=decide_eq_true c5;clear c5;replace H:=bS H;obtain ⟨t110,A6,H⟩:=H
    by_cases c7:t110=true
    ·subst c7
     have H1:(some cO)=some r:=by rw [if_pos rfl] at H;exact H
     clear H
     have H:=H1
     clear H1
     obtain rfl:=Option.some.inj H
     obtain ⟨adf,acX,aag,U1,Pv⟩:=m5 (Kd.bh fB.out cO)
     cases U1
     go_wp2_with (first|((with_reducible refine xZ (f:=75) rfl rfl ?_);refine Mz (some 16) rfl rfl Tryz.func75 (by kernel_rfl) rfl #[.string (aV ByteArray.empty l0 cO)] rfl rfl (by (try simp only [List.map_toArray,List.map_cons,List.map_nil]);first|done|rfl|(simp only [List.length_drop,List.length_take];rfl)) ?_;(with_reducible refine (hJ.calls (aV ByteArray.empty l0 cO) true _ A6.out).mono ?_);rintro e w' ⟨rfl,⟨nd,rfl⟩⟩;refine ⟨_,rfl,?_⟩))
     go_ret
     exact ⟨er,gh⟩
    ·replace c7:=Bool.eq_false_iff.mpr c7
     subst c7
     have H1:(bp.l0 k1 l0 (l0.length:Int) (wrap64 (cO+1)))=some r:=by rw [if_neg (show¬(false=true) by decide)] at H;exact H
     clear H
     have H:=H1
     clear H1
     have H':=ak H
     clear H
     obtain ⟨adf,acX,aag,U1,Pv⟩:=m5 (Kd.bh fB.out cO)
     cases U1
     go_wp2_with (first|((with_reducible refine xZ (f:=75) rfl rfl ?_);refine Mz (some 16) rfl rfl Tryz.func75 (by kernel_rfl) rfl #[.string (aV ByteArray.empty l0 cO)] rfl rfl (by (try simp only [List.map_toArray,List.map_cons,List.map_nil]);first|done|rfl|(simp only [List.length_drop,List.length_take];rfl)) ?_;(with_reducible refine (hJ.calls (aV ByteArray.empty l0 cO) false _ A6.out).mono ?_);rintro e w' ⟨rfl,⟨nd,rfl⟩⟩;refine ⟨_,rfl,?_⟩))
     go_roundg k1
     case measure=>have:=fP.out;omega
     case rel=>exact ⟨(wrap64 (cO+1)),er,H',⟨by have:=fP.out;omega⟩,gh⟩
   ·rw [if_neg c3] at H
    have jh:=decide_eq_false c3
    clear c3
    obtain rfl:=Option.some.inj H
    go_wp2
    go_ret
    exact ⟨er,gh⟩
def eg.f (k:Nat) (l0:List ByteArray):Option (Bool):=(bp.f k l0).bind fun t111=>(some (decide (t111≥0)))
theorem eg.calls (k:Nat) (A0:Option Addr) (c0:Nat) (l0:List ByteArray) (r:Bool) (w:World) (eT:Kd.C Kd.string w A0 l0.length l0) (fE:l0.length≤c0) (h:eg.f k l0=some r):
  Calls Tryz.prog 74 #[.slice A0 l0.length c0,.func (.func 75) #[] #[]] w fun e w'=>e= .returned (.bool r)∧cH w w':=by
 have fB:=ak eT;have jD:=ak fE;clear eT fE
 have H:((bp.f k l0).bind fun t111=>(some (decide (t111≥0))))=some r:=h
 clear h;replace H:=bS H;obtain ⟨t111,A3,H⟩:=H
 obtain rfl:=Option.some.inj H
 go_enter Tryz.func74,Tryz.ntmps74
 go_wp2_with (first|(go_at_call 104;(with_reducible refine (bp.calls k _ _ l0 t111 _ ?side1 ?side2 A3.out).mono ?_);(case side1=>exact cd fB.out);(case side2=>exact jD.out);rintro e w' ⟨rfl,⟨nd,rfl⟩⟩))
 go_ret
 exact ⟨er,gh⟩
mutual
def aq.j0:Nat→Bool→List Int→List (List ByteArray)→List (List ByteArray)→List (List ByteArray)→Int→Option (Bool)
  |0,_,_,_,_,_,_=>none
  |k+1,x47,mT,lH,j5,lG,mS=>if x47=true then (some false) else (aq.l0 k lH (lH.length:Int) 0 mT lH j5 lG mS)
def aq.l0:Nat→List (List ByteArray)→Int→Int→List Int→List (List ByteArray)→List (List ByteArray)→List (List ByteArray)→Int→Option (Bool)
  |0,_,_,_,_,_,_,_,_=>none
  |k+1,IM,QC,sW,mT,lH,j5,lG,mS=>if sW<QC then (if 0≤sW then (if sW<(IM.length:Int) then ((cN.f k (bK IM sW)).bind fun t117=>(if t117=true then (if sW<(j5.length:Int) then ((cN.f k (bK j5 sW)).bind fun t119=>(aq.j2 k sW (bK IM sW) IM QC sW (!t119) mT lH j5 lG mS)) else (none)) else (aq.j2 k sW (bK IM sW) IM QC sW true mT lH j5 lG mS))) else (none)) else (none)) else (aq.l2 k lG (lG.length:Int) 0)
def aq.j2:Nat→Int→List ByteArray→List (List ByteArray)→Int→Int→Bool→List Int→List (List ByteArray)→List (List ByteArray)→List (List ByteArray)→Int→Option (Bool)
  |0,_,_,_,_,_,_,_,_,_,_,_=>none
  |k+1,x4,x5,IM,QC,sW,x67,mT,lH,j5,lG,mS=>if x67=true then (some false) else (aq.l1 k x4 IM QC sW x5 (x5.length:Int) 0 mT lH j5 lG mS)
def aq.l1:Nat→Int→List (List ByteArray)→Int→Int→List ByteArray→Int→Int→List Int→List (List ByteArray)→List (List ByteArray)→List (List ByteArray)→Int→Option (Bool)
  |0,_,_,_,_,_,_,_,_,_,_,_,_=>none
  |k+1,x4,IM,QC,sW,x68,x69,N4,mT,lH,j5,lG,mS=>if N4<x69 then (if 0≤N4 then (if N4<(x68.length:Int) then (if 0≤x4 then (if x4<(j5.length:Int) then ((cI.f k (bK j5 x4) (aV ByteArray.empty x68 N4)).bind fun t122=>(if t122=true then (aq.l1 k x4 IM QC sW x68 x69 (wrap64 (N4+1)) mT lH j5 lG mS) else (some false))) else (none)) else (none)) else (none)) else (none)) else (aq.l0 k IM QC (wrap64 (sW+1)) mT lH j5 lG mS)
def aq.l2:Nat→List (List ByteArray)→Int→Int→Option (Bool)
  |0,_,_,_=>none
  |k+1,x85,x86,Ei=>if Ei<x86 then (if 0≤Ei then (if Ei<(x85.length:Int) then (if ((bK x85 Ei).length:Int)>60 then (some false) else ((eg.f k (bK x85 Ei)).bind fun t124=>(if t124=true then (some false) else (aq.l2 k x85 x86 (wrap64 (Ei+1)))))) else (none)) else (none)) else (some true)
end
def aq.f (k:Nat) (bk:List Int) (aZ:List (List ByteArray)) (bH:List (List ByteArray)) (bu:List (List ByteArray)) (cn:Int):Option (Bool):=(aM.f (bk.length:Int) 1 4).bind fun t113=>(if t113=true then ((eR.f k bk).bind fun t114=>(if t114=true then (if (aZ.length:Int)=(bk.length:Int) then (if (bH.length:Int)=(bk.length:Int) then (if (bu.length:Int)=4 then ((aM.f cn 0 60).bind fun t115=>(aq.j0 k (!t115) bk aZ bH bu cn)) else (aq.j0 k true bk aZ bH bu cn)) else (aq.j0 k true bk aZ bH bu cn)) else (aq.j0 k true bk aZ bH bu cn)) else (aq.j0 k true bk aZ bH bu cn))) else (aq.j0 k true bk aZ bH bu cn))
theorem aq.calls (k:Nat) (ir:Option Addr) (ie:Nat) (bk:List Int) (iT:Option Addr) (ic:Nat) (aZ:List (List ByteArray)) (iq:Option Addr) (ia:Nat) (bH:List (List ByteArray)) (iC:Option Addr) (hU:Nat) (bu:List (List ByteArray)) (cn:Int) (r:Bool) (w:World) (k8:Kd.C (Kd.int .i64) w ir bk.length bk) (lg:bk.length≤ie) (k7:Kd.C (Kd.slice 9 Kd.string) w iT aZ.length aZ) (lf:aZ.length≤ic) (k6:Kd.C (Kd.slice 9 Kd.string) w iq bH.length bH) (ld:bH.length≤ia) (k5:Kd.C (Kd.slice 9 Kd.string) w iC bu.length bu) (k9:bu.length≤hU) (h:aq.f k bk aZ bH bu cn=some r):
  Calls Tryz.prog 35 #[.agg #[.slice ir bk.length ie,.slice iT aZ.length ic,.slice iq bH.length ia,.slice iC bu.length hU,.int .i64 cn]] w fun e w'=>e= .returned (.bool r)∧Below w.heap.size w w':=by
 have mX:=Tryz.underlying27
 have iX:=ak k8;have iY:=ak lg;clear k8 lg;have lC:=ak k7;have mz:=ak lf;clear k7 lf;have kE:=ak k6;have mP:=ak ld;clear k6 ld;have lz:=ak k5;have nG:=ak k9;clear k5 k9
 have HB:=ak (Below.refl w.heap.size w)
 have H:((aM.f (bk.length:Int) 1 4).bind fun t113=>(if t113=true then ((eR.f k bk).bind fun t114=>(if t114=true then (if (aZ.length:Int)=(bk.length:Int) then (if (bH.length:Int)=(bk.length:Int) then (if (bu.length:Int)=4 then ((aM.f cn 0 60).bind fun t115=>(aq.j0 k (!t115) bk aZ bH bu cn)) else (aq.j0 k true bk aZ bH bu cn)) else (aq.j0 k true bk aZ bH bu cn)) else (aq.j0 k true bk aZ bH bu cn)) else (aq.j0 k true bk aZ bH bu cn))) else (aq.j0 k true bk aZ bH bu cn)))=some r:=h
 clear h;have VQ:=ak H;clear H
 go_enter Tryz.func35,Tryz.ntmps35
 go_upto_region 2 with (first|((with_reducible refine ax (N:=1) rfl ?_);(try (refine gj (by rfl) ?_;dsimp only));refine cm 1 #[.slice ir bk.length ie,.slice iT aZ.length ic,.slice iq bH.length ia,.slice iC bu.length hU,.int .i64 cn] 27 ?_;intro Dr hg w3 dO hb;have iA:=ak (dO);have agi:=ak (lT hg (ai HB));have jm:=ak (lT hg (ai HB));replace HB:=ak (aE (ai HB) hb);clear hb dO hg;obtain ⟨FG,FF,FE,FD,FC,Fy,Fx,Fw,Fv,Fu⟩:=aD iA))
 (try simp only [Act.put,List.setIfInBounds_toArray,List.set_cons_zero,List.set_cons_succ])
 go_cut [47] (fun v47 wc=>∃(kq:Nat) (Gq:Bool),v47= .bool Gq∧Aside0 (aq.j0 kq Gq bk aZ bH bu cn=some r)∧Aside0 (kq≤k)∧Aside0 (wc.heap[Dr]? =some (.cells #[(.slice ir bk.length ie),(.slice iT aZ.length ic),(.slice iq bH.length ia),(.slice iC bu.length hU),.int .i64 cn] 27 (0,0)))∧Aside0 (Below w.heap.size w wc))
 case first=>
  have H:=VQ.out;clear VQ;replace H:=bS H;obtain ⟨t113,A5,H⟩:=H
  by_cases c6:t113=true
  ·subst c6
   have H1:((eR.f k bk).bind fun t114=>(if t114=true then (if (aZ.length:Int)=(bk.length:Int) then (if (bH.length:Int)=(bk.length:Int) then (if (bu.length:Int)=4 then ((aM.f cn 0 60).bind fun t115=>(aq.j0 k (!t115) bk aZ bH bu cn)) else (aq.j0 k true bk aZ bH bu cn)) else (aq.j0 k true bk aZ bH bu cn)) else (aq.j0 k true bk aZ bH bu cn)) else (aq.j0 k true bk aZ bH bu cn)))=some r:=by rw [if_pos rfl] at H;exact H
   clear H
   have H:=H1
   clear H1;replace H:=bS H;obtain ⟨t114,A7,H⟩:=H
   by_cases c8:t114=true
   ·subst c8
    have H1:(if (aZ.length:Int)=(bk.length:Int) then (if (bH.length:Int)=(bk.length:Int) then (if (bu.length:Int)=4 then ((aM.f cn 0 60).bind fun t115=>(aq.j0 k (!t115) bk aZ bH bu cn)) else (aq.j0 k true bk aZ bH bu cn)) else (aq.j0 k true bk aZ bH bu cn)) else (aq.j0 k true bk aZ bH bu cn))=some r:=by rw [if_pos rfl] at H;exact H
    clear H
    have H:=H1
    clear H1
    by_cases c9:(aZ.length:Int)=(bk.length:Int)
    ·rw [if_pos c9] at H
     have lQ:=kI c9
     have FY:=kH c9
     have MR:(aZ.length==bk.length)=true:=by first|simpa using c9|(simp at c9⊢;omega)
     clear c9
     (first|rw [lQ]|(simp only [bX,cL];rw [lQ])|skip)
     by_cases gu:(bH.length:Int)=(bk.length:Int)
     ·rw [if_pos gu] at H
      have kC:=kI gu
      have Il:=kH gu
      have MY:(bH.length==bk.length)=true:=by first|simpa using gu|(simp at gu⊢;omega)
      clear gu
      by_cases lp:(bu.length:Int)=4
      ·rw [if_pos lp] at H
       have lW:=kI lp
       have Ik:=kH lp
       clear lp;replace H:=bS H;obtain ⟨t115,Kl,H⟩:=H
       have H':=ak H
       clear H
       go_wp2_with (first|((with_reducible refine eG (f:=70) rfl ?_);refine kS (some 14) rfl Tryz.func70 #[.int .i64 (bk.length:Int),.int .i64 1,.int .i64 4] rfl ?_;(with_reducible refine (aM.calls (bk.length:Int) 1 4 true _ A5.out).mono ?_);rintro e w' ⟨rfl,⟨nd,rfl⟩⟩;refine ⟨_,rfl,?_⟩;have oD:=aD iA)|(go_at_call 71;(with_reducible refine (eR.calls k _ _ bk true _ ?side1 ?side2 A7.out).mono ?_);(case side1=>exact cd (Kd.aH iX.out (aT HB jm)));(case side2=>exact iY.out);rintro e w' ⟨rfl,⟨nd,rfl⟩⟩)|(go_at_call 70;(with_reducible refine (aM.calls cn 0 60 t115 _ Kl.out).mono ?_);rintro e w' ⟨rfl,⟨nd,rfl⟩⟩))
       go_meet
       case rel=>exact ⟨_,(!t115),er,H',⟨by first|omega|exact Nat.le_refl _⟩,⟨fk iA⟩,⟨aT HB jm⟩⟩
      ·rw [if_neg lp] at H
       have lW:=jV lp
       have Ik:=jU lp
       have H':=ak H
       clear H
       go_wp2_with (first|(go_at_call 70;(with_reducible refine (aM.calls (bk.length:Int) 1 4 true _ A5.out).mono ?_);rintro e w' ⟨rfl,⟨nd,rfl⟩⟩;have Sq:=aD iA)|(go_at_call 71;(with_reducible refine (eR.calls k _ _ bk true _ ?side1 ?side2 A7.out).mono ?_);(case side1=>exact cd (Kd.aH iX.out (aT HB jm)));(case side2=>exact iY.out);rintro e w' ⟨rfl,⟨nd,rfl⟩⟩))
       go_meet
       case rel=>exact ⟨_,(true),er,H',⟨by first|omega|exact Nat.le_refl _⟩,⟨fk iA⟩,⟨aT HB jm⟩⟩
     ·rw [if_neg gu] at H
      have kC:=jV gu
      have Il:=jU gu
      have MY:(bH.length==bk.length)=false:=by first|simpa using gu|(simp at gu⊢;omega)
      have H':=ak H
      clear H
      go_wp2_with (first|(go_at_call 70;(with_reducible refine (aM.calls (bk.length:Int) 1 4 true _ A5.out).mono ?_);rintro e w' ⟨rfl,⟨nd,rfl⟩⟩;have W0:=aD iA)|(go_at_call 71;(with_reducible refine (eR.calls k _ _ bk true _ ?side1 ?side2 A7.out).mono ?_);(case side1=>exact cd (Kd.aH iX.out (aT HB jm)));(case side2=>exact iY.out);rintro e w' ⟨rfl,⟨nd,rfl⟩⟩))
      go_meet
      case rel=>exact ⟨_,(true),er,H',⟨by first|omega|exact Nat.le_refl _⟩,⟨fk iA⟩,⟨aT HB jm⟩⟩
    ·rw [if_neg c9] at H
     have lQ:=jV c9
     have FY:=jU c9
     have MR:(aZ.length==bk.length)=false:=by first|simpa using c9|(simp at c9⊢;omega)
     (first|rw [lQ]|(simp only [bX,cL];rw [lQ])|skip)
     have H':=ak H
     clear H
     go_wp2_with (first|(go_at_call 70;(with_reducible refine (aM.calls (bk.length:Int) 1 4 true _ A5.out).mono ?_);rintro e w' ⟨rfl,⟨nd,rfl⟩⟩;have abW:=aD iA)|(go_at_call 71;(with_reducible refine (eR.calls k _ _ bk true _ ?side1 ?side2 A7.out).mono ?_);(case side1=>exact cd (Kd.aH iX.out (aT HB jm)));(case side2=>exact iY.out);rintro e w' ⟨rfl,⟨nd,rfl⟩⟩))
     go_meet
     case rel=>exact ⟨_,(true),er,H',⟨by first|omega|exact Nat.le_refl _⟩,⟨fk iA⟩,⟨aT HB jm⟩⟩
   ·replace c8:=Bool.eq_false_iff.mpr c8
    subst c8
    have H1:(aq.j0 k true bk aZ bH bu cn)=some r:=by rw [if_neg (show¬(false=true) by decide)] at H;exact H
    clear H
    have H:=H1
    clear H1
    have H':=ak H
    clear H
    go_wp2_with (first|(go_at_call 70;(with_reducible refine (aM.calls (bk.length:Int) 1 4 true _ A5.out).mono ?_);rintro e w' ⟨rfl,⟨nd,rfl⟩⟩;have WZ:=aD iA)|(go_at_call 71;(with_reducible refine (eR.calls k _ _ bk false _ ?side1 ?side2 A7.out).mono ?_);(case side1=>exact cd (Kd.aH iX.out (aT HB jm)));(case side2=>exact iY.out);rintro e w' ⟨rfl,⟨nd,rfl⟩⟩))
    go_meet
    case rel=>exact ⟨_,(true),er,H',⟨by first|omega|exact Nat.le_refl _⟩,⟨fk iA⟩,⟨aT HB jm⟩⟩
  ·replace c6:=Bool.eq_false_iff.mpr c6
   subst c6
   have H1:(aq.j0 k true bk aZ bH bu cn)=some r:=by rw [if_neg (show¬(false=true) by decide)] at H;exact H
   clear H
   have H:=H1
   clear H1
   have H':=ak H
   clear H
   go_wp2_with (first|(go_at_call 70;(with_reducible refine (aM.calls (bk.length:Int) 1 4 false _ A5.out).mono ?_);rintro e w' ⟨rfl,⟨nd,rfl⟩⟩))
   go_meet
   case rel=>exact ⟨_,(true),er,H',⟨by first|omega|exact Nat.le_refl _⟩,⟨fk iA⟩,⟨aT HB jm⟩⟩
 case rest=>
  clear VQ;(try clear FG);(try clear FF);(try clear FE);(try clear FD);(try clear FC);(try clear Fy);(try clear Fx);(try clear Fw);(try clear Fv);(try clear Fu)
  obtain ⟨kq,Gq,rfl,HA,Cp,iA,HB⟩:=hcut
  cases kq with
  |zero=>exact absurd HA.out (by simp [aq.j0])
  |succ Tr=>
   have H:=HA.out;clear HA
   simp only [aq.j0] at H
   by_cases yP:Gq=true
   ·subst yP
    have H1:(some false)=some r:=by rw [if_pos rfl] at H;exact H
    clear H
    have H:=H1
    clear H1
    obtain rfl:=Option.some.inj H
    go_wp2
    go_ret
    exact ⟨jT,aT HB jm⟩
   ·replace yP:=Bool.eq_false_iff.mpr yP
    subst yP
    have H1:(aq.l0 Tr aZ (aZ.length:Int) 0 bk aZ bH bu cn)=some r:=by rw [if_neg (show¬(false=true) by decide)] at H;exact H
    clear H
    have H:=H1
    clear H1
    have H':=ak H
    clear H;obtain ⟨BQ,BP,BO,BN,BM,BB,BA,Bz,By,Bx⟩:=aD iA;go_wp2
    go_loopg [51] Tr (fun kq v51 w'=>∃(eX:Int),v51= .int .i64 eX∧Aside0 (aq.l0 kq aZ (aZ.length:Int) eX bk aZ bH bu cn=some r)∧Aside0 (kq≤Tr)∧Aside0 (w'.heap[Dr]? =some (.cells #[(.slice ir bk.length ie),(.slice iT aZ.length ic),(.slice iq bH.length ia),(.slice iC bu.length hU),.int .i64 cn] 27 (0,0)))∧Aside0 (Below w.heap.size w w'))
    case atStart=>exact ⟨(0),er,H',⟨Nat.le_refl _⟩,⟨fk iA⟩,⟨aT HB jm⟩⟩
    case round=>
     clear H'
     (try clear yP);(try clear BQ);(try clear BP);(try clear BO);(try clear BN);(try clear BM);(try clear BB);(try clear BA);(try clear Bz);(try clear By);(try clear Bx)
     obtain ⟨eX,rfl,HA,jj,iA,HB⟩:=hrel
     cases gk with
     |zero=>exact absurd HA.out (by simp [aq.l0])
     |succ k2=>
      have H:=HA.out;clear HA
      simp only [aq.l0] at H
      by_cases DK:eX<(aZ.length:Int)
      ·rw [if_pos DK] at H
       have vL:=decide_eq_true DK
       clear DK;replace H:=cZ H;obtain ⟨Ky,H⟩:=H;have DJ:=decide_eq_true Ky;clear Ky;replace H:=cZ H;obtain ⟨Ca,H⟩:=H;have rV:=decide_eq_true Ca;clear Ca;have Gg:=ak H;clear H
       have OU:0≤(eX:Int):=da
       have OM:eX<(aZ.length:Int):=da
       obtain ⟨RE,V0,Vh,aeJ,wI,Hu,HY⟩:=lu lC.out eX OU OM
       cases aeJ
       replace wI:=(HB.out.cell (World.block_lt_of_cell? w _ wI)).trans wI
       have wZ:=ak HY;have IF:=ak Hu;clear HY Hu;replace OU:=eq_true OU;replace OM:=eq_true OM
       go_upto_region 7 with (fail)
       go_cut [67] (fun v67 wc=>∃(kq:Nat) (Aj:Bool),v67= .bool Aj∧Aside0 (aq.j2 kq eX (bK aZ eX) aZ (aZ.length:Int) eX Aj bk aZ bH bu cn=some r)∧Aside0 (kq≤k2)∧Aside0 (wc.heap[Dr]? =some (.cells #[(.slice ir bk.length ie),(.slice (some RE) aZ.length ic),(.slice iq bH.length ia),(.slice iC bu.length hU),.int .i64 cn] 27 (0,0)))∧Aside0 (Below w.heap.size w wc))
       case first=>
        have H:=Gg.out;clear Gg;replace H:=bS H;obtain ⟨t117,A24,H⟩:=H
        by_cases J5:t117=true
        ·subst J5
         have H1:(if eX<(bH.length:Int) then ((cN.f k2 (bK bH eX)).bind fun t119=>(aq.j2 k2 eX (bK aZ eX) aZ (aZ.length:Int) eX (!t119) bk aZ bH bu cn)) else (none))=some r:=by rw [if_pos rfl] at H;exact H
         clear H
         have H:=H1
         clear H1;replace H:=cZ H;obtain ⟨MU,H⟩:=H;have zY:=decide_eq_true MU;clear MU
         (first|rw [zY]|(simp only [bX,cL];rw [zY])|skip)
         replace H:=bS H;obtain ⟨t119,A27,H⟩:=H
         have H':=ak H
         clear H
         go_wp2_with (first|((with_reducible refine eG (f:=72) rfl ?_);refine kS (some 57) rfl Tryz.func72 #[.slice V0 (bK aZ eX).length Vh] rfl ?_;(with_reducible refine (cN.calls k2 _ _ (bK aZ eX) true _ ?side1 ?side2 A24.out).mono ?_);(case side1=>exact cd (Kd.aH wZ.out HB.out));(case side2=>exact IF.out);rintro e w' ⟨rfl,⟨nd,rfl⟩⟩;refine ⟨_,rfl,?_⟩;have WX:=aD iA;have Ti:0≤(eX:Int):=da;have S6:eX<(bH.length:Int):=da;obtain ⟨af9,afm,ae1,aeI,Bm,Ht,HW⟩:=lu kE.out eX Ti S6;cases aeI;replace Bm:=(HB.out.cell (World.block_lt_of_cell? w _ Bm)).trans Bm;have Ql:=ak HW;have Qq:=ak Ht;clear HW Ht;replace Ti:=eq_true Ti;replace S6:=eq_true S6)|(go_at_call 72;(with_reducible refine (cN.calls k2 _ _ (bK bH eX) t119 _ ?side1 ?side2 A27.out).mono ?_);(case side1=>exact cd (Kd.aH Ql.out (aT HB jm)));(case side2=>exact Qq.out);rintro e w' ⟨rfl,⟨nd,rfl⟩⟩))
         go_meet
         case rel=>exact ⟨_,(!t119),er,H',⟨by have:=Cp.out;have:=jj.out;first|omega|exact Nat.le_refl _⟩,⟨fk iA⟩,⟨aT HB jm⟩⟩
        ·replace J5:=Bool.eq_false_iff.mpr J5
         subst J5
         have H1:(aq.j2 k2 eX (bK aZ eX) aZ (aZ.length:Int) eX true bk aZ bH bu cn)=some r:=by rw [if_neg (show¬(false=true) by decide)] at H;exact H
         clear H
         have H:=H1
         clear H1
         have H':=ak H
         clear H
         go_wp2_with (first|(go_at_call 72;(with_reducible refine (cN.calls k2 _ _ (bK aZ eX) false _ ?side1 ?side2 A24.out).mono ?_);(case side1=>exact cd (Kd.aH wZ.out HB.out));(case side2=>exact IF.out);rintro e w' ⟨rfl,⟨nd,rfl⟩⟩))
         go_meet
         case rel=>exact ⟨_,(true),er,H',⟨by have:=Cp.out;have:=jj.out;first|omega|exact Nat.le_refl _⟩,⟨fk iA⟩,⟨aT HB jm⟩⟩
       case rest=>
        clear Gg;(try clear vL);(try clear DJ);(try clear rV);(try clear wI);(try clear OU);(try clear OM)
        obtain ⟨kq,Aj,rfl,HA,Co,iA,HB⟩:=hcut
        cases kq with
        |zero=>exact absurd HA.out (by simp [aq.j2])
        |succ Ff=>
         have H:=HA.out;clear HA
         simp only [aq.j2] at H
         by_cases F0:Aj=true
         ·subst F0
          have H1:(some false)=some r:=by rw [if_pos rfl] at H;exact H
          clear H
          have H:=H1
          clear H1
          obtain rfl:=Option.some.inj H
          go_wp2
          go_ret
          exact ⟨jT,aT HB jm⟩
         ·replace F0:=Bool.eq_false_iff.mpr F0
          subst F0
          have H1:(aq.l1 Ff eX aZ (aZ.length:Int) eX (bK aZ eX) ((bK aZ eX).length:Int) 0 bk aZ bH bu cn)=some r:=by rw [if_neg (show¬(false=true) by decide)] at H;exact H
          clear H
          have H:=H1
          clear H1
          have H':=ak H
          clear H;go_wp2
          go_loopg [70] Ff (fun kq v70 w'=>∃(nO:Int),v70= .int .i64 nO∧Aside0 (aq.l1 kq eX aZ (aZ.length:Int) eX (bK aZ eX) ((bK aZ eX).length:Int) nO bk aZ bH bu cn=some r)∧Aside0 (kq≤Ff)∧Aside0 (w'.heap[Dr]? =some (.cells #[(.slice ir bk.length ie),(.slice (some RE) aZ.length ic),(.slice iq bH.length ia),(.slice iC bu.length hU),.int .i64 cn] 27 (0,0)))∧Aside0 (Below w.heap.size w w'))
          case atStart=>exact ⟨(0),er,H',⟨Nat.le_refl _⟩,⟨fk iA⟩,⟨aT HB jm⟩⟩
          case round=>
           clear H'
           (try clear F0)
           obtain ⟨nO,rfl,HA,IB,iA,HB⟩:=hrel
           cases gk with
           |zero=>exact absurd HA.out (by simp [aq.l1])
           |succ k4=>
            have H:=HA.out;clear HA
            simp only [aq.l1] at H
            by_cases J3:nO<((bK aZ eX).length:Int)
            ·rw [if_pos J3] at H
             have MT:=decide_eq_true J3
             clear J3;replace H:=cZ H;obtain ⟨yh,H⟩:=H;have yg:=decide_eq_true yh;clear yh;replace H:=cZ H;obtain ⟨FZ,H⟩:=H;have DH:=decide_eq_true FZ;clear FZ;replace H:=cZ H;obtain ⟨Rx,H⟩:=H;have Rw:=decide_eq_true Rx;clear Rx;replace H:=cZ H;obtain ⟨Rv,H⟩:=H;have Ru:=decide_eq_true Rv;clear Rv;replace H:=bS H;obtain ⟨t122,A35,H⟩:=H
             by_cases Kw:t122=true
             ·subst Kw
              have H1:(aq.l1 k4 eX aZ (aZ.length:Int) eX (bK aZ eX) ((bK aZ eX).length:Int) (wrap64 (nO+1)) bk aZ bH bu cn)=some r:=by rw [if_pos rfl] at H;exact H
              clear H
              have H:=H1
              clear H1
              have H':=ak H
              clear H
              have E8:0≤(nO:Int):=da
              have EM:nO<((bK aZ eX).length:Int):=da
              obtain ⟨aaf,U0,pK⟩:=Kd.bh wZ.out nO E8 EM
              cases U0
              replace pK:=(HB.out.cell (World.block_lt_of_cell? w _ pK)).trans pK
              replace E8:=eq_true E8;replace EM:=eq_true EM;have abS:=aD iA
              have E7:0≤(eX:Int):=da
              have EL:eX<(bH.length:Int):=da
              obtain ⟨aae,VZ,Vg,UZ,pJ,tO,tX⟩:=lu kE.out eX E7 EL
              cases UZ
              replace pJ:=(HB.out.cell (World.block_lt_of_cell? w _ pJ)).trans pJ
              have Cl:=ak tX;have Cr:=ak tO;clear tX tO;replace E7:=eq_true E7;replace EL:=eq_true EL
              go_wp2_with (first|(go_at_call 73;(with_reducible refine (cI.calls k4 _ _ (bK bH eX) (aV ByteArray.empty (bK aZ eX) nO) true _ ?side1 ?side2 A35.out).mono ?_);(case side1=>exact cd (Kd.aH Cl.out HB.out));(case side2=>exact Cr.out);rintro e w' ⟨rfl,⟨nd,rfl⟩⟩))
              go_roundg k4
              case measure=>have:=Cp.out;have:=jj.out;have:=Co.out;have:=IB.out;omega
              case rel=>exact ⟨(wrap64 (nO+1)),er,H',⟨by have:=Cp.out;have:=jj.out;have:=Co.out;have:=IB.out;omega⟩,⟨fk iA⟩,⟨aT HB jm⟩⟩
             ·replace Kw:=Bool.eq_false_iff.mpr Kw
              subst Kw
              have H1:(some false)=some r:=by rw [if_neg (show¬(false=true) by decide)] at H;exact H
              clear H
              have H:=H1
              clear H1
              obtain rfl:=Option.some.inj H
              have E8:0≤(nO:Int):=da
              have EM:nO<((bK aZ eX).length:Int):=da
              obtain ⟨aaf,U0,pK⟩:=Kd.bh wZ.out nO E8 EM
              cases U0
              replace pK:=(HB.out.cell (World.block_lt_of_cell? w _ pK)).trans pK
              replace E8:=eq_true E8;replace EM:=eq_true EM;have abR:=aD iA
              have E7:0≤(eX:Int):=da
              have EL:eX<(bH.length:Int):=da
              obtain ⟨aae,VZ,Vg,UZ,pJ,tO,tX⟩:=lu kE.out eX E7 EL
              cases UZ
              replace pJ:=(HB.out.cell (World.block_lt_of_cell? w _ pJ)).trans pJ
              have Cl:=ak tX;have Cr:=ak tO;clear tX tO;replace E7:=eq_true E7;replace EL:=eq_true EL
              go_wp2_with (first|(go_at_call 73;(with_reducible refine (cI.calls k4 _ _ (bK bH eX) (aV ByteArray.empty (bK aZ eX) nO) false _ ?side1 ?side2 A35.out).mono ?_);(case side1=>exact cd (Kd.aH Cl.out HB.out));(case side2=>exact Cr.out);rintro e w' ⟨rfl,⟨nd,rfl⟩⟩))
              go_ret
              exact ⟨jT,aT HB jm⟩
            ·rw [if_neg J3] at H
             have MT:=decide_eq_false J3
             clear J3
             have H':=ak H
             clear H;go_wp2
             go_roundg k4
             case measure=>have:=Cp.out;have:=jj.out;have:=Co.out;have:=IB.out;omega
             case rel=>exact ⟨(wrap64 (eX+1)),er,H',⟨by have:=Cp.out;have:=jj.out;have:=Co.out;have:=IB.out;omega⟩,⟨fk iA⟩,⟨aT HB jm⟩⟩
      ·rw [if_neg DK] at H
       have vL:=decide_eq_false DK
       clear DK
       have H':=ak H
       clear H;obtain ⟨BJ,BI,BH,BG,BF,Bu,Bt,Bs,Br,Bq⟩:=aD iA;go_wp2
       go_loopg [87] k2 (fun kq v87 w'=>∃(kU:Int),v87= .int .i64 kU∧Aside0 (aq.l2 kq bu (bu.length:Int) kU=some r)∧Aside0 (kq≤k2)∧Aside0 (w'.heap[Dr]? =some (.cells #[(.slice ir bk.length ie),(.slice iT aZ.length ic),(.slice iq bH.length ia),(.slice iC bu.length hU),.int .i64 cn] 27 (0,0)))∧Aside0 (Below w.heap.size w w'))
       case atStart=>exact ⟨(0),er,H',⟨Nat.le_refl _⟩,⟨fk iA⟩,⟨aT HB jm⟩⟩
       case round=>
        clear H'
        (try clear vL);(try clear BJ);(try clear BI);(try clear BH);(try clear BG);(try clear BF);(try clear Bu);(try clear Bt);(try clear Bs);(try clear Br);(try clear Bq)
        obtain ⟨kU,rfl,HA,IC,iA,HB⟩:=hrel
        cases gk with
        |zero=>exact absurd HA.out (by simp [aq.l2])
        |succ k3=>
         have H:=HA.out;clear HA
         simp only [aq.l2] at H
         by_cases J2:kU<(bu.length:Int)
         ·rw [if_pos J2] at H
          have Ig:=decide_eq_true J2
          clear J2;replace H:=cZ H;obtain ⟨Zn,H⟩:=H;have Rt:=decide_eq_true Zn;clear Zn;replace H:=cZ H;obtain ⟨Zm,H⟩:=H;have Rs:=decide_eq_true Zm;clear Zm
          by_cases J1:((bK bu kU).length:Int)>60
          ·rw [if_pos J1] at H
           have MS:=H6 J1
           have Zl:decide (60<(bK bu kU).length)=true:=decide_eq_true (by omega)
           clear J1
           obtain rfl:=Option.some.inj H
           have xF:0≤(kU:Int):=da
           have xA:kU<(bu.length:Int):=da
           obtain ⟨RD,NW,MX,MF,lP,nZ,n6⟩:=lu lz.out kU xF xA
           cases MF
           replace lP:=(HB.out.cell (World.block_lt_of_cell? w _ lP)).trans lP
           have wY:=ak n6;have xd:=ak nZ;clear n6 nZ;replace xF:=eq_true xF;replace xA:=eq_true xA;go_wp2
           go_ret
           exact ⟨jT,aT HB jm⟩
          ·rw [if_neg J1] at H
           have MS:=H7 J1
           have Zl:decide (60<(bK bu kU).length)=false:=decide_eq_false (by omega)
           clear J1;replace H:=bS H;obtain ⟨t124,A44,H⟩:=H
           by_cases Va:t124=true
           ·subst Va
            have H1:(some false)=some r:=by rw [if_pos rfl] at H;exact H
            clear H
            have H:=H1
            clear H1
            obtain rfl:=Option.some.inj H
            have xF:0≤(kU:Int):=da
            have xA:kU<(bu.length:Int):=da
            obtain ⟨RD,NW,MX,MF,lP,nZ,n6⟩:=lu lz.out kU xF xA
            cases MF
            replace lP:=(HB.out.cell (World.block_lt_of_cell? w _ lP)).trans lP
            have wY:=ak n6;have xd:=ak nZ;clear n6 nZ;replace xF:=eq_true xF;replace xA:=eq_true xA
            go_wp2_with (first|(go_at_call 74;(with_reducible refine (eg.calls k3 _ _ (bK bu kU) true _ ?side1 ?side2 A44.out).mono ?_);(case side1=>exact cd (Kd.aH wY.out HB.out));(case side2=>exact xd.out);rintro e w' ⟨rfl,⟨nd,rfl⟩⟩))
            go_ret
            exact ⟨jT,aT HB jm⟩
           ·replace Va:=Bool.eq_false_iff.mpr Va
            subst Va
            have H1:(aq.l2 k3 bu (bu.length:Int) (wrap64 (kU+1)))=some r:=by rw [if_neg (show¬(false=true) by decide)] at H;exact H
            clear H
            have H:=H1
            clear H1
            have H':=ak H
            clear H
            have xF:0≤(kU:Int):=da
            have xA:kU<(bu.length:Int):=da
            obtain ⟨RD,NW,MX,MF,lP,nZ,n6⟩:=lu lz.out kU xF xA
            cases MF
            replace lP:=(HB.out.cell (World.block_lt_of_cell? w _ lP)).trans lP
            have wY:=ak n6;have xd:=ak nZ;clear n6 nZ;replace xF:=eq_true xF;replace xA:=eq_true xA
            go_wp2_with (first|(go_at_call 74;(with_reducible refine (eg.calls k3 _ _ (bK bu kU) false _ ?side1 ?side2 A44.out).mono ?_);(case side1=>exact cd (Kd.aH wY.out HB.out));(case side2=>exact xd.out);rintro e w' ⟨rfl,⟨nd,rfl⟩⟩))
            go_roundg k3
            case measure=>have:=Cp.out;have:=jj.out;have:=IC.out;omega
            case rel=>exact ⟨(wrap64 (kU+1)),er,H',⟨by have:=Cp.out;have:=jj.out;have:=IC.out;omega⟩,⟨fk iA⟩,⟨aT HB jm⟩⟩
         ·rw [if_neg J2] at H
          have Ig:=decide_eq_false J2
          clear J2
          obtain rfl:=Option.some.inj H
          go_wp2
          go_ret
          exact ⟨jT,aT HB jm⟩
def cP.f (l0:List Int):Option (List Int):=(some (([]:List Int):List Int)).bind fun yU=>(if yU.length+l0.length<17592186044416 then (some (yU++l0)) else (none))
theorem clonenil85 (w:World) (a:Option Addr) (m c m' c':Nat):(Go.binOp .eql 22 (.slice a m c) (.slice none m' c')).run Tryz.prog w= .ok (.bool a.isNone) w:=Go.Lib.run_eql_slice_nil w 22 3 a m c m' c' Tryz.underlying22
attribute [local go_sem high] clonenil85
theorem cP.sM (Qc:Addr) (c0:Nat) (l0:List Int) (r:List Int) (w:World) (eT:Kd.C (Kd.int .i64) w (some Qc) l0.length l0) (fE:l0.length≤c0) (h:cP.f l0=some r):
  Calls Tryz.prog 85 #[.slice (some Qc) l0.length c0] w fun e w'=>∃kV:Value,e= .returned (kV)∧Kd.R (Kd.int .i64) 3 w' w.heap.size (fun _=>True) kV r∧Below w.heap.size w w':=by
 have fB:=ak eT;have jD:=ak fE;clear eT fE
 have HB:=ak (Below.refl w.heap.size w)
 have H:((some (([]:List Int):List Int)).bind fun yU=>(if yU.length+l0.length<17592186044416 then (some (yU++l0)) else (none)))=some r:=h
 clear h
 obtain ⟨yU,eZ⟩:∃y_:List Int,y_=(([]:List Int)):=⟨_,rfl⟩
 replace H:(if yU.length+l0.length<17592186044416 then (some (yU++l0)) else (none))=some r:=yH
 have R2:=ak eZ;clear eZ;replace H:=cZ H;obtain ⟨c2,H⟩:=H;have Vw:=ak c2;clear c2
 obtain ⟨abN,eZ⟩:∃y_:List Int,y_=(yU++l0):=⟨_,rfl⟩
 replace H:(some abN)=some r:=yH
 have aaP:=ak eZ;clear eZ
 obtain rfl:=Option.some.inj H
 go_enter Tryz.func85,Tryz.ntmps85
 go_wp2_with (first|((with_reducible refine ax (N:=5) rfl ?_);refine Kd.gy (Kd.int .i64) _ 3 ?hg (N:=5) ?hd (xs:=([]:List Int)) (inner:=[]) (ok:=fun _=>True) (okp:=fun _=>True) ?hr ?hp (fun _ hk=>hk) trivial (Below.refl _ _) (Nat.le_refl _) (by simp) ?_;(case hd=>rfl);(case hg=>rfl);(case hr=>exact qg);(case hp=>exact (bN.none _ _));intro ab7 w3 Ma hb cg dZ;clear cg dZ;(first|rw [←R2.out] at Ma|(simp only [Int.reduceToNat] at Ma;rw [←R2.out] at Ma));have Sh:=ak (Kd.dB Ma (bC (ai HB)));replace HB:=ak (aE (ai HB) hb);clear hb Ma)|((with_reducible refine cr (b:= .append) (xs:= #[.tmp 5,.tmp 6]) rfl ?_);at_builtin;refine Kd.eK (Kd.int .i64) (w0:=w) w.heap.size rfl (.tmp 5) (.tmp 6) 22 3 (.int .i64 0) 8 rfl Tryz.underlying22 xR rfl (by decide) (by omega) ab7 yU l0 _ _ _ (fun _=>True) (fun _=>False) rfl rfl ?aO ?aR (fun _ _ h=>h) (fun _ h=>h.elim) ?aF ?aB ?aS ?aL ?_;(case aR=>exact cd (Kd.aH fB.out HB.out));(case aB=>exact (ai HB));(case aF=>exact (fun _ _=>trivial));(case aO=>exact (fy Sh));(case aS=>exact (bC (ai HB)));(case aL=>have:=Vw.out;omega);intro agT w5 ho hb hg gV;rw [←aaP.out] at ho;replace HB:=ak (hb);have abi:=ak (ho);clear Sh;clear ho hb hg gV))
 go_ret
 exact ⟨_,jT,by (with_reducible repeat (first|apply Kd.cu|apply Kd.ct|apply Kd.cy));exact abi.out,ai HB⟩
theorem cP.calls (A0:Option Addr) (c0:Nat) (l0:List Int) (r:List Int) (w:World) (eT:Kd.C (Kd.int .i64) w A0 l0.length l0) (fE:l0.length≤c0) (h:cP.f l0=some r):
  Calls Tryz.prog 85 #[.slice A0 l0.length c0] w fun e w'=>∃kV:Value,e= .returned (kV)∧Kd.R (Kd.int .i64) 3 w' w.heap.size (fun _=>True) kV r∧Below w.heap.size w w':=by
 cases A0 with
 |some Qc=>exact cP.sM Qc c0 l0 r w eT fE h
 |none=>
  have hl:l0=[]:=by
   rcases Nat.eq_zero_or_pos l0.length with h0|h0
   ·exact List.eq_nil_of_length_eq_zero h0
   ·obtain ⟨ad,he,_⟩:=eT.2.2 h0
    cases he
  subst hl
  have hr:r=[]:=by
   have h':=h
   simp [cP.f] at h'
   first|exact h'.symm|exact h'
  subst hr;clear h eT fE
  go_enter Tryz.func85,Tryz.ntmps85
  go_wp2
  go_ret
  exact ⟨_,rfl,Kd.pW _ _ _ _ _,Below.refl _ _⟩
def bq.f (l0:List ByteArray):Option (List ByteArray):=(some (([]:List ByteArray):List ByteArray)).bind fun yT=>(if yT.length+l0.length<8796093022208 then (some (yT++l0)) else (none))
theorem clonenil105 (w:World) (a:Option Addr) (m c m' c':Nat):(Go.binOp .eql 62 (.slice a m c) (.slice none m' c')).run Tryz.prog w= .ok (.bool a.isNone) w:=Go.Lib.run_eql_slice_nil w 62 9 a m c m' c' Tryz.underlying62
attribute [local go_sem high] clonenil105
theorem bq.sM (Qc:Addr) (c0:Nat) (l0:List ByteArray) (r:List ByteArray) (w:World) (eT:Kd.C Kd.string w (some Qc) l0.length l0) (fE:l0.length≤c0) (h:bq.f l0=some r):
  Calls Tryz.prog 105 #[.slice (some Qc) l0.length c0] w fun e w'=>∃kV:Value,e= .returned (kV)∧Kd.R Kd.string 9 w' w.heap.size (fun _=>True) kV r∧Below w.heap.size w w':=by
 have fB:=ak eT;have jD:=ak fE;clear eT fE
 have HB:=ak (Below.refl w.heap.size w)
 have H:((some (([]:List ByteArray):List ByteArray)).bind fun yT=>(if yT.length+l0.length<8796093022208 then (some (yT++l0)) else (none)))=some r:=h
 clear h
 obtain ⟨yT,eZ⟩:∃y_:List ByteArray,y_=(([]:List ByteArray)):=⟨_,rfl⟩
 replace H:(if yT.length+l0.length<8796093022208 then (some (yT++l0)) else (none))=some r:=yH
 have R1:=ak eZ;clear eZ;replace H:=cZ H;obtain ⟨c2,H⟩:=H;have Vw:=ak c2;clear c2
 obtain ⟨abM,eZ⟩:∃y_:List ByteArray,y_=(yT++l0):=⟨_,rfl⟩
 replace H:(some abM)=some r:=yH
 have aaO:=ak eZ;clear eZ
 obtain rfl:=Option.some.inj H
 go_enter Tryz.func105,Tryz.ntmps105
 go_wp2_with (first|((with_reducible refine ax (N:=5) rfl ?_);refine Kd.gy Kd.string _ 9 ?hg (N:=5) ?hd (xs:=([]:List ByteArray)) (inner:=[]) (ok:=fun _=>True) (okp:=fun _=>True) ?hr ?hp (fun _ hk=>hk) trivial (Below.refl _ _) (Nat.le_refl _) (by simp) ?_;(case hd=>rfl);(case hg=>rfl);(case hr=>exact qg);(case hp=>exact (bN.none _ _));intro ab6 w3 Ma hb cg dZ;clear cg dZ;(first|rw [←R1.out] at Ma|(simp only [Int.reduceToNat] at Ma;rw [←R1.out] at Ma));have Sg:=ak (Kd.dB Ma (bC (ai HB)));replace HB:=ak (aE (ai HB) hb);clear hb Ma)|((with_reducible refine cr (b:= .append) (xs:= #[.tmp 5,.tmp 6]) rfl ?_);at_builtin;refine Kd.eK Kd.string (w0:=w) w.heap.size rfl (.tmp 5) (.tmp 6) 62 9 (.string ⟨#[]⟩) 16 rfl Tryz.underlying62 mK rfl (by decide) (by omega) ab6 yT l0 _ _ _ (fun _=>True) (fun _=>False) rfl rfl ?aO ?aR (fun _ _ h=>h) (fun _ h=>h.elim) ?aF ?aB ?aS ?aL ?_;(case aR=>exact cd (Kd.aH fB.out HB.out));(case aB=>exact (ai HB));(case aF=>exact (fun _ _=>trivial));(case aO=>exact (fy Sg));(case aS=>exact (bC (ai HB)));(case aL=>have:=Vw.out;omega);intro agS w5 ho hb hg gV;rw [←aaO.out] at ho;replace HB:=ak (hb);have abh:=ak (ho);clear Sg;clear ho hb hg gV))
 go_ret
 exact ⟨_,jT,by (with_reducible repeat (first|apply Kd.cu|apply Kd.ct|apply Kd.cy));exact abh.out,ai HB⟩
theorem bq.calls (A0:Option Addr) (c0:Nat) (l0:List ByteArray) (r:List ByteArray) (w:World) (eT:Kd.C Kd.string w A0 l0.length l0) (fE:l0.length≤c0) (h:bq.f l0=some r):
  Calls Tryz.prog 105 #[.slice A0 l0.length c0] w fun e w'=>∃kV:Value,e= .returned (kV)∧Kd.R Kd.string 9 w' w.heap.size (fun _=>True) kV r∧Below w.heap.size w w':=by
 cases A0 with
 |some Qc=>exact bq.sM Qc c0 l0 r w eT fE h
 |none=>
  have hl:l0=[]:=by
   rcases Nat.eq_zero_or_pos l0.length with h0|h0
   ·exact List.eq_nil_of_length_eq_zero h0
   ·obtain ⟨ad,he,_⟩:=eT.2.2 h0
    cases he
  subst hl
  have hr:r=[]:=by
   have h':=h
   simp [bq.f] at h'
   first|exact h'.symm|exact h'
  subst hr;clear h eT fE
  go_enter Tryz.func105,Tryz.ntmps105
  go_wp2
  go_ret
  exact ⟨_,rfl,Kd.pW _ _ _ _ _,Below.refl _ _⟩
def cS.l0:Nat→List (List ByteArray)→List (List ByteArray)→Int→Int→Option ((List (List ByteArray)))
  |0,_,_,_,_=>none
  |k+1,x3,x7,x8,x9=>if x9<x8 then (if 0≤x9 then (if x9<(x7.length:Int) then ((bq.f (bK x7 x9)).bind fun t141=>(if x3.length<5864062014805 then (cS.l0 k (x3++[t141]) x7 x8 (wrap64 (x9+1))) else (none))) else (none)) else (none)) else (some x3)
def cS.f (k:Nat) (l0:List (List ByteArray)):Option ((List (List ByteArray))):=cS.l0 k (([]:List (List ByteArray))) l0 (l0.length:Int) 0
theorem cS.calls (k:Nat) (A0:Option Addr) (c0:Nat) (l0:List (List ByteArray)) (r:List (List ByteArray)) (w:World) (eT:Kd.C (Kd.slice 9 Kd.string) w A0 l0.length l0) (fE:l0.length≤c0) (h:cS.f k l0=some r):
  Calls Tryz.prog 91 #[.slice A0 l0.length c0] w fun e w'=>∃kV:Value,e= .returned (kV)∧Kd.S (Kd.slice 9 Kd.string) 62 w' w.heap.size (fun _=>True) kV r∧Below w.heap.size w w':=by
 have fB:=ak eT;have jD:=ak fE;clear eT fE
 have HB:=ak (Below.refl w.heap.size w)
 have H:(cS.l0 k (([]:List (List ByteArray))) l0 (l0.length:Int) 0)=some r:=h
 clear h
 obtain ⟨WO,eZ⟩:∃y_:List (List ByteArray),y_=(([]:List (List ByteArray))):=⟨_,rfl⟩
 replace H:(cS.l0 k WO l0 (l0.length:Int) 0)=some r:=yH
 have RZ:=ak eZ;clear eZ
 have H':=ak H
 clear H
 go_enter Tryz.func91,Tryz.ntmps91
 go_wp2_with (first|((with_reducible refine ax (N:=6) rfl ?_);refine Kd.aal (Kd.slice 9 Kd.string) _ 62 ?hg (N:=6) ?hd (xs:=([]:List (List ByteArray))) (inner:=[]) (ok:=fun _=>True) (okp:=fun _=>True) ?hr ?hp (fun _ hk=>hk) trivial (Below.refl _ _) (Nat.le_refl _) (by simp) ?_;(case hd=>rfl);(case hg=>rfl);(case hr=>exact qg);(case hp=>exact (bN.none _ _));intro v138 w2 Q4 hb cg dZ;clear cg dZ;(first|rw [←RZ.out] at Q4|(simp only [Int.reduceToNat] at Q4;rw [←RZ.out] at Q4));have abg:=ak (Kd.Cg Q4 (bC (ai HB)));replace HB:=ak (aE (ai HB) hb);clear hb Q4))
 go_loopg [3,9] k (fun kq v3 v9 w'=>∃(iN:List (List ByteArray)) (gB:Int),v9= .int .i64 gB∧Aside0 (cS.l0 kq iN l0 (l0.length:Int) gB=some r)∧Aside0 (kq≤k)∧Aside0 (Kd.S (Kd.slice 9 Kd.string) 62 w' w.heap.size (fun _=>True) v3 iN)∧Aside0 (Below w.heap.size w w'))
 case atStart=>exact ⟨(WO),(0),er,H',⟨Nat.le_refl _⟩,⟨sd abg⟩,⟨ai HB⟩⟩
 case round=>
  clear H'
  obtain ⟨iN,gB,rfl,HA,fP,eJ,HB⟩:=hrel
  cases gk with
  |zero=>exact absurd HA.out (by simp [cS.l0])
  |succ k1=>
   have H:=HA.out;clear HA
   simp only [cS.l0] at H
   by_cases c4:gB<(l0.length:Int)
   ·rw [if_pos c4] at H
    have iI:=decide_eq_true c4
    clear c4;replace H:=cZ H;obtain ⟨c5,H⟩:=H;have jg:=decide_eq_true c5;clear c5;replace H:=cZ H;obtain ⟨c6,H⟩:=H;have jz:=decide_eq_true c6;clear c6;replace H:=bS H;obtain ⟨t141,A7,H⟩:=H
    replace H:=cZ H;obtain ⟨c8,H⟩:=H;have Vu:=ak c8;clear c8
    obtain ⟨WN,eZ⟩:∃y_:List (List ByteArray),y_=(iN++[t141]):=⟨_,rfl⟩
    replace H:(cS.l0 k1 WN l0 (l0.length:Int) (wrap64 (gB+1)))=some r:=yH
    have aaN:=ak eZ;clear eZ
    have H':=ak H
    clear H
    have Th:0≤(gB:Int):=da
    have S5:gB<(l0.length:Int):=da
    obtain ⟨af8,afl,ae0,aeH,Bl,Hs,HV⟩:=lu fB.out gB Th S5
    cases aeH
    replace Bl:=(HB.out.cell (World.block_lt_of_cell? w _ Bl)).trans Bl
    have Qk:=ak HV;have Qp:=ak Hs;clear HV Hs;replace Th:=eq_true Th;replace S5:=eq_true S5
    go_wp2_with (first|(go_at_call 105;(with_reducible refine (bq.calls _ _ (bK l0 gB) t141 _ ?side1 ?side2 A7.out).mono ?_);(case side1=>exact cd (Kd.aH Qk.out HB.out));(case side2=>exact Qp.out);rintro e w9 ⟨agR,rfl,uE,hb⟩;replace eJ:=ak (Kd.D1 (sd eJ) (Kd.nE uE) hb);have IA:=ak (Kd.dB uE (bC (ai HB)));replace HB:=ak (aE (ai HB) hb);(try clear hb);(try clear uE);obtain ⟨Kj,JW,MC⟩:=Kd.dc IA.out;subst MC)|((with_reducible refine cr (b:= .append) (xs:= #[.tmp 13,.tmp 16]) rfl ?_);at_builtin;refine Kd.D2 (Kd.slice 9 Kd.string) (w0:=w) w.heap.size rfl (.tmp 13) (.tmp 16) 23 62 (.slice none 0 0) 24 rfl Tryz.underlying23 Fi rfl (by decide) (by omega) u3 iN t141 [.slice Kj t141.length JW] (fun _=>True) (fun k_=>some k_=(.slice Kj t141.length JW:Value).ownBlock) rfl rfl ?aP (fun k_ Kt=>((Kd.bF (ok':=fun k_=>((fun _=>True)) k_∧some k_≠(u3:Value).ownBlock) (Kd.uu (IA.out) (Kd.wR eJ.out) (by decide)) (fun k_ hk=>⟨trivial,hk.2⟩))).1 k_ Kt.symm) ?aF ?aO ?aB ?aS ?aL ?_;(case aP=>exact Kd.R4 (Kd.bF (Kd.iu rfl (Kd.bF (ok':=fun k_=>((fun _=>True)) k_∧some k_≠(u3:Value).ownBlock) (Kd.uu (IA.out) (Kd.wR eJ.out) (by decide)) (fun k_ hk=>⟨trivial,hk.2⟩))) (fun _ h_=>h_)));(case aB=>exact (ai HB));(case aF=>exact (fun _ _=>trivial));(case aO=>exact (by (with_reducible repeat (first|apply Kd.uq|apply Kd.um|apply Kd.yI));exact Kd.lR eJ.out (fun k_ hk=>⟨trivial,fun e_=>hk.2 e_⟩)));(case aS=>exact (bC (ai HB)));(case aL=>have:=Vu.out;omega);intro v145 W5 ho hb hg gV;rw [←aaN.out] at ho;replace HB:=ak (hb);have abf:=ak (ho);clear eJ IA;clear ho hb hg gV))
    go_roundg k1
    case measure=>have:=fP.out;omega
    case rel=>exact ⟨(WN),(wrap64 (gB+1)),er,H',⟨by have:=fP.out;omega⟩,⟨sd abf⟩,⟨ai HB⟩⟩
   ·rw [if_neg c4] at H
    have iI:=decide_eq_false c4
    clear c4
    obtain rfl:=Option.some.inj H
    go_wp2
    go_ret
    exact ⟨_,jT,by (with_reducible repeat (first|apply Kd.uq|apply Kd.um|apply Kd.yI));exact eJ.out,ai HB⟩
end Go.Proofs.YtihekdlcfohkkaaGreatDoor.QFnNet
