-- printed by this session's own program (wip/tools/pp.py: the kit's print.py with changes); Lean checks it
import Derived.Test.YtihekdlcfohkkaaGreatDoorQFnNetx0
import Derived.Test.YtihekdlcfohkkaaGreatDoorQFnNetx2
import Derived.Test.YtihekdlcfohkkaaGreatDoorQFnNetx3
import Derived.Test.YtihekdlcfohkkaaGreatDoorQFnNetx5
import Derived.Test.YtihekdlcfohkkaaGreatDoorQFnNetx6
namespace Go.Proofs.YtihekdlcfohkkaaGreatDoor.QFnNet
open Go.RowKit Go.Proofs.YtihekdlcfohkkaaGreatDoorW.PrintWords Go.Proofs.YtihekdlcfohkkaaGreatDoorW.PrintLast Go.Proofs.YtihekdlcfohkkaaGreatDoorW.PrintMore
attribute [local go_sem] max2_int min2_int max_two min_two max_three min_three max_four min_four strLss strGtr strLeq strGeq
set_option linter.unusedVariables false
set_option linter.unusedSimpArgs false
set_option maxHeartbeats 16000000
set_option maxRecDepth 100000
mutual
def aG.j0:Nat→List Int→List Int→ByteArray→Bool→Option (ByteArray×Bool)
  |0,_,_,_,_=>none
  |k+1,x0,x1,x2,x35=>if x35=true then (some ((⟨#[]⟩:ByteArray),false)) else ((fR.f x2).bind fun sn=>(if 8≤281474976710656 then ((some (List.replicate 8 0:List Int)).bind fun sV=>(if sn.size+(strOfNums sV).size≤9223372036854775807 then (aG.l0 k x0 x1 (sn++(strOfNums sV)) (wrap64 ((x0.length:Int)-1))) else (none))) else (none)))
def aG.l0:Nat→List Int→List Int→ByteArray→Int→Option (ByteArray×Bool)
  |0,_,_,_,_=>none
  |k+1,x0,x1,x8,x9=>if x9≥0 then (if 0≤22 then (if 22≤(x8.size:Int) then (if 0≤x9 then (if x9<(x1.length:Int) then (if 0≤16 then (if 16≤((x8.extract 0 22).size:Int) then ((dU.f k ((x8.extract 0 22).extract 0 16)).bind fun CP=>((some (([(rd x1 x9)%256,(CP)%256]:List Int):List Int)).bind fun CC=>(if (strOfNums CC).size+(x8.extract 0 22).size≤9223372036854775807 then (if x9<(x0.length:Int) then ((iO.f k (rd x0 x9) 24).bind fun Ja=>((gW.f k ((strOfNums CC)++(x8.extract 0 22)) Ja).bind fun I9=>(aG.l0 k x0 x1 I9 (wrap64 (x9-1))))) else (none)) else (none)))) else (none)) else (none)) else (none)) else (none)) else (none)) else (none)) else (some (x8,true))
end
def aG.f (k:Nat) (l0:List Int) (l1:List Int) (a2:ByteArray):Option (ByteArray×Bool):=(bD.f (l0.length:Int) 1 4).bind fun KY=>(if KY=true then ((bR.f k l0 0 65535).bind fun Es=>(if Es=true then (if (l1.length:Int)=(l0.length:Int) then ((bR.f k l1 1 250).bind fun At=>(if At=true then ((gR.f a2).bind fun vV=>(aG.j0 k l0 l1 a2 (!vV))) else (aG.j0 k l0 l1 a2 true))) else (aG.j0 k l0 l1 a2 true)) else (aG.j0 k l0 l1 a2 true))) else (aG.j0 k l0 l1 a2 true))
def aG.T8:Bool×List (List Nat×List Nat):=(true,[([],[]),([],[]),([0,1],[0,1]),([2],[2]),([3],[3]),([],[]),([5],[5]),([6],[6]),([7],[7]),([4,8],[4,8]),([9],[9]),([],[]),([10,11],[10,11]),([12,7,0,1,2,3,4,5,6,7,8,9,10,11,12],[5,11,12])])
def aG.B8:List Nat:=[0,0,3,7,15,0,32,96,224,511,1023,0,4095,8191]
theorem aG.yZ:gq .any (opsOf Tryz.f116 8)=aG.T8:=by kernel_rfl
theorem aG.rW:eF aG.T8.2 aG.B8=true:=by kernel_rfl
theorem aG.calls (k:Nat) (A0:Option Addr) (c0:Nat) (l0:List Int) (A1:Option Addr) (c1:Nat) (l1:List Int) (a2:ByteArray) (r1:ByteArray) (r2:Bool) (w:World) (eT:Kd.C (Kd.int .i64) w A0 l0.length l0) (fE:l0.length≤c0) (nY:Kd.C (Kd.int .i64) w A1 l1.length l1) (mY:l1.length≤c1) (h:aG.f k l0 l1 a2=some (r1,r2)):
  Calls Tryz.prog 116 #[.slice A0 l0.length c0,.slice A1 l1.length c1,.string a2] w fun e w'=>e= .returned (.tuple #[.string r1,.bool r2])∧Below w.heap.size w w':=by
 have fB:=ak eT;have jD:=ak fE;clear eT fE;have pX:=ak nY;have Ed:=ak mY;clear nY mY
 have HB:=ak (Below.refl w.heap.size w)
 have H:((bD.f (l0.length:Int) 1 4).bind fun KY=>(if KY=true then ((bR.f k l0 0 65535).bind fun Es=>(if Es=true then (if (l1.length:Int)=(l0.length:Int) then ((bR.f k l1 1 250).bind fun At=>(if At=true then ((gR.f a2).bind fun vV=>(aG.j0 k l0 l1 a2 (!vV))) else (aG.j0 k l0 l1 a2 true))) else (aG.j0 k l0 l1 a2 true)) else (aG.j0 k l0 l1 a2 true))) else (aG.j0 k l0 l1 a2 true)))=some (r1,r2):=h
 clear h;have Gf:=ak H;clear H
 go_enter Tryz.func116,Tryz.ntmps116
 go_upto_region 1 with (fail)
 go_cut [35] (fun v35 wc=>∃(kq:Nat) (Gr:Bool),v35= .bool Gr∧Aside0 (aG.j0 kq l0 l1 a2 Gr=some (r1,r2))∧Aside0 (kq≤k)∧Aside0 (Below w.heap.size w wc))
 case first=>
  have H:=Gf.out;clear Gf;replace H:=bS H;obtain ⟨KY,A5,H⟩:=H
  by_cases c6:KY=true
  ·subst c6
   have H1:((bR.f k l0 0 65535).bind fun Es=>(if Es=true then (if (l1.length:Int)=(l0.length:Int) then ((bR.f k l1 1 250).bind fun At=>(if At=true then ((gR.f a2).bind fun vV=>(aG.j0 k l0 l1 a2 (!vV))) else (aG.j0 k l0 l1 a2 true))) else (aG.j0 k l0 l1 a2 true)) else (aG.j0 k l0 l1 a2 true)))=some (r1,r2):=by rw [if_pos rfl] at H;exact H
   clear H
   have H:=H1
   clear H1;replace H:=bS H;obtain ⟨Es,A7,H⟩:=H
   by_cases c8:Es=true
   ·subst c8
    have H1:(if (l1.length:Int)=(l0.length:Int) then ((bR.f k l1 1 250).bind fun At=>(if At=true then ((gR.f a2).bind fun vV=>(aG.j0 k l0 l1 a2 (!vV))) else (aG.j0 k l0 l1 a2 true))) else (aG.j0 k l0 l1 a2 true))=some (r1,r2):=by rw [if_pos rfl] at H;exact H
    clear H
    have H:=H1
    clear H1
    by_cases c9:(l1.length:Int)=(l0.length:Int)
    ·rw [if_pos c9] at H
     have lQ:=kI c9
     have FY:=kH c9
     have MR:(l1.length==l0.length)=true:=by first|simpa using c9|(simp at c9⊢;omega)
     clear c9
     (first|rw [lQ]|(simp only [bX,cL];rw [lQ])|skip)
     replace H:=bS H;obtain ⟨At,vo,H⟩:=H
     by_cases lp:At=true
     ·subst lp
      have H1:((gR.f a2).bind fun vV=>(aG.j0 k l0 l1 a2 (!vV)))=some (r1,r2):=by rw [if_pos rfl] at H;exact H
      clear H
      have H:=H1
      clear H1;replace H:=bS H;obtain ⟨vV,Kl,H⟩:=H
      have H':=ak H
      clear H
      go_wp2_with (first|(go_at_call 79;(with_reducible refine (bD.calls (l0.length:Int) 1 4 true _ A5.out).mono ?_);rintro e w' ⟨rfl,⟨nd,rfl⟩⟩)|(go_at_call 81;(with_reducible refine (bR.calls k _ _ l0 0 65535 true _ ?side1 ?side2 A7.out).mono ?_);(case side1=>exact cd (Kd.aH fB.out (ai HB)));(case side2=>exact jD.out);rintro e w' ⟨rfl,⟨nd,rfl⟩⟩)|(go_at_call 81;(with_reducible refine (bR.calls k _ _ l1 1 250 true _ ?side1 ?side2 vo.out).mono ?_);(case side1=>exact cd (Kd.aH pX.out (ai HB)));(case side2=>exact Ed.out);rintro e w' ⟨rfl,⟨nd,rfl⟩⟩)|(go_at_call 128;(with_reducible refine (gR.calls a2 vV _ Kl.out).mono ?_);rintro e w' ⟨rfl,⟨nd,rfl⟩⟩))
      go_meet
      case rel=>exact ⟨_,(!vV),er,H',⟨by first|omega|exact Nat.le_refl _⟩,⟨ai HB⟩⟩
     ·replace lp:=Bool.eq_false_iff.mpr lp
      subst lp
      have H1:(aG.j0 k l0 l1 a2 true)=some (r1,r2):=by rw [if_neg (show¬(false=true) by decide)] at H;exact H
      clear H
      have H:=H1
      clear H1
      have H':=ak H
      clear H
      go_wp2_with (first|(go_at_call 79;(with_reducible refine (bD.calls (l0.length:Int) 1 4 true _ A5.out).mono ?_);rintro e w' ⟨rfl,⟨nd,rfl⟩⟩)|(go_at_call 81;(with_reducible refine (bR.calls k _ _ l0 0 65535 true _ ?side1 ?side2 A7.out).mono ?_);(case side1=>exact cd (Kd.aH fB.out (ai HB)));(case side2=>exact jD.out);rintro e w' ⟨rfl,⟨nd,rfl⟩⟩)|(go_at_call 81;(with_reducible refine (bR.calls k _ _ l1 1 250 false _ ?side1 ?side2 vo.out).mono ?_);(case side1=>exact cd (Kd.aH pX.out (ai HB)));(case side2=>exact Ed.out);rintro e w' ⟨rfl,⟨nd,rfl⟩⟩))
      go_meet
      case rel=>exact ⟨_,(true),er,H',⟨by first|omega|exact Nat.le_refl _⟩,⟨ai HB⟩⟩
    ·rw [if_neg c9] at H
     have lQ:=jV c9
     have FY:=jU c9
     have MR:(l1.length==l0.length)=false:=by first|simpa using c9|(simp at c9⊢;omega)
     (first|rw [lQ]|(simp only [bX,cL];rw [lQ])|skip)
     have H':=ak H
     clear H
     go_wp2_with (first|(go_at_call 79;(with_reducible refine (bD.calls (l0.length:Int) 1 4 true _ A5.out).mono ?_);rintro e w' ⟨rfl,⟨nd,rfl⟩⟩)|(go_at_call 81;(with_reducible refine (bR.calls k _ _ l0 0 65535 true _ ?side1 ?side2 A7.out).mono ?_);(case side1=>exact cd (Kd.aH fB.out (ai HB)));(case side2=>exact jD.out);rintro e w' ⟨rfl,⟨nd,rfl⟩⟩))
     go_meet
     case rel=>exact ⟨_,(true),er,H',⟨by first|omega|exact Nat.le_refl _⟩,⟨ai HB⟩⟩
   ·replace c8:=Bool.eq_false_iff.mpr c8
    subst c8
    have H1:(aG.j0 k l0 l1 a2 true)=some (r1,r2):=by rw [if_neg (show¬(false=true) by decide)] at H;exact H
    clear H
    have H:=H1
    clear H1
    have H':=ak H
    clear H
    go_wp2_with (first|(go_at_call 79;(with_reducible refine (bD.calls (l0.length:Int) 1 4 true _ A5.out).mono ?_);rintro e w' ⟨rfl,⟨nd,rfl⟩⟩)|(go_at_call 81;(with_reducible refine (bR.calls k _ _ l0 0 65535 false _ ?side1 ?side2 A7.out).mono ?_);(case side1=>exact cd (Kd.aH fB.out (ai HB)));(case side2=>exact jD.out);rintro e w' ⟨rfl,⟨nd,rfl⟩⟩))
    go_meet
    case rel=>exact ⟨_,(true),er,H',⟨by first|omega|exact Nat.le_refl _⟩,⟨ai HB⟩⟩
  ·replace c6:=Bool.eq_false_iff.mpr c6
   subst c6
   have H1:(aG.j0 k l0 l1 a2 true)=some (r1,r2):=by rw [if_neg (show¬(false=true) by decide)] at H;exact H
   clear H
   have H:=H1
   clear H1
   have H':=ak H
   clear H
   go_wp2_with (first|(go_at_call 79;(with_reducible refine (bD.calls (l0.length:Int) 1 4 false _ A5.out).mono ?_);rintro e w' ⟨rfl,⟨nd,rfl⟩⟩))
   go_meet
   case rel=>exact ⟨_,(true),er,H',⟨by first|omega|exact Nat.le_refl _⟩,⟨ai HB⟩⟩
 case rest=>
  clear Gf;(try clear c1)
  obtain ⟨kq,Gr,rfl,HA,vn,HB⟩:=hcut
  cases kq with
  |zero=>exact absurd HA.out (by simp [aG.j0])
  |succ Ea=>
   have H:=HA.out;clear HA
   simp only [aG.j0] at H
   by_cases oa:Gr=true
   ·subst oa
    have H1:(some ((⟨#[]⟩:ByteArray),false))=some (r1,r2):=by rw [if_pos rfl] at H;exact H
    clear H
    have H:=H1
    clear H1
    simp only [Option.some.injEq,Prod.mk.injEq] at H
    obtain ⟨rfl,rfl⟩:=H;go_wp2
    go_ret2
    exact ⟨jT,ai HB⟩
   ·replace oa:=Bool.eq_false_iff.mpr oa
    subst oa
    have H1:((fR.f a2).bind fun sn=>(if 8≤281474976710656 then ((some (List.replicate 8 0:List Int)).bind fun sV=>(if sn.size+(strOfNums sV).size≤9223372036854775807 then (aG.l0 Ea l0 l1 (sn++(strOfNums sV)) (wrap64 ((l0.length:Int)-1))) else (none))) else (none)))=some (r1,r2):=by rw [if_neg (show¬(false=true) by decide)] at H;exact H
    clear H
    have H:=H1
    clear H1;replace H:=bS H;obtain ⟨sn,vQ,H⟩:=H
    replace H:=cZ H;obtain ⟨rB,H⟩:=H;have ue:=eq_true rB
    have yj:decide (8≤281474976710656)=true:=decide_eq_true rB
    clear rB
    obtain ⟨sV,eZ⟩:∃y_:List Int,y_=(List.replicate 8 0):=⟨_,rfl⟩
    replace H:(if sn.size+(strOfNums sV).size≤9223372036854775807 then (aG.l0 Ea l0 l1 (sn++(strOfNums sV)) (wrap64 ((l0.length:Int)-1))) else (none))=some (r1,r2):=yH
    have Is:=ak eZ;clear eZ;replace H:=cZ H;obtain ⟨zl,H⟩:=H;have DL:=eq_true zl
    have Ij:decide (sn.size+(strOfNums sV).size≤9223372036854775807)=true:=decide_eq_true zl
    try have ZB:(9223372036854775807<sn.size+(strOfNums sV).size)=False:=eq_false (Nat.not_lt.2 zl)
    have H':=ak H
    clear H
    try go_wp2
    replace HB:=ak (cJ HB.out)
    refine ef (n:=6) (S:=fun w'=>True) (ds:=[]) (bl 6 0) (by kernel_rfl) rfl rfl trivial (fun an=> ?_)
    generalize wc.drew=Ko at HB an⊢
    refine C1 (i:=0) (N:=some 36) (v:= ?_) (a':= ?_) (bl 6 1) rfl rfl (by kernel_rfl) (fun _ _ _ h=>h) (Or.inl ⟨by rfl,?_⟩) ?_ ?_
    rotate_left
    ·intro w'
     go_simp
     with_reducible rfl
    rotate_left
    ·simp only [Act.put,List.setIfInBounds_toArray,List.set_cons_zero,List.set_cons_succ,bX,cL]
     rfl
    refine QO (σ:=Value) 2 (bl 6 15) (fun s_=>[(37,.string sn),(38,s_),(39,.string (strOfNums sV))]) (fun s_ w'=>(Kd.R (Kd.int .u8) 5 w' w.heap.size (fun _=>True) s_ sV)∧(Below w.heap.size w w')) ?_ ?_
    rotate_left
    ·intro xW
     refine Oc (i:=1) (j:=2) (Ni:=some 37) (Nj:=some 38) (bl 6 3) (bl 6 5) rfl rfl rfl rfl (by kernel_rfl) (by decide) (by decide) (fun K hK=> ?_) (fun K hK=> ?_)
     ·skip
      refine gw Tryz.func129 (by kernel_rfl) rfl #[.string a2] (by rfl) rfl rfl (by (try simp only [List.map_toArray,List.map_cons,List.map_nil]);first|done|rfl|(simp only [List.length_drop,List.length_take];rfl)) ?_
      with_reducible refine (fR.calls a2 sn _ vQ.out).mono ?_
      rintro e NZ ⟨rfl,hb⟩
      refine ⟨_,rfl,?_⟩
      replace HB:=ak (aE (ai HB) hb)
      (try clear hb);(try clear PR);(try clear hk);(try clear hi)
      refine hK.out _ _ trivial (fun an=> ?_)
      clear hK K
      refine dF (a':= ?_) ?_ ?_
      rotate_left
      ·show Act.put _ (some 37) _=_
       simp only [Act.put,List.setIfInBounds_toArray,List.set_cons_zero,List.set_cons_succ,bX,cL]
       rfl
      refine Lv (i:=2) (N:=some 38) (bl 6 7) rfl rfl (by kernel_rfl) (by decide) (fun K hK=> ?_)
      refine Kd.qO (Kd.int .u8) _ 5 (by rfl) (N:=38) rfl 56 _ _ rfl 8 rfl rfl Tryz.underlying56 (.int .u8 0) 1 rR rfl (by decide) (by omega) 0 (ok:=fun _=>True) (okp:=fun _=>True) rfl (fun _ hk=>hk) trivial (by omega) (by omega) (Below.refl _ _) (Nat.le_refl _) ?_
      intro IT w19 Mg hb cg dZ
      clear cg dZ
      (first|rw [←Is.out] at Mg|(simp only [Int.reduceToNat] at Mg;rw [←Is.out] at Mg))
      have pZ:=ak (Kd.dB Mg (bC (ai HB)))
      replace HB:=ak (aE (ai HB) hb)
      clear hb Mg
      refine hK.out _ _ trivial (fun an=> ?_)
      clear hK K
      refine dF (a':= ?_) ?_ ?_
      rotate_left
      ·show Act.put _ (some 38) _=_
       simp only [Act.put,List.setIfInBounds_toArray,List.set_cons_zero,List.set_cons_succ,bX,cL]
       rfl
      refine Lv (i:=3) (N:=some 39) (bl 6 15) rfl rfl (by kernel_rfl) (by decide) (fun K hK=> ?_)
      have Mu:=iP (P:=Tryz.prog) Tryz.underlying56 Tryz.underlying5 Tryz.underlying9 (Kd.iG pZ.out)
      refine uN (w1:= ?_) (v:= ?_) (by rfl) rfl ?_ ?_
      rotate_left 2
      ·go_simp
       constructor
       ·rfl
       ·rfl
      clear Mu
      refine hK.out _ _ trivial (fun an=> ?_)
      clear hK K
      refine dF (a':= ?_) ?_ ?_
      rotate_left
      ·show Act.put _ (some 39) _=_
       simp only [Act.put,List.setIfInBounds_toArray,List.set_cons_zero,List.set_cons_succ,bX,cL]
       rfl
      exact dF (by simp only [mD,Act.put,List.setIfInBounds_toArray,List.set_cons_zero,List.set_cons_succ]) (xW (IT) _ ⟨(fy pZ),(ai HB)⟩)
     ·skip
      refine Kd.qO (Kd.int .u8) _ 5 (by rfl) (N:=38) rfl 56 _ _ rfl 8 rfl rfl Tryz.underlying56 (.int .u8 0) 1 rR rfl (by decide) (by omega) 0 (ok:=fun _=>True) (okp:=fun _=>True) rfl (fun _ hk=>hk) trivial (by omega) (by omega) (Below.refl _ _) (Nat.le_refl _) ?_
      intro IT NZ Mh hb cg dZ
      clear cg dZ
      (first|rw [←Is.out] at Mh|(simp only [Int.reduceToNat] at Mh;rw [←Is.out] at Mh))
      have pZ:=ak (Kd.dB Mh (bC (ai HB)))
      replace HB:=ak (aE (ai HB) hb)
      clear hb Mh
      refine hK.out _ _ trivial (fun an=> ?_)
      clear hK K
      refine dF (a':= ?_) ?_ ?_
      rotate_left
      ·show Act.put _ (some 38) _=_
       simp only [Act.put,List.setIfInBounds_toArray,List.set_cons_zero,List.set_cons_succ,bX,cL]
       rfl
      refine Oc (i:=1) (j:=3) (Ni:=some 37) (Nj:=some 39) (bl 6 7) (bl 6 13) rfl rfl rfl rfl (by kernel_rfl) (by decide) (by decide) (fun K hK=> ?_) (fun K hK=> ?_)
      ·skip
       refine gw Tryz.func129 (by kernel_rfl) rfl #[.string a2] (by rfl) rfl rfl (by (try simp only [List.map_toArray,List.map_cons,List.map_nil]);first|done|rfl|(simp only [List.length_drop,List.length_take];rfl)) ?_
       with_reducible refine (fR.calls a2 sn _ vQ.out).mono ?_
       rintro e w20 ⟨rfl,hb⟩
       refine ⟨_,rfl,?_⟩
       replace pZ:=ak (Kd.ey (fy pZ) hb)
       replace HB:=ak (aE (ai HB) hb)
       (try clear hb);(try clear PR);(try clear hk);(try clear hi)
       refine hK.out _ _ trivial (fun an=> ?_)
       clear hK K
       refine dF (a':= ?_) ?_ ?_
       rotate_left
       ·show Act.put _ (some 37) _=_
        simp only [Act.put,List.setIfInBounds_toArray,List.set_cons_zero,List.set_cons_succ,bX,cL]
        rfl
       refine Lv (i:=3) (N:=some 39) (bl 6 15) rfl rfl (by kernel_rfl) (by decide) (fun K hK=> ?_)
       have Mu:=iP (P:=Tryz.prog) Tryz.underlying56 Tryz.underlying5 Tryz.underlying9 (Kd.iG pZ.out)
       refine uN (w1:= ?_) (v:= ?_) (by rfl) rfl ?_ ?_
       rotate_left 2
       ·go_simp
        constructor
        ·rfl
        ·rfl
       clear Mu
       refine hK.out _ _ trivial (fun an=> ?_)
       clear hK K
       refine dF (a':= ?_) ?_ ?_
       rotate_left
       ·show Act.put _ (some 39) _=_
        simp only [Act.put,List.setIfInBounds_toArray,List.set_cons_zero,List.set_cons_succ,bX,cL]
        rfl
       exact dF (by simp only [mD,Act.put,List.setIfInBounds_toArray,List.set_cons_zero,List.set_cons_succ]) (xW (IT) _ ⟨(fy pZ),(ai HB)⟩)
      ·skip
       have Yh:=iP (P:=Tryz.prog) Tryz.underlying56 Tryz.underlying5 Tryz.underlying9 (Kd.iG pZ.out)
       refine uN (w1:= ?_) (v:= ?_) (by rfl) rfl ?_ ?_
       rotate_left 2
       ·go_simp
        constructor
        ·rfl
        ·rfl
       clear Yh
       refine hK.out _ _ trivial (fun an=> ?_)
       clear hK K
       refine dF (a':= ?_) ?_ ?_
       rotate_left
       ·show Act.put _ (some 39) _=_
        simp only [Act.put,List.setIfInBounds_toArray,List.set_cons_zero,List.set_cons_succ,bX,cL]
        rfl
       refine Lv (i:=1) (N:=some 37) (bl 6 15) rfl rfl (by kernel_rfl) (by decide) (fun K hK=> ?_)
       refine gw Tryz.func129 (by kernel_rfl) rfl #[.string a2] (by rfl) rfl rfl (by (try simp only [List.map_toArray,List.map_cons,List.map_nil]);first|done|rfl|(simp only [List.length_drop,List.length_take];rfl)) ?_
       with_reducible refine (fR.calls a2 sn _ vQ.out).mono ?_
       rintro e w21 ⟨rfl,hb⟩
       refine ⟨_,rfl,?_⟩
       replace pZ:=ak (Kd.ey (fy pZ) hb)
       replace HB:=ak (aE (ai HB) hb)
       (try clear hb);(try clear PR);(try clear hk);(try clear hi)
       refine hK.out _ _ trivial (fun an=> ?_)
       clear hK K
       refine dF (a':= ?_) ?_ ?_
       rotate_left
       ·show Act.put _ (some 37) _=_
        simp only [Act.put,List.setIfInBounds_toArray,List.set_cons_zero,List.set_cons_succ,bX,cL]
        rfl
       exact dF (by simp only [mD,Act.put,List.setIfInBounds_toArray,List.set_cons_zero,List.set_cons_succ]) (xW (IT) _ ⟨(fy pZ),(ai HB)⟩)
    rintro IT W4 ⟨Ri,Rh⟩
    have zH:Aside0 (Kd.R (Kd.int .u8) 5 W4 w.heap.size (fun _=>True) IT sV):=⟨Ri⟩
    have zG:Aside0 (Below w.heap.size w W4):=⟨Rh⟩
    clear HB;clear Ri Rh
    have pZ:=zH
    have HB:=zG
    clear zH zG
    have an:=trivial
    refine dF (a':= ?_) ?_ ?_
    rotate_left
    ·simp only [mD,Act.put,List.setIfInBounds_toArray,List.set_cons_zero,List.set_cons_succ]
     rfl
    refine C1 (i:=4) (N:=some 40) (v:= ?_) (a':= ?_) (bl 6 31) rfl rfl (by kernel_rfl) (fun _ _ _ h=>h) (Or.inl ⟨by rfl,?_⟩) ?_ ?_
    rotate_left
    ·intro w'
     go_simp
     with_reducible rfl
    rotate_left
    ·simp only [Act.put,List.setIfInBounds_toArray,List.set_cons_zero,List.set_cons_succ,bX,cL]
     rfl
    refine C1 (i:=5) (N:=some 8) (v:= ?_) (a':= ?_) (bl 6 63) rfl rfl (by kernel_rfl) (fun _ _ _ h=>h) (Or.inl ⟨by rfl,?_⟩) ?_ ?_
    rotate_left
    ·intro w'
     go_simp
     with_reducible rfl
    rotate_left
    ·simp only [Act.put,List.setIfInBounds_toArray,List.set_cons_zero,List.set_cons_succ,bX,cL]
     rfl
    refine fm (by kernel_rfl) ?_
    try go_wp2
    go_loopg [8,9] Ea (fun kq v8 v9 w'=>∃(gG:ByteArray) (ga:Int),v8= .string gG∧v9= .int .i64 ga∧Aside0 (aG.l0 kq l0 l1 gG ga=some (r1,r2))∧Aside0 (kq≤Ea)∧Aside0 (Below w.heap.size w w'))
    case atStart=>exact ⟨(sn++(strOfNums sV)),(wrap64 ((l0.length:Int)-1)),er,er,H',⟨Nat.le_refl _⟩,⟨ai HB⟩⟩
    case round=>
     clear H'
     (try clear oa);(try clear ue);(try clear yj);(try clear zl);(try clear DL);(try clear Ij);(try clear ZB)
     obtain ⟨gG,ga,rfl,rfl,HA,jj,HB⟩:=hrel
     cases gk with
     |zero=>exact absurd HA.out (by simp [aG.l0])
     |succ k2=>
      have H:=HA.out;clear HA
      simp only [aG.l0] at H
      by_cases Kx:ga≥0
      ·rw [if_pos Kx] at H
       have Rz:=geT Kx
       clear Kx;replace H:=cZ H;obtain ⟨Wk,H⟩:=H;have Ry:=eq_true Wk
       have afW:decide (0≤22)=true:=decide_eq_true Wk
       clear Wk;replace H:=cZ H;obtain ⟨J5,H⟩:=H;have Zu:=eq_true J5
       have afV:decide (22≤(gG.size:Int))=true:=decide_eq_true J5
       clear J5;replace H:=cZ H;obtain ⟨MU,H⟩:=H;have zY:=decide_eq_true MU;clear MU;replace H:=cZ H;obtain ⟨c27,H⟩:=H;have afU:=decide_eq_true c27;clear c27;replace H:=cZ H;obtain ⟨c28,H⟩:=H;have afT:=eq_true c28
       have afS:decide (0≤16)=true:=decide_eq_true c28
       clear c28;replace H:=cZ H;obtain ⟨F0,H⟩:=H;have Zt:=eq_true F0
       have afR:decide (16≤((gG.extract 0 22).size:Int))=true:=decide_eq_true F0
       (try have Zs:=Zt;simp only [ByteArray.size_extract,Nat.sub_zero,Nat.min_self] at Zs)
       clear F0;replace H:=bS H;obtain ⟨CP,A30,H⟩:=H
       obtain ⟨CC,eZ⟩:∃y_:List Int,y_=(([(rd l1 ga)%256,(CP)%256]:List Int)):=⟨_,rfl⟩
       replace H:(if (strOfNums CC).size+(gG.extract 0 22).size≤9223372036854775807 then (if ga<(l0.length:Int) then ((iO.f k2 (rd l0 ga) 24).bind fun Ja=>((gW.f k2 ((strOfNums CC)++(gG.extract 0 22)) Ja).bind fun I9=>(aG.l0 k2 l0 l1 I9 (wrap64 (ga-1))))) else (none)) else (none))=some (r1,r2):=yH
       have RR:=ak eZ;clear eZ;replace H:=cZ H;obtain ⟨yh,H⟩:=H;have yg:=eq_true yh
       have Ih:decide ((strOfNums CC).size+(gG.extract 0 22).size≤9223372036854775807)=true:=decide_eq_true yh
       try have Zr:(9223372036854775807<(strOfNums CC).size+(gG.extract 0 22).size)=False:=eq_false (Nat.not_lt.2 yh)
       (try have Zq:=yg;simp only [ByteArray.size_extract,Nat.sub_zero,Nat.min_self] at Zq)
       (try have Zp:=Zr;simp only [ByteArray.size_extract,Nat.sub_zero,Nat.min_self] at Zp)
       replace H:=cZ H;obtain ⟨FZ,H⟩:=H;have DH:=decide_eq_true FZ;clear FZ;replace H:=bS H;obtain ⟨Ja,A33,H⟩:=H
       replace H:=bS H;obtain ⟨I9,A34,H⟩:=H
       have H':=ak H
       clear H
       try go_wp2
       replace HB:=ak (cJ HB.out)
       have Te:0≤(ga:Int):=da
       have SY:ga<(l1.length:Int):=da
       obtain ⟨Z6,aeA,tJ⟩:=Kd.jA pX.out ga Te SY
       have nX:=tJ
       cases aeA
       replace tJ:=(HB.out.cell (World.block_lt_of_cell? w _ tJ)).trans tJ
       replace Te:=eq_true Te;replace SY:=eq_true SY
       refine ef (n:=14) (S:=fun w'=>w'.cell? (Z6.add (ga).toNat)=some (.int .i64 (rd l1 ga))) (ds:=[]) (bl 14 0) (by kernel_rfl) rfl rfl (((HB.out.cell (World.block_lt_of_cell? w _ nX)).trans nX)) (fun an=> ?_);refine bW aG.yZ aG.rW (fun aC eE=> ?_)
       generalize wr.drew=w35 at HB tJ an⊢
       refine ag 0 (some 50) 14 1 aC ?_
       refine ag 1 (some 51) 14 3 aC ?_
       refine ag 2 (some 52) 14 7 aC ?_
       refine ag 5 (some 55) 14 39 aC ?_
       refine ag 6 (some 56) 14 103 aC ?_
       refine ag 11 (some 61) 14 2151 aC ?_
       refine cl 3 (some 53) 14 2159 aC eE an ?_ (hy:=by intro w' s0;go_simp;with_reducible rfl)
       refine ag 4 (some 54) 14 2175 aC ?_
       refine gv 7 (some 57) 14 2303 aC (fun K hK=> ?_)
       refine gw Tryz.func112 (by kernel_rfl) rfl #[.string ((gG.extract 0 22).extract 0 16)] (by rfl) rfl rfl (by (try simp only [List.map_toArray,List.map_cons,List.map_nil]);first|done|rfl|(simp only [List.length_drop,List.length_take];rfl)) ?_
       with_reducible refine (dU.calls k2 ((gG.extract 0 22).extract 0 16) CP _ A30.out).mono ?_
       rintro e w' ⟨rfl,⟨nd,rfl⟩⟩
       refine ⟨_,rfl,?_⟩
       refine hK.out _ _ (((HB.out.cell (World.block_lt_of_cell? w _ nX)).trans nX)) (fun an=> ?_)
       clear hK K
       refine dF (a':= ?_) ?_ ?_
       rotate_left
       ·show Act.put _ (some 57) _=_
        simp only [Act.put,List.setIfInBounds_toArray,List.set_cons_zero,List.set_cons_succ,bX,cL]
        rfl
       refine ag 8 (some 58) 14 2559 aC ?_
       refine gv 9 (some 59) 14 3071 aC (fun K hK=> ?_)
       refine Kd.jW (Kd.int .u8) _ 5 ?hg (N:=59) ?hd (xs:=([(rd l1 ga)%256,(CP)%256]:List Int)) (inner:=[.int .u8 ((rd l1 ga)%256),.int .u8 ((CP)%256)]) (ok:=fun _=>True) (okp:=fun _=>True) ?hr ?hp (fun _ hk=>hk) trivial (Below.refl _ _) (Nat.le_refl _) (by simp) ?_;(case hd=>rfl);(case hg=>rfl);(case hr=>exact qg);(case hp=>exact (bN.one (show Kd.M (Kd.int .u8) _ _ _ ((rd l1 ga)%256) [.int .u8 ((rd l1 ga)%256)] from rfl) (bN.one (show Kd.M (Kd.int .u8) _ _ _ ((CP)%256) [.int .u8 ((CP)%256)] from rfl) (bN.none _ _))))
       intro agK w36 Mc hb cg dZ
       clear cg dZ
       (first|rw [←RR.out] at Mc|(simp only [Int.reduceToNat] at Mc;rw [←RR.out] at Mc))
       have D7:=ak (Kd.dB Mc (bC (ai HB)))
       replace HB:=ak (aE (ai HB) hb)
       clear hb Mc
       refine hK.out _ _ (((HB.out.cell (World.block_lt_of_cell? w _ nX)).trans nX)) (fun an=> ?_)
       clear hK K
       refine dF (a':= ?_) ?_ ?_
       rotate_left
       ·show Act.put _ (some 59) _=_
        simp only [Act.put,List.setIfInBounds_toArray,List.set_cons_zero,List.set_cons_succ,bX,cL]
        rfl
       refine gv 10 (some 60) 14 4095 aC (fun K hK=> ?_)
       have Yf:=iP (P:=Tryz.prog) Tryz.underlying56 Tryz.underlying5 Tryz.underlying9 (Kd.iG D7.out)
       refine uN (w1:= ?_) (v:= ?_) (by rfl) rfl ?_ ?_
       rotate_left 2
       ·go_simp
        constructor
        ·rfl
        ·rfl
       clear Yf
       refine hK.out _ _ (((HB.out.cell (World.block_lt_of_cell? w _ nX)).trans nX)) (fun an=> ?_)
       clear hK K
       refine dF (a':= ?_) ?_ ?_
       rotate_left
       ·show Act.put _ (some 60) _=_
        simp only [Act.put,List.setIfInBounds_toArray,List.set_cons_zero,List.set_cons_succ,bX,cL]
        rfl
       refine ag 12 (some 62) 14 8191 aC ?_
       refine ag 13 (some 8) 14 16383 aC ?_
       refine fm (cW aC.out (by kernel_rfl)) ?_
       have Td:0≤(ga:Int):=da
       have SX:ga<(l0.length:Int):=da
       obtain ⟨af3,aez,Bh⟩:=Kd.jA fB.out ga Td SX
       cases aez
       replace Bh:=(HB.out.cell (World.block_lt_of_cell? w _ Bh)).trans Bh
       replace Td:=eq_true Td;replace SX:=eq_true SX
       try go_wp2_with (first|(go_at_call 111;(with_reducible refine (iO.calls k2 (rd l0 ga) 24 Ja _ A33.out).mono ?_);rintro e w39 ⟨rfl,hb⟩;replace D7:=ak (Kd.ey (fy D7) hb);replace HB:=ak (aE (ai HB) hb);(try clear hb))|(go_at_call 110;(with_reducible refine (gW.calls k2 ((strOfNums CC)++(gG.extract 0 22)) Ja I9 _ A34.out).mono ?_);rintro e w40 ⟨rfl,hb⟩;replace D7:=ak (Kd.ey (fy D7) hb);replace HB:=ak (aE (ai HB) hb);(try clear hb)))
       go_roundg k2
       case measure=>have:=vn.out;have:=jj.out;omega
       case rel=>exact ⟨(I9),(wrap64 (ga-1)),er,er,H',⟨by have:=vn.out;have:=jj.out;omega⟩,⟨ai HB⟩⟩
      ·rw [if_neg Kx] at H
       have Rz:=geF Kx
       clear Kx
       simp only [Option.some.injEq,Prod.mk.injEq] at H
       obtain ⟨rfl,rfl⟩:=H;go_wp2
       go_ret2
       exact ⟨jT,ai HB⟩
def gp.g (k:Nat) (n:Nt) (u:Int) (t:ByteArray) (H:List Int):Option (Nt×Bool):=(if 0≤wrap64 ((H.length:Int)-1)∧wrap64 ((H.length:Int)-1)<(H.length:Int) then (aG.f k n.ks (H.set (wrap64 ((H.length:Int)-1)).toNat (wrap64 (u+2))) (strOfNums [wrap64 (n.sd+1)%256]++t)).bind fun (s,o)=>if o=true then (bJ.f k ⟨n.ks,n.ps,n.ss,n.ib,wrap64 (n.sd+1)⟩ 0 s).bind fun m=>some (m,true) else none else none)
def gp.f (k:Nat) (n:Nt) (u:Int) (t:ByteArray):Option (Nt×Bool):=(bD.f u 0 3).bind fun c=>if c=false then some (n,false) else if 14<(t.size:Int) then some (n,false) else if n.sd=60 then some (n,false) else if n.ks.length≤1048576 then gp.g k n u t (List.replicate n.ks.length 1) else none
theorem gp.calls {k:Nat} {v0 v1 v2 v3:Value} {n m:Nt} {u:Int} {t:ByteArray} {r:Bool} {L:List SA} {w0 w:World} (hs:Sep w0 w (fH v0 v1 v2 v3 n++L)) (h:gp.f k n u t=some (m,r)):
    Calls Tryz.prog 96 #[.agg #[v0,v1,v2,v3,.int .i64 n.sd],.int .i64 u,.string t] w fun e w'=>e= .returned (.tuple #[.agg #[v0,v1,v2,v3,.int .i64 m.sd],.bool r])∧Sep w0 w' (fH v0 v1 v2 v3 m++L):=by
 have mX:=Tryz.underlying27
 obtain ⟨ks,ps,ss,ib,sd⟩:=n
 have HS:Sep w0 w (rA KI 3 v0 ks::sA KT 62 v1 ps::sA KT 62 v2 ss::sA KT 62 v3 ib::L):=hs
 clear hs
 unfold gp.f at h
 dsimp only at h⊢
 obtain ⟨A0,c0,rfl⟩:=HS.lJ 0
 obtain ⟨A1,c1,rfl⟩:=HS.jZ 1
 obtain ⟨A2,c2,rfl⟩:=HS.jZ 2
 obtain ⟨A3,c3,rfl⟩:=HS.jZ 3
 replace h:=bS h;obtain ⟨c,T1,h⟩:=h
 cases c with
 |false=>
  rw [if_pos rfl] at h
  skip
  obtain ⟨rfl,rfl⟩:=(Prod.mk.injEq _ _ _ _).mp (Option.some.inj h)
  clear h
  go_enter Tryz.func96,Tryz.ntmps96
  go_wp2_with (first|((with_reducible refine ax (N:=3) rfl ?_);refine cm 3 #[.slice A0 ks.length c0,.slice A1 ps.length c1,.slice A2 ss.length c2,.slice A3 ib.length c3,.int .i64 sd] 27 ?_;intro b3 cg W_ bQ bn;replace HS:=HS.box cg bQ bn;clear cg bQ bn;have cR:=aD (HS.bf 0))|((with_reducible refine ax (N:=6) rfl ?_);refine cm 6 #[.slice none 0 0,.slice none 0 0,.slice none 0 0,.slice none 0 0,.int .i64 0] 27 ?_;intro b6 cg W_ bQ bn;replace HS:=HS.box cg bQ bn;clear cg bQ bn;clear cR;have oW:=aD (HS.bf 0);clear oW;have oW:=aD (HS.bf 0);have cR:=aD (HS.bf 1))|(go_at_call 79;refine (bD.calls _ _ _ _ _ T1.out).mono ?_;rintro e W_ ⟨rfl,gX,rfl⟩;replace HS:=HS.drewN gX;generalize World.drewN _ gX=W_ at HS⊢;clear oW cR;have oW:=aD (HS.bf 0);have cR:=aD (HS.bf 1)))
  have HF:=HS.ko 0 (.slice A0 ks.length c0) (.slice A1 ps.length c1) (.slice A2 ss.length c2) (.slice A3 ib.length c3) (.int .i64 sd)
  refine bodyPost_ret (dI rfl _ _ b6 27 #[.slice A0 ks.length c0,.slice A1 ps.length c1,.slice A2 ss.length c2,.slice A3 ib.length c3,.int .i64 sd] (0,0) _ rfl (by exact (HF.bf 0).out) Tryz.underlying27 rfl (by kernel_rfl)) rfl ?_
  replace HS:=HF
  replace HS:=HS.tail
  replace HS:=HS.tail
  exact ⟨rfl,HS⟩
 |true=>
  rw [if_neg (by decide)] at h
  by_cases rG:14<(t.size:Int)
  ·rw [if_pos rG] at h
   have U8:decide (14<(t.size:Int))=true:=decide_eq_true rG
   clear rG
   obtain ⟨rfl,rfl⟩:=(Prod.mk.injEq _ _ _ _).mp (Option.some.inj h)
   clear h
   go_enter Tryz.func96,Tryz.ntmps96
   go_wp2_with (first|((with_reducible refine ax (N:=3) rfl ?_);refine cm 3 #[.slice A0 ks.length c0,.slice A1 ps.length c1,.slice A2 ss.length c2,.slice A3 ib.length c3,.int .i64 sd] 27 ?_;intro b3 cg W_ bQ bn;replace HS:=HS.box cg bQ bn;clear cg bQ bn;have cR:=aD (HS.bf 0))|((with_reducible refine ax (N:=6) rfl ?_);refine cm 6 #[.slice none 0 0,.slice none 0 0,.slice none 0 0,.slice none 0 0,.int .i64 0] 27 ?_;intro b6 cg W_ bQ bn;replace HS:=HS.box cg bQ bn;clear cg bQ bn;clear cR;have oW:=aD (HS.bf 0);clear oW;have oW:=aD (HS.bf 0);have cR:=aD (HS.bf 1))|(go_at_call 79;refine (bD.calls _ _ _ _ _ T1.out).mono ?_;rintro e W_ ⟨rfl,gX,rfl⟩;replace HS:=HS.drewN gX;generalize World.drewN _ gX=W_ at HS⊢;clear oW cR;have oW:=aD (HS.bf 0);have cR:=aD (HS.bf 1)))
   have HF:=HS.ko 0 (.slice A0 ks.length c0) (.slice A1 ps.length c1) (.slice A2 ss.length c2) (.slice A3 ib.length c3) (.int .i64 sd)
   refine bodyPost_ret (dI rfl _ _ b6 27 #[.slice A0 ks.length c0,.slice A1 ps.length c1,.slice A2 ss.length c2,.slice A3 ib.length c3,.int .i64 sd] (0,0) _ rfl (by exact (HF.bf 0).out) Tryz.underlying27 rfl (by kernel_rfl)) rfl ?_
   replace HS:=HF
   replace HS:=HS.tail
   replace HS:=HS.tail
   exact ⟨rfl,HS⟩
  ·rw [if_neg rG] at h
   have U8:decide (14<(t.size:Int))=false:=decide_eq_false rG
   have hts:t.size≤14:=by omega
   clear rG
   by_cases J4:sd=60
   ·rw [if_pos J4] at h
    have cb2:(sd==60)=true:=beq_iff_eq.2 J4
    clear J4
    obtain ⟨rfl,rfl⟩:=(Prod.mk.injEq _ _ _ _).mp (Option.some.inj h)
    clear h
    go_enter Tryz.func96,Tryz.ntmps96
    go_wp2_with (first|((with_reducible refine ax (N:=3) rfl ?_);refine cm 3 #[.slice A0 ks.length c0,.slice A1 ps.length c1,.slice A2 ss.length c2,.slice A3 ib.length c3,.int .i64 sd] 27 ?_;intro b3 cg W_ bQ bn;replace HS:=HS.box cg bQ bn;clear cg bQ bn;have cR:=aD (HS.bf 0))|((with_reducible refine ax (N:=6) rfl ?_);refine cm 6 #[.slice none 0 0,.slice none 0 0,.slice none 0 0,.slice none 0 0,.int .i64 0] 27 ?_;intro b6 cg W_ bQ bn;replace HS:=HS.box cg bQ bn;clear cg bQ bn;clear cR;have oW:=aD (HS.bf 0);clear oW;have oW:=aD (HS.bf 0);have cR:=aD (HS.bf 1))|(go_at_call 79;refine (bD.calls _ _ _ _ _ T1.out).mono ?_;rintro e W_ ⟨rfl,gX,rfl⟩;replace HS:=HS.drewN gX;generalize World.drewN _ gX=W_ at HS⊢;clear oW cR;have oW:=aD (HS.bf 0);have cR:=aD (HS.bf 1)))
    have HF:=HS.ko 0 (.slice A0 ks.length c0) (.slice A1 ps.length c1) (.slice A2 ss.length c2) (.slice A3 ib.length c3) (.int .i64 sd)
    refine bodyPost_ret (dI rfl _ _ b6 27 #[.slice A0 ks.length c0,.slice A1 ps.length c1,.slice A2 ss.length c2,.slice A3 ib.length c3,.int .i64 sd] (0,0) _ rfl (by exact (HF.bf 0).out) Tryz.underlying27 rfl (by kernel_rfl)) rfl ?_
    replace HS:=HF
    replace HS:=HS.tail
    replace HS:=HS.tail
    exact ⟨rfl,HS⟩
   ·rw [if_neg J4] at h
    have cb2:(sd==60)=false:=beq_eq_false_iff_ne.2 J4
    clear J4
    replace h:=cZ h;obtain ⟨hkl,h⟩:=h
    have KL:=ak hkl;clear hkl
    have H':=ak h;clear h
    go_enter Tryz.func96,Tryz.ntmps96
    go_upto_region 5 with (first|((with_reducible refine ax (N:=3) rfl ?_);refine cm 3 #[.slice A0 ks.length c0,.slice A1 ps.length c1,.slice A2 ss.length c2,.slice A3 ib.length c3,.int .i64 sd] 27 ?_;intro b3 cg W_ bQ bn;replace HS:=HS.box cg bQ bn;clear cg bQ bn;have cR:=aD (HS.bf 0))|((with_reducible refine ax (N:=6) rfl ?_);refine cm 6 #[.slice none 0 0,.slice none 0 0,.slice none 0 0,.slice none 0 0,.int .i64 0] 27 ?_;intro b6 cg W_ bQ bn;replace HS:=HS.box cg bQ bn;clear cg bQ bn;clear cR;have oW:=aD (HS.bf 0);clear oW;have oW:=aD (HS.bf 0);have cR:=aD (HS.bf 1))|(go_at_call 79;refine (bD.calls _ _ _ _ _ T1.out).mono ?_;rintro e W_ ⟨rfl,gX,rfl⟩;replace HS:=HS.drewN gX;generalize World.drewN _ gX=W_ at HS⊢;clear oW cR;have oW:=aD (HS.bf 0);have cR:=aD (HS.bf 1)))
    clear oW cR
    replace HS:=HS.qq KI 3
    go_loopg [8,28] ks.length (fun kq v8 v28 w'=>∃(j:Nat) (H:List Int),v28= .int .i64 (j:Int)∧H=List.replicate j 1∧j≤ks.length∧ks.length-j≤kq∧Sep w0 w' (rA KI 3 v8 H::bA b3 #[.slice A0 ks.length c0,.slice A1 ps.length c1,.slice A2 ss.length c2,.slice A3 ib.length c3,.int .i64 sd] 27::bA b6 #[.slice none 0 0,.slice none 0 0,.slice none 0 0,.slice none 0 0,.int .i64 0] 27::rA KI 3 (.slice A0 ks.length c0) ks::sA KT 62 (.slice A1 ps.length c1) ps::sA KT 62 (.slice A2 ss.length c2) ss::sA KT 62 (.slice A3 ib.length c3) ib::L))
    case atStart=>exact ⟨0,[],rfl,rfl,Nat.zero_le _,Nat.le_refl _,HS.kG.kG.kG.kG.jI.kG.kG⟩
    case round=>
     clear HS
     obtain ⟨j,H,rfl,hHj,j1,j2,HS⟩:=hrel
     by_cases hj:j<ks.length
     ·have Fs:decide ((j:Int)<(ks.length:Int))=true:=decide_eq_true (by omega)
      obtain ⟨A8,c8,rfl⟩:=HS.lJ 0
      go_wp2_with (first|((with_reducible refine ax (N:=31) rfl ?_);refine Kd.gy KI _ 3 ?hg (N:=31) ?hd (xs:=([1]:List Int)) (inner:=[.int .i64 1]) (ok:=fun _=>True) (okp:=fun _=>True) ?hr ?hp (fun _ hk=>hk) trivial (Below.refl _ _) (Nat.le_refl _) (by simp) ?_;(case hd=>rfl);(case hg=>rfl);(case hr=>first|(go_simp;done)|(go_simp;rfl));(case hp=>exact (bN.one (show Kd.M KI _ _ _ 1 [.int .i64 1] from rfl) (bN.none _ _)));intro xp W_ bQ bn _ _;replace HS:=HS.new (A:=rA KI 3 xp ([1])) bn bQ;clear bQ bn;obtain ⟨A9,c9,rfl⟩:=HS.lJ 0)|((with_reducible refine cr (b:= .append) (xs:= #[.tmp 30,.tmp 31]) rfl ?_);at_builtin;have HU:=(HS.jb 0).2.2;replace HS:=HS.m7;refine Sep.uj KI rfl (.tmp 30) (.tmp 31) 22 3 (.int .i64 0) 8 rfl Tryz.underlying22 xR rfl (by decide) (by omega) (.slice A8 H.length c8) H [1] A9 1 c9 rfl rfl HS HU (fun _ _ _ _ h=>h) (O0 hHj j1 KL.out) ?_;clear HS HU;intro v8' W_ HS))
      replace HS:=HS.m7.tail
      go_roundg (ks.length-(j+1))
      case measure=>omega
      case rel=>exact ⟨j+1,_,gm hj KL.out,(by rw [hHj,List.replicate_succ']),hj,Nat.le_refl _,HS⟩
     ·obtain rfl:j=ks.length:=by omega
      have Fs:decide ((ks.length:Int)<(ks.length:Int))=false:=decide_eq_false (by omega)
      have h:=H'.out;clear H'
      rw [←hHj] at h
      clear hHj j1 j2 hj KL
      unfold gp.g at h
      dsimp only at h
      replace h:=cZ h;obtain ⟨⟨we,Bo⟩,h⟩:=h
      obtain ⟨gH,qH,rfl⟩:=HS.vN 0 (hx:=by omega)
      obtain ⟨Yo,Yn⟩:=HS.QL 0 (wrap64 ((H.length:Int)-1)) we Bo
      generalize PF:wrap64 ((H.length:Int)-1)=i at h we Bo Yo Yn
      have pi0:(0≤i)=True:=eq_true we
      have pi1:(i<(H.length:Int))=True:=eq_true Bo
      go_upto_region 9 with fail
      clear Yo Yn pi0 pi1
      replace HS:=HS.XG i (wrap64 (u+2))
      obtain ⟨uI,iW,iZ⟩:=HS.gen
      rw [iW]
      clear HS iW
      have HS:=iZ
      clear iZ
      generalize hG:H.set i.toNat (wrap64 (u+2))=G at HS h
      have Uw:G.length=H.length:=by rw [←hG,List.length_set]
      rw [←Uw] at HS
      simp only [←Uw]
      clear PF we Bo hG Uw
      obtain ⟨B,hB⟩:∃B,strOfNums [wrap64 (sd+1)%256]=B:=⟨_,rfl⟩
      rw [hB] at h
      have hBs:B.size=1:=by rw [←hB];rfl
      have TD:decide (B.size+t.size≤9223372036854775807)=true:=decide_eq_true (by omega)
      have Dj:(9223372036854775807<B.size+t.size)=False:=eq_false (by omega)
      clear hBs
      have cR:=aD (HS.bf 1)
      go_upto_region 10 with fail
      clear cR
      obtain ⟨uI,iW,iZ⟩:=(HS.dg 1 4 (.int .i64 (wrap64 (sd+1))) #[.slice A0 ks.length c0,.slice A1 ps.length c1,.slice A2 ss.length c2,.slice A3 ib.length c3,.int .i64 (wrap64 (sd+1))]).gen
      rw [iW]
      clear HS iW
      have HS:=iZ
      clear iZ
      replace h:=bS h;obtain ⟨⟨s,o⟩,T2,h⟩:=h
      replace h:=cZ h;obtain ⟨rfl,h⟩:=h
      replace h:=bS h;obtain ⟨⟨N0,Kr,Kp,N1,Kq⟩,T3,h⟩:=h
      obtain ⟨e1,e2,e3⟩:=bJ.keeps T3.out
      dsimp only at e1 e2 e3
      replace e1:=e1.symm;replace e2:=e2.symm;replace e3:=e3.symm
      subst e1 e2 e3
      obtain ⟨rfl,rfl⟩:=(Prod.mk.injEq _ _ _ _).mp (Option.some.inj h)
      clear h
      have oW:=aD (HS.bf 2)
      have cR:=aD (HS.bf 1)
      go_wp2_with (first|((with_reducible refine ax (N:=52) rfl ?_);refine Kd.gy (Kd.int .u8) _ 5 ?hg (N:=52) ?hd (xs:=([wrap64 (sd+1)%256]:List Int)) (inner:=[.int .u8 (wrap64 (sd+1)%256)]) (ok:=fun _=>True) (okp:=fun _=>True) ?hr ?hp (fun _ hk=>hk) trivial (Below.refl _ _) (Nat.le_refl _) (by simp) ?_;(case hd=>rfl);(case hg=>rfl);(case hr=>first|(go_simp;done)|(go_simp;rfl));(case hp=>exact (bN.one (show Kd.M (Kd.int .u8) _ _ _ (wrap64 (sd+1)%256) [.int .u8 (wrap64 (sd+1)%256)] from rfl) (bN.none _ _)));intro vby W_ bQ bn _ _;replace HS:=HS.new (A:=rA (Kd.int .u8) 5 vby ([wrap64 (sd+1)%256])) bn bQ;clear bQ bn;have Yj:=HS.text 0 (P:=Tryz.prog) Tryz.underlying56 Tryz.underlying5 Tryz.underlying9;rw [hB] at Yj;clear oW cR;have oW:=aD (HS.bf 3);have cR:=aD (HS.bf 2))|(go_at_call 116;have dj:=aG.calls k _ _ ks _ _ G (B++t) s true _ (HS.jb 4).2.2 (HS.jb 4).2.1 (HS.jb 1).2.2 (HS.jb 1).2.1 T2.out;refine dj.mono ?_;clear dj;rintro e W_ ⟨rfl,bn⟩;replace HS:=HS.below bn;clear bn Yj;clear oW cR;have oW:=aD (HS.bf 3);have cR:=aD (HS.bf 2))|(go_at_call 89;have dj:=bJ.calls (n:=⟨ks,ps,ss,ib,wrap64 (sd+1)⟩) (HS.zU.zU.zU.zU) T3.out;refine dj.mono ?_;clear dj;rintro e W_ ⟨rfl,ij⟩;clear HS;have HS:=ij;clear ij;dsimp only [fH,List.cons_append,List.nil_append] at HS;clear oW cR;have oW:=aD (HS.bf 7);have cR:=aD (HS.bf 6)))
      have HF:=HS.ko 7 (.slice A0 ks.length c0) (.slice A1 ps.length c1) (.slice A2 ss.length c2) (.slice A3 ib.length c3) (.int .i64 (wrap64 (sd+1)))
      refine bodyPost_ret (dI rfl _ _ b6 27 #[.slice A0 ks.length c0,.slice A1 ps.length c1,.slice A2 ss.length c2,.slice A3 ib.length c3,.int .i64 (wrap64 (sd+1))] (0,0) _ rfl (by exact (HF.bf 7).out) Tryz.underlying27 rfl (by kernel_rfl)) rfl ?_
      replace HS:=HF
      replace HS:=HS.mM.tail
      replace HS:=HS.mM.tail
      replace HS:=HS.mM.tail
      replace HS:=HS.mM.tail
      exact ⟨rfl,HS⟩
end Go.Proofs.YtihekdlcfohkkaaGreatDoor.QFnNet
