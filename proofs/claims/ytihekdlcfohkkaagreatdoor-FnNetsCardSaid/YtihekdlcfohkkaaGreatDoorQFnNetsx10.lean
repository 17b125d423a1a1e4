-- printed by this session's own program (wip/tools/pp.py: the kit's print.py with changes); Lean checks it
import Derived.Test.YtihekdlcfohkkaaGreatDoorQFnNetsx0
namespace Go.Proofs.YtihekdlcfohkkaaGreatDoor.QFnNets
open Go.RowKit Go.Proofs.YtihekdlcfohkkaaGreatDoorW.PrintWords Go.Proofs.YtihekdlcfohkkaaGreatDoorW.PrintLast Go.Proofs.YtihekdlcfohkkaaGreatDoorW.PrintMore
attribute [local go_sem] max2_int min2_int max_two min_two max_three min_three max_four min_four strLss strGtr strLeq strGeq
set_option linter.unusedVariables false
set_option linter.unusedSimpArgs false
set_option maxHeartbeats 16000000
set_option maxRecDepth 100000
def au.l0:Nat→List ByteArray→Int→Int→Int→Int→Option (List ByteArray)
  |0,_,_,_,_,_=>none
  |k+1,x0,x1,x2,x3,iO=>if iO<x3 then (if 0≤(wrap64 (x2+iO)) then (if (wrap64 (x2+iO))<(x0.length:Int) then (if 0≤(wrap64 (x1+iO)) then (if (wrap64 (x1+iO))<(x0.length:Int) then (au.l0 k ((x0.set ((wrap64 (x1+iO)):Int).toNat (aQ ByteArray.empty x0 (wrap64 (x2+iO)))).set ((wrap64 (x2+iO)):Int).toNat (aQ ByteArray.empty x0 (wrap64 (x1+iO)))) x1 x2 x3 (wrap64 (iO+1))) else (none)) else (none)) else (none)) else (none)) else (some x0)
def au.f (k:Nat) (l0:List ByteArray) (a1:Int) (a2:Int) (a3:Int):Option (List ByteArray):=au.l0 k l0 a1 a2 a3 0
def au.T3:Bool×List (List Nat×List Nat):=(true,[([],[]),([],[]),([],[]),([1,2],[1,2]),([],[]),([],[]),([],[]),([5,6],[5,6]),([],[]),([],[]),([],[]),([9,10],[9,10]),([8,11],[8,11]),([12],[12]),([],[]),([],[]),([],[]),([15,16],[15,16]),([14,17],[14,17]),([18],[18]),([0,3,0,1,2,3,8,9,10,11,12,13,19],[0,3]),([20,13,0,1,2,3,8,9,10,11,12,13,19],[13,20]),([4,7,0,1,2,3,4,5,6,7,8,9,10,11,12,13,14,15,16,17,18,19,20,21],[4,7]),([22,19,21,0,1,2,3,4,5,6,7,8,9,10,11,12,13,14,15,16,17,18,19,20,21],[19,22])])
def au.B3:List Nat:=[0,0,0,6,0,0,0,96,0,0,0,1536,3840,7936,0,0,0,98304,245760,507904,1048335,2096911,4194303,8388607]
theorem au.FX:gz .any (opsOf Tryz.f167 3)=au.T3:=by kernel_rfl
theorem au.zJ:dZ au.T3.2 au.B3=true:=by kernel_rfl
theorem au.calls (k:Nat) (iZ:Nat→Prop) (eF:Value) (l0:List ByteArray) (a1:Int) (a2:Int) (a3:Int) (r:List ByteArray) (w0 w:World) (hB:Below w0.heap.size w0 w) (xh:Kd.R Kd.string 9 w w0.heap.size iZ eF l0) (h:au.f k l0 a1 a2 a3=some r):
  Calls Tryz.prog 167 #[eF,.int .i64 a1,.int .i64 a2,.int .i64 a3,.func (.func 107) #[] #[]] w fun e w'=>e= .returned (.tuple #[])∧Kd.R Kd.string 9 w' w0.heap.size (fun k_=>(iZ k_∨w.heap.size≤k_)) eF r∧Below w0.heap.size w0 w'∧Kept w w' (fun k_=>iZ k_):=by
 have DS:=ak (show Kd.R Kd.string 9 w w0.heap.size (fun k_=>(iZ k_∨w.heap.size≤k_)) eF l0 from Kd.bJ xh (fun k_ hk=>(.inl hk)))
 have HK:=ak (Kept.refl w (fun k_=>iZ k_))
 have JW:=ak hB.size
 have HB:=ak hB;clear hB
 have H:(au.l0 k l0 a1 a2 a3 0)=some r:=h
 clear h
 have H':=ak H
 clear H
 go_enter Tryz.func167,Tryz.ntmps167
 go_wp2
 go_loopg [10] k (fun kq v10 w'=>∃(ia:List ByteArray) (fE:Int),v10= .int .i64 fE∧Aside0 (au.l0 kq ia a1 a2 a3 fE=some r)∧Aside0 (kq≤k)∧Aside0 (Kd.R Kd.string 9 w' w0.heap.size (fun k_=>(iZ k_∨w.heap.size≤k_)) eF ia)∧Aside0 (Kept w w' (fun k_=>iZ k_))∧Aside0 (Below w0.heap.size w0 w'))
 case atStart=>exact ⟨(l0),(0),er,H',⟨Nat.le_refl _⟩,⟨dH DS⟩,⟨lI HK⟩,⟨aq HB⟩⟩
 case round=>
  clear H'
  obtain ⟨ia,fE,rfl,HA,gf,bH,HK,HB⟩:=hrel
  cases gk with
  |zero=>exact absurd HA.out (by simp [au.l0])
  |succ k1=>
   have H:=HA.out;clear HA
   simp only [au.l0] at H
   by_cases c6:fE<a3
   ·rw [if_pos c6] at H
    have kO:=decide_eq_true c6
    clear c6
    obtain ⟨nJ,vM⟩:∃j_:Int,(wrap64 (a2+fE))=j_:=⟨_,rfl⟩
    replace H:(if 0≤(nJ) then (if (nJ)<(ia.length:Int) then (if 0≤(wrap64 (a1+fE)) then (if (wrap64 (a1+fE))<(ia.length:Int) then (au.l0 k1 ((ia.set ((wrap64 (a1+fE)):Int).toNat (aQ ByteArray.empty ia (nJ))).set ((nJ):Int).toNat (aQ ByteArray.empty ia (wrap64 (a1+fE)))) a1 a2 a3 (wrap64 (fE+1))) else (none)) else (none)) else (none)) else (none))=some r:=by first|(rw [vM] at H;exact H)|(simp only [vM] at H⊢;exact H)
    have TI:(IntKind.i64.wrap (a2+fE))=nJ:=(bW _).trans vM
    replace H:=dy H;obtain ⟨c8,H⟩:=H;have xw:=decide_eq_true c8;clear c8;replace H:=dy H;obtain ⟨c9,H⟩:=H;have mg:=decide_eq_true c9;clear c9
    obtain ⟨qO,Oa⟩:∃j_:Int,(wrap64 (a1+fE))=j_:=⟨_,rfl⟩
    replace H:(if 0≤(qO) then (if (qO)<(ia.length:Int) then (au.l0 k1 ((ia.set ((qO):Int).toNat (aQ ByteArray.empty ia (nJ))).set ((nJ):Int).toNat (aQ ByteArray.empty ia (qO))) a1 a2 a3 (wrap64 (fE+1))) else (none)) else (none))=some r:=by first|(rw [Oa] at H;exact H)|(simp only [Oa] at H⊢;exact H)
    have agc:(IntKind.i64.wrap (a1+fE))=qO:=(bW _).trans Oa
    replace H:=dy H;obtain ⟨mY,H⟩:=H;have nM:=decide_eq_true mY;clear mY;replace H:=dy H;obtain ⟨nW,H⟩:=H;have sN:=decide_eq_true nW;clear nW
    obtain ⟨ZW,ez⟩:∃y_:List ByteArray,y_=(ia.set ((qO):Int).toNat (aQ ByteArray.empty ia (nJ))):=⟨_,rfl⟩
    replace H:(au.l0 k1 (ZW.set ((nJ):Int).toNat (aQ ByteArray.empty ia (qO))) a1 a2 a3 (wrap64 (fE+1)))=some r:=yH
    have adk:=ak ez;clear ez
    obtain ⟨ZV,ez⟩:∃y_:List ByteArray,y_=(ZW.set ((nJ):Int).toNat (aQ ByteArray.empty ia (qO))):=⟨_,rfl⟩
    replace H:(au.l0 k1 ZV a1 a2 a3 (wrap64 (fE+1)))=some r:=yH
    have adj:=ak ez;clear ez
    have H':=ak H
    clear H
    try go_wp2
    replace bH:=ak (Kd.cD bH.out)
    replace HK:=ak (Kept.drew HK.out)
    replace HB:=ak (cO HB.out)
    obtain ⟨Tc,OL,xo⟩:=Kd.de bH.out
    (first|subst xo|(injection xo with sL AK sK;have AJ:=sL.symm;have AH:=sK.symm;clear sL AK sK;subst AJ;subst AH))
    obtain ⟨ajP,ajD,acE,ag7,CQ⟩:=ng (Kd.bq (Kd.aJ bH.out).2.2 (nJ))
    cases ag7
    obtain ⟨ajO,ajC,acD,ag6,CP⟩:=ng (Kd.bq (Kd.aJ bH.out).2.2 (qO))
    obtain rfl:acE=acD:=(by injection ag6)
    have p13:0≤((qO):Int):=da
    have q13:((qO):Int)<((ia.length:Int):Int):=da
    obtain ⟨Lo,ahr,Sq,abp,agE,akk,ad5⟩:=Kd.zS bH.out (by omega)
    (first|cases Sq|(injection Sq with xR Mc Sr;(first|subst xR|(injection xR with xR;subst xR));subst Sr;clear Mc))
    have aeb:=Aside0.mk abp;have ahQ:=ak ad5;clear abp agE ad5
    have P9:=ak (show (iZ Lo∨w.heap.size≤Lo) from (bH.out.1 _ rfl))
    (first|simp only [add_plain] at CQ|skip)
    (first|simp only [add_plain] at CP|skip)
    obtain ⟨Wo,W4⟩:=Kd.nw (⟨#[]⟩:ByteArray) bH.out ((qO):Int) p13 q13
    replace p13:=eq_true p13;replace q13:=eq_true q13
    have Ik:=Kd.qb bH.out ((qO):Int) (aQ ByteArray.empty ia (nJ))
    rw [←adk.out] at Ik
    have YD:=ak Ik;clear Ik
    have KS:0≤((nJ):Int):=da
    have KQ:((nJ):Int)<((ia.length:Int):Int):=da
    obtain ⟨GW,Hj⟩:=Kd.nw (⟨#[]⟩:ByteArray) YD.out ((nJ):Int) KS KQ
    replace KS:=eq_true KS;replace KQ:=eq_true KQ
    have YK:=Kd.qb YD.out ((nJ):Int) (aQ ByteArray.empty ia (qO))
    rw [←adj.out] at YK
    have adL:=ak YK;clear YK
    refine dV (n:=24) (S:=fun w'=>w'.cell? ⟨Lo,((nJ)).toNat,none⟩=some (.string (aQ ByteArray.empty ia (nJ)))∧w'.cell? ⟨Lo,((qO)).toNat,none⟩=some (.string (aQ ByteArray.empty ia (qO)))) (ds:=[21,23]) (bl 24 0) (by kernel_rfl) rfl rfl ⟨CQ,CP⟩ (fun ah=> ?_);refine bZ au.FX au.zJ (fun aA ef=> ?_)
    generalize wr.drew=Ti at bH HK HB ahQ YD adL W4 Hj Wo GW CQ CP ah⊢
    refine ag 0 (some 16) 24 1 aA ?_
    refine ag 1 (some 17) 24 3 aA ?_
    refine ag 2 (some 18) 24 7 aA ?_
    refine ag 3 (some 19) 24 15 aA ?_
    refine ag 4 (some 20) 24 31 aA ?_
    refine ag 5 (some 21) 24 63 aA ?_
    refine ag 6 (some 22) 24 127 aA ?_
    refine ag 7 (some 23) 24 255 aA ?_
    refine ag 8 (some 24) 24 511 aA ?_
    refine ag 9 (some 25) 24 1023 aA ?_
    refine ag 10 (some 26) 24 2047 aA ?_
    refine ag 11 (some 27) 24 4095 aA ?_
    refine ag 12 (some 28) 24 8191 aA ?_
    refine ag 14 (some 30) 24 24575 aA ?_
    refine ag 15 (some 31) 24 57343 aA ?_
    refine ag 16 (some 32) 24 122879 aA ?_
    refine ag 17 (some 33) 24 253951 aA ?_
    refine ag 18 (some 34) 24 516095 aA ?_
    refine cg 13 (some 29) 24 524287 aA ef ah ?_ (hy:=by rintro w' ⟨s0,s1⟩;go_simp;with_reducible rfl)
    refine cg 19 (some 35) 24 1048575 aA ef ah ?_ (hy:=by rintro w' ⟨s0,s1⟩;go_simp;with_reducible rfl)
    refine ag 20 (some 36) 24 2097151 aA ?_
    refine lH (i:=21) (N:=none) (bl 24 4194303) rfl rfl (jd aA.out (by kernel_rfl)) (by decide) (fun K hK=> ?_)
    refine jV (w1:= ?_) (by rfl) rfl ?_ ?_
    rotate_left
    ·go_simp
     rfl
    refine hK.out _ _ ?_
    clear hK K
    refine ag 22 (some 37) 24 8388607 aA ?_
    refine lH (i:=23) (N:=none) (bl 24 16777215) rfl rfl (jd aA.out (by kernel_rfl)) (by decide) (fun K hK=> ?_)
    refine jV (w1:= ?_) (by rfl) rfl ?_ ?_
    rotate_left
    ·go_simp
     rfl
    refine hK.out _ _ ?_
    clear hK K
    refine eZ (cV aA.out (by kernel_rfl)) ?_
    try go_wp2
    (first|go_roundg k1|((try rw [←add_plain Lo ((nJ):Int).toNat]);(try rw [←add_plain Lo ((qO):Int).toNat]);go_roundg k1))
    case measure=>have:=gf.out;omega
    case rel=>exact ⟨(ZV),(wrap64 (fE+1)),er,H',⟨by have:=gf.out;omega⟩,⟨dH adL⟩,⟨by repeat (first|(with_reducible first|exact HK.out|apply Kept.alloc|apply Kept.drewN|apply Kept.drew|refine Kept.setCell ?_ P9.out _|refine Kept.setCell ?_ P9.out _)|exact HK.out)⟩,⟨by repeat (first|(with_reducible first|exact HB.out|apply dQ|apply ek|apply cO|refine ew ?_ aeb.out|refine ew ?_ aeb.out)|exact HB.out)⟩⟩
   ·rw [if_neg c6] at H
    have kO:=decide_eq_false c6
    clear c6
    obtain rfl:=Option.some.inj H
    go_wp2
    first|go_end0|((try simp only [Exit.inBlock,Exit.then]);refine bodyPost_ret (results_none rfl _ _ _) rfl ?_)
    exact ⟨kK,by (with_reducible repeat (first|apply Kd.cz|apply Kd.cy|apply Kd.cD));exact bH.out,aq HB,lI HK⟩
def bp.l0:Nat→List ByteArray→Int→Int→Int→Option (List ByteArray)
  |0,_,_,_,_=>none
  |k+1,x0,x2,iO,qE=>if iO=qE then ((au.f k x0 (wrap64 (x2-iO)) x2 iO).bind fun Vt=>(some Vt)) else (if iO>qE then ((au.f k x0 (wrap64 (x2-iO)) x2 qE).bind fun QW=>(bp.l0 k QW x2 (wrap64 (iO-qE)) qE)) else ((au.f k x0 (wrap64 (x2-iO)) (wrap64 ((wrap64 (x2+qE))-iO)) iO).bind fun QV=>(bp.l0 k QV x2 iO (wrap64 (qE-iO)))))
def bp.f (k:Nat) (l0:List ByteArray) (a1:Int) (a2:Int) (a3:Int):Option (List ByteArray):=bp.l0 k l0 a2 (wrap64 (a2-a1)) (wrap64 (a3-a2))
theorem bp.calls (k:Nat) (iZ:Nat→Prop) (eF:Value) (l0:List ByteArray) (a1:Int) (a2:Int) (a3:Int) (r:List ByteArray) (w0 w:World) (hB:Below w0.heap.size w0 w) (xh:Kd.R Kd.string 9 w w0.heap.size iZ eF l0) (h:bp.f k l0 a1 a2 a3=some r):
  Calls Tryz.prog 153 #[eF,.int .i64 a1,.int .i64 a2,.int .i64 a3,.func (.func 107) #[] #[]] w fun e w'=>e= .returned (.tuple #[])∧Kd.R Kd.string 9 w' w0.heap.size (fun k_=>(iZ k_∨w.heap.size≤k_)) eF r∧Below w0.heap.size w0 w'∧Kept w w' (fun k_=>iZ k_):=by
 have DS:=ak (show Kd.R Kd.string 9 w w0.heap.size (fun k_=>(iZ k_∨w.heap.size≤k_)) eF l0 from Kd.bJ xh (fun k_ hk=>(.inl hk)))
 have HK:=ak (Kept.refl w (fun k_=>iZ k_))
 have JW:=ak hB.size
 have HB:=ak hB;clear hB
 have H:(bp.l0 k l0 a2 (wrap64 (a2-a1)) (wrap64 (a3-a2)))=some r:=h
 clear h
 have H':=ak H
 clear H
 go_enter Tryz.func153,Tryz.ntmps153
 go_wp2
 go_loopg [10,11] k (fun kq v10 v11 w'=>∃(ia:List ByteArray) (fE:Int) (fW:Int),v10= .int .i64 fE∧v11= .int .i64 fW∧Aside0 (bp.l0 kq ia a2 fE fW=some r)∧Aside0 (kq≤k)∧Aside0 (Kd.R Kd.string 9 w' w0.heap.size (fun k_=>(iZ k_∨w.heap.size≤k_)) eF ia)∧Aside0 (Kept w w' (fun k_=>iZ k_))∧Aside0 (Below w0.heap.size w0 w'))
 case atStart=>exact ⟨(l0),(wrap64 (a2-a1)),(wrap64 (a3-a2)),er,er,H',⟨Nat.le_refl _⟩,⟨dH DS⟩,⟨lI HK⟩,⟨aq HB⟩⟩
 case round=>
  clear H'
  obtain ⟨ia,fE,fW,rfl,rfl,HA,gf,bH,HK,HB⟩:=hrel
  cases gk with
  |zero=>exact absurd HA.out (by simp [bp.l0])
  |succ k1=>
   have H:=HA.out;clear HA
   simp only [bp.l0] at H
   by_cases c6:fE=fW
   ·rw [if_pos c6] at H
    have kO:=lO c6
    have vS:=mR c6
    clear c6;replace H:=bS H;obtain ⟨Vt,A7,H⟩:=H
    obtain rfl:=Option.some.inj H
    obtain ⟨Ao8,co8,eo8⟩:=Kd.de bH.out
    subst eo8
    go_wp2_with (first|(go_at_call 167;(with_reducible refine (au.calls k1 (fun k_=>some k_=(.slice Ao8 ia.length co8:Value).ownBlock) (.slice Ao8 ia.length co8) ia (wrap64 (a2-fE)) a2 fE Vt w0 _ ?side1 ?side2 A7.out).mono ?_);(case side1=>exact aq HB);(case side2=>exact Kd.iN rfl bH.out);rintro e w9 ⟨rfl,nV,hb,ov⟩;replace HK:=ak (Kept.mN (S:=(fun k_=>iZ k_)) (lI HK) ov (fun k_ nx=>(fun e_=>(bH.out.1 k_ e_.symm)) nx));replace bH:=ak (Kd.lD rfl nV (fun k_ e_=>bH.out.1 k_ e_));replace HB:=ak (hb);(try clear hb);(try clear ov);(try clear nV)))
    first|go_end0|((try simp only [Exit.inBlock,Exit.then]);refine bodyPost_ret (results_none rfl _ _ _) rfl ?_)
    exact ⟨kK,by (with_reducible repeat (first|apply Kd.cz|apply Kd.cy|apply Kd.cD));exact bH.out,aq HB,lI HK⟩
   ·rw [if_neg c6] at H
    have kO:=lq c6
    have vS:=mj c6
    by_cases gW:fE>fW
    ·rw [if_pos gW] at H
     have kY:=Ma gW
     clear gW;replace H:=bS H;obtain ⟨QW,Qn,H⟩:=H
     have H':=ak H
     clear H
     obtain ⟨aek,abO,agS⟩:=Kd.de bH.out
     subst agS
     go_wp2_with (first|(go_at_call 167;(with_reducible refine (au.calls k1 (fun k_=>some k_=(.slice aek ia.length abO:Value).ownBlock) (.slice aek ia.length abO) ia (wrap64 (a2-fE)) a2 fW QW w0 _ ?side1 ?side2 Qn.out).mono ?_);(case side1=>exact aq HB);(case side2=>exact Kd.iN rfl bH.out);rintro e w13 ⟨rfl,nV,hb,ov⟩;replace HK:=ak (Kept.mN (S:=(fun k_=>iZ k_)) (lI HK) ov (fun k_ nx=>(fun e_=>(bH.out.1 k_ e_.symm)) nx));replace bH:=ak (Kd.lD rfl nV (fun k_ e_=>bH.out.1 k_ e_));replace HB:=ak (hb);(try clear hb);(try clear ov);(try clear nV)))
     go_roundg k1
     case measure=>have:=gf.out;omega
     case rel=>exact ⟨(QW),(wrap64 (fE-fW)),(fW),er,er,H',⟨by have:=gf.out;omega⟩,⟨dH bH⟩,⟨lI HK⟩,⟨aq HB⟩⟩
    ·rw [if_neg gW] at H
     have kY:=Mb gW
     clear gW;replace H:=bS H;obtain ⟨QV,wS,H⟩:=H
     have H':=ak H
     clear H
     obtain ⟨aej,abN,agR⟩:=Kd.de bH.out
     subst agR
     go_wp2_with (first|(go_at_call 167;(with_reducible refine (au.calls k1 (fun k_=>some k_=(.slice aej ia.length abN:Value).ownBlock) (.slice aej ia.length abN) ia (wrap64 (a2-fE)) (wrap64 ((wrap64 (a2+fW))-fE)) fE QV w0 _ ?side1 ?side2 wS.out).mono ?_);(case side1=>exact aq HB);(case side2=>exact Kd.iN rfl bH.out);rintro e Ml ⟨rfl,nV,hb,ov⟩;replace HK:=ak (Kept.mN (S:=(fun k_=>iZ k_)) (lI HK) ov (fun k_ nx=>(fun e_=>(bH.out.1 k_ e_.symm)) nx));replace bH:=ak (Kd.lD rfl nV (fun k_ e_=>bH.out.1 k_ e_));replace HB:=ak (hb);(try clear hb);(try clear ov);(try clear nV)))
     go_roundg k1
     case measure=>have:=gf.out;omega
     case rel=>exact ⟨(QV),(fE),(wrap64 (fW-fE)),er,er,H',⟨by have:=gf.out;omega⟩,⟨dH bH⟩,⟨lI HK⟩,⟨aq HB⟩⟩
end Go.Proofs.YtihekdlcfohkkaaGreatDoor.QFnNets
