-- printed by this session's own program (wip/tools/pp.py: the kit's print.py with changes); Lean checks it
import Derived.Test.YtihekdlcfohkkaaGreatDoorQFnNetsx0
import Derived.Test.YtihekdlcfohkkaaGreatDoorQFnNetsx9
import Derived.Test.YtihekdlcfohkkaaGreatDoorQFnNetsx10
namespace Go.Proofs.YtihekdlcfohkkaaGreatDoor.QFnNets
open Go.RowKit Go.Proofs.YtihekdlcfohkkaaGreatDoorW.PrintWords Go.Proofs.YtihekdlcfohkkaaGreatDoorW.PrintLast Go.Proofs.YtihekdlcfohkkaaGreatDoorW.PrintMore
attribute [local go_sem] max2_int min2_int max_two min_two max_three min_three max_four min_four strLss strGtr strLeq strGeq
set_option linter.unusedVariables false
set_option linter.unusedSimpArgs false
set_option maxHeartbeats 16000000
set_option maxRecDepth 100000
mutual
def aa.l0:Nat→List ByteArray→Int→Int→Int→Option (List ByteArray)
  |0,_,_,_,_=>none
  |k+1,x0,x1,iO,qE=>if iO<qE then (if 0≤(wrap64 ((IntKind.u64.wrap (wrap64 (iO+qE)))/2)) then (if (wrap64 ((IntKind.u64.wrap (wrap64 (iO+qE)))/2))<(x0.length:Int) then (if 0≤x1 then (if x1<(x0.length:Int) then ((cC.f (aQ ByteArray.empty x0 (wrap64 ((IntKind.u64.wrap (wrap64 (iO+qE)))/2))) (aQ ByteArray.empty x0 x1)).bind fun F2=>(if F2<0 then (aa.l0 k x0 x1 (wrap64 ((wrap64 ((IntKind.u64.wrap (wrap64 (iO+qE)))/2))+1)) qE) else (aa.l0 k x0 x1 iO (wrap64 ((IntKind.u64.wrap (wrap64 (iO+qE)))/2))))) else (none)) else (none)) else (none)) else (none)) else (aa.l1 k x0 iO x1)
def aa.l1:Nat→List ByteArray→Int→Int→Option (List ByteArray)
  |0,_,_,_=>none
  |k+1,x0,iO,iz=>if iz<(wrap64 (iO-1)) then (if 0≤(wrap64 (iz+1)) then (if (wrap64 (iz+1))<(x0.length:Int) then (if 0≤iz then (if iz<(x0.length:Int) then (aa.l1 k ((x0.set (iz:Int).toNat (aQ ByteArray.empty x0 (wrap64 (iz+1)))).set ((wrap64 (iz+1)):Int).toNat (aQ ByteArray.empty x0 iz)) iO (wrap64 (iz+1))) else (none)) else (none)) else (none)) else (none)) else (some x0)
def aa.l2:Nat→List ByteArray→Int→Int→Int→Option (List ByteArray)
  |0,_,_,_,_=>none
  |k+1,x0,x2,kD,kV=>if kD<kV then (if 0≤x2 then (if x2<(x0.length:Int) then (if 0≤(wrap64 ((IntKind.u64.wrap (wrap64 (kD+kV)))/2)) then (if (wrap64 ((IntKind.u64.wrap (wrap64 (kD+kV)))/2))<(x0.length:Int) then ((cC.f (aQ ByteArray.empty x0 x2) (aQ ByteArray.empty x0 (wrap64 ((IntKind.u64.wrap (wrap64 (kD+kV)))/2)))).bind fun F1=>(if F1<0 then (aa.l2 k x0 x2 kD (wrap64 ((IntKind.u64.wrap (wrap64 (kD+kV)))/2))) else (aa.l2 k x0 x2 (wrap64 ((wrap64 ((IntKind.u64.wrap (wrap64 (kD+kV)))/2))+1)) kV))) else (none)) else (none)) else (none)) else (none)) else (aa.l3 k x0 kD x2)
def aa.l3:Nat→List ByteArray→Int→Int→Option (List ByteArray)
  |0,_,_,_=>none
  |k+1,x0,kD,Kf=>if Kf>kD then (if 0≤(wrap64 (Kf-1)) then (if (wrap64 (Kf-1))<(x0.length:Int) then (if 0≤Kf then (if Kf<(x0.length:Int) then (aa.l3 k ((x0.set (Kf:Int).toNat (aQ ByteArray.empty x0 (wrap64 (Kf-1)))).set ((wrap64 (Kf-1)):Int).toNat (aQ ByteArray.empty x0 Kf)) kD (wrap64 (Kf-1))) else (none)) else (none)) else (none)) else (none)) else (some x0)
def aa.j4:Nat→List ByteArray→Int→Int→Int→Int→Int→Int→Int→Option (List ByteArray)
  |0,_,_,_,_,_,_,_,_=>none
  |k+1,x0,x1,x2,x3,u9,Tg,tK,Iy=>aa.l4 k x0 x1 x2 x3 u9 Tg tK Iy (wrap64 (Tg-1))
def aa.l4:Nat→List ByteArray→Int→Int→Int→Int→Int→Int→Int→Int→Option (List ByteArray)
  |0,_,_,_,_,_,_,_,_,_=>none
  |k+1,x0,x1,x2,x3,u9,Tg,tK,Iy,x22=>if tK<Iy then (if 0≤(wrap64 (x22-(wrap64 ((IntKind.u64.wrap (wrap64 (tK+Iy)))/2)))) then (if (wrap64 (x22-(wrap64 ((IntKind.u64.wrap (wrap64 (tK+Iy)))/2))))<(x0.length:Int) then (if 0≤(wrap64 ((IntKind.u64.wrap (wrap64 (tK+Iy)))/2)) then (if (wrap64 ((IntKind.u64.wrap (wrap64 (tK+Iy)))/2))<(x0.length:Int) then ((cC.f (aQ ByteArray.empty x0 (wrap64 (x22-(wrap64 ((IntKind.u64.wrap (wrap64 (tK+Iy)))/2))))) (aQ ByteArray.empty x0 (wrap64 ((IntKind.u64.wrap (wrap64 (tK+Iy)))/2)))).bind fun Ck=>(if Ck<0 then (aa.l4 k x0 x1 x2 x3 u9 Tg tK (wrap64 ((IntKind.u64.wrap (wrap64 (tK+Iy)))/2)) x22) else (aa.l4 k x0 x1 x2 x3 u9 Tg (wrap64 ((wrap64 ((IntKind.u64.wrap (wrap64 (tK+Iy)))/2))+1)) Iy x22))) else (none)) else (none)) else (none)) else (none)) else (if tK<x2 then (aa.j6 k x0 x1 x2 x3 u9 tK (wrap64 (Tg-tK)) (decide (x2<(wrap64 (Tg-tK))))) else (aa.j6 k x0 x1 x2 x3 u9 tK (wrap64 (Tg-tK)) false))
def aa.j6:Nat→List ByteArray→Int→Int→Int→Int→Int→Int→Bool→Option (List ByteArray)
  |0,_,_,_,_,_,_,_,_=>none
  |k+1,x0,x1,x2,x3,u9,tK,Ke,aeG=>if aeG=true then ((bp.f k x0 tK x2 Ke).bind fun Kt=>(aa.j7 k Kt x1 x3 u9 tK Ke)) else (aa.j7 k x0 x1 x3 u9 tK Ke)
def aa.j7:Nat→List ByteArray→Int→Int→Int→Int→Int→Option (List ByteArray)
  |0,_,_,_,_,_,_=>none
  |k+1,x0,x1,x3,u9,tK,Ke=>if x1<tK then (aa.j8 k x0 x1 x3 u9 tK Ke (decide (tK<u9))) else (aa.j8 k x0 x1 x3 u9 tK Ke false)
def aa.j8:Nat→List ByteArray→Int→Int→Int→Int→Int→Bool→Option (List ByteArray)
  |0,_,_,_,_,_,_,_=>none
  |k+1,x0,x1,x3,u9,tK,Ke,aeF=>if aeF=true then ((aa.f k x0 x1 tK u9).bind fun wY=>(if u9<Ke then (if Ke<x3 then ((aa.f k wY u9 Ke x3).bind fun MG=>(some MG)) else (some wY)) else (some wY))) else (if u9<Ke then (if Ke<x3 then ((aa.f k x0 u9 Ke x3).bind fun MF=>(some MF)) else (some x0)) else (some x0))
def aa.f:Nat→List ByteArray→Int→Int→Int→Option (List ByteArray)
  |0,_,_,_,_=>none
  |k+1,l0,a1,a2,a3=>if (wrap64 (a2-a1))=1 then (aa.l0 k l0 a1 a2 a3) else (if (wrap64 (a3-a2))=1 then (aa.l2 k l0 a2 a1 a2) else (if a2>(wrap64 ((IntKind.u64.wrap (wrap64 (a1+a3)))/2)) then (aa.j4 k l0 a1 a2 a3 (wrap64 ((IntKind.u64.wrap (wrap64 (a1+a3)))/2)) (wrap64 ((wrap64 ((IntKind.u64.wrap (wrap64 (a1+a3)))/2))+a2)) (wrap64 ((wrap64 ((wrap64 ((IntKind.u64.wrap (wrap64 (a1+a3)))/2))+a2))-a3)) (wrap64 ((IntKind.u64.wrap (wrap64 (a1+a3)))/2))) else (aa.j4 k l0 a1 a2 a3 (wrap64 ((IntKind.u64.wrap (wrap64 (a1+a3)))/2)) (wrap64 ((wrap64 ((IntKind.u64.wrap (wrap64 (a1+a3)))/2))+a2)) a1 a2)))
end
def aa.T5:Bool×List (List Nat×List Nat):=(true,[([],[]),([],[]),([],[]),([1,2],[1,2]),([3],[3]),([],[]),([],[]),([5,6],[5,6]),([7],[7]),([0,4,8],[0,4,8]),([9],[9])])
def aa.B5:List Nat:=[0,0,0,6,14,0,0,96,224,511,1023]
theorem aa.At:gz .any (opsOf Tryz.f136 5)=aa.T5:=by kernel_rfl
theorem aa.sO:dZ aa.T5.2 aa.B5=true:=by kernel_rfl
def aa.Up:Bool×List (List Nat×List Nat):=(true,[([],[]),([],[]),([],[]),([],[]),([3],[3]),([],[]),([],[]),([6],[6]),([5,7],[5,7]),([8],[8]),([],[]),([],[]),([10,11],[10,11]),([12],[12]),([0,1,0,1,5,6,7,8,9,13],[0,1]),([14,9,0,1,5,6,7,8,9,13],[9,14]),([2,4,0,1,2,3,4,5,6,7,8,9,10,11,12,13,14,15],[2,4]),([16,13,15,0,1,2,3,4,5,6,7,8,9,10,11,12,13,14,15],[13,16])])
def aa.B11:List Nat:=[0,0,0,0,8,0,0,64,224,480,0,0,3072,7168,16355,32739,65535,131071]
theorem aa.Mw:gz .any (opsOf Tryz.f136 11)=aa.Up:=by kernel_rfl
theorem aa.Ie:dZ aa.Up.2 aa.B11=true:=by kernel_rfl
def aa.T17:Bool×List (List Nat×List Nat):=(true,[([],[]),([],[]),([],[]),([1,2],[1,2]),([3],[3]),([],[]),([],[]),([5,6],[5,6]),([7],[7]),([0,4,8],[0,4,8]),([9],[9]),([10],[10])])
def aa.B17:List Nat:=[0,0,0,6,14,0,0,96,224,511,1023,2047]
theorem aa.Tk:gz .any (opsOf Tryz.f136 17)=aa.T17:=by kernel_rfl
theorem aa.O7:dZ aa.T17.2 aa.B17=true:=by kernel_rfl
def aa.T23:Bool×List (List Nat×List Nat):=(true,[([],[]),([],[]),([],[]),([],[]),([3],[3]),([],[]),([],[]),([6],[6]),([5,7],[5,7]),([8],[8]),([],[]),([],[]),([10,11],[10,11]),([12],[12]),([0,1,0,1,5,6,7,8,9,13],[0,1]),([14,9,0,1,5,6,7,8,9,13],[9,14]),([2,4,0,1,2,3,4,5,6,7,8,9,10,11,12,13,14,15],[2,4]),([16,13,15,0,1,2,3,4,5,6,7,8,9,10,11,12,13,14,15],[13,16])])
def aa.B23:List Nat:=[0,0,0,0,8,0,0,64,224,480,0,0,3072,7168,16355,32739,65535,131071]
theorem aa.aal:gz .any (opsOf Tryz.f136 23)=aa.T23:=by kernel_rfl
theorem aa.Yi:dZ aa.T23.2 aa.B23=true:=by kernel_rfl
def aa.T35:Bool×List (List Nat×List Nat):=(true,[([],[]),([],[]),([],[]),([],[]),([2,3],[2,3]),([1,4],[1,4]),([5],[5]),([],[]),([],[]),([7,8],[7,8]),([9],[9]),([0,6,10],[0,6,10]),([11],[11]),([12],[12])])
def aa.B35:List Nat:=[0,0,0,0,12,30,62,0,0,384,896,2047,4095,8191]
theorem aa.Tj:gz .any (opsOf Tryz.f136 35)=aa.T35:=by kernel_rfl
theorem aa.O6:dZ aa.T35.2 aa.B35=true:=by kernel_rfl
theorem aa.calls (k:Nat):∀(iZ:Nat→Prop) (eF:Value) (l0:List ByteArray) (a1:Int) (a2:Int) (a3:Int) (r:List ByteArray) (w0 w:World) (hB:Below w0.heap.size w0 w) (xh:Kd.R Kd.string 9 w w0.heap.size iZ eF l0) (h:aa.f k l0 a1 a2 a3=some r),
  Calls Tryz.prog 136 #[eF,.int .i64 a1,.int .i64 a2,.int .i64 a3,.func (.func 107) #[] #[]] w fun e w'=>e= .returned (.tuple #[])∧Kd.R Kd.string 9 w' w0.heap.size (fun k_=>(iZ k_∨w.heap.size≤k_)) eF r∧Below w0.heap.size w0 w'∧Kept w w' (fun k_=>iZ k_):=by
 induction k using Nat.strongRecOn with
 |_ k ih=>
 intro iZ eF l0 a1 a2 a3 r w0 w hB xh h
 cases k with
 |zero=>exact absurd h (by simp [aa.f])
 |succ k=>
 simp only [aa.f] at h
 have DS:=ak (show Kd.R Kd.string 9 w w0.heap.size (fun k_=>(iZ k_∨w.heap.size≤k_)) eF l0 from Kd.bJ xh (fun k_ hk=>(.inl hk)))
 have HK:=ak (Kept.refl w (fun k_=>iZ k_))
 have JW:=ak hB.size
 have HB:=ak hB;clear hB
 have H:(if (wrap64 (a2-a1))=1 then (aa.l0 k l0 a1 a2 a3) else (if (wrap64 (a3-a2))=1 then (aa.l2 k l0 a2 a1 a2) else (if a2>(wrap64 ((IntKind.u64.wrap (wrap64 (a1+a3)))/2)) then (aa.j4 k l0 a1 a2 a3 (wrap64 ((IntKind.u64.wrap (wrap64 (a1+a3)))/2)) (wrap64 ((wrap64 ((IntKind.u64.wrap (wrap64 (a1+a3)))/2))+a2)) (wrap64 ((wrap64 ((wrap64 ((IntKind.u64.wrap (wrap64 (a1+a3)))/2))+a2))-a3)) (wrap64 ((IntKind.u64.wrap (wrap64 (a1+a3)))/2))) else (aa.j4 k l0 a1 a2 a3 (wrap64 ((IntKind.u64.wrap (wrap64 (a1+a3)))/2)) (wrap64 ((wrap64 ((IntKind.u64.wrap (wrap64 (a1+a3)))/2))+a2)) a1 a2))))=some r:=h
 clear h
 by_cases c6:(wrap64 (a2-a1))=1
 ·rw [if_pos c6] at H
  have kO:=lO c6
  have vS:=mR c6
  clear c6
  have H':=ak H
  clear H
  go_enter Tryz.func136,Tryz.ntmps136
  go_wp2
  go_loopg [10,11] k (fun kq v10 v11 w'=>∃(fE:Int) (fW:Int),v10= .int .i64 fE∧v11= .int .i64 fW∧Aside0 (aa.l0 kq l0 a1 fE fW=some r)∧Aside0 (kq≤k)∧Aside0 (Kd.R Kd.string 9 w' w0.heap.size (fun k_=>(iZ k_∨w.heap.size≤k_)) eF l0)∧Aside0 (Kept w w' (fun k_=>iZ k_))∧Aside0 (Below w0.heap.size w0 w'))
  case atStart=>exact ⟨(a2),(a3),er,er,H',⟨Nat.le_refl _⟩,⟨dH DS⟩,⟨lI HK⟩,⟨aq HB⟩⟩
  case round=>as_aux_lemma=>
   clear H'
   (try clear kO);(try clear vS)
   obtain ⟨fE,fW,rfl,rfl,HA,gf,bH,HK,HB⟩:=hrel
   cases gk with
   |zero=>exact absurd HA.out (by simp [aa.l0])
   |succ k1=>
    have H:=HA.out;clear HA
    simp only [aa.l0] at H
    by_cases c7:fE<fW
    ·rw [if_pos c7] at H
     have tw:=decide_eq_true c7
     clear c7
     obtain ⟨D1,G5⟩:∃j_:Int,(wrap64 ((IntKind.u64.wrap (wrap64 (fE+fW)))/2))=j_:=⟨_,rfl⟩
     replace H:(if 0≤(D1) then (if (D1)<(l0.length:Int) then (if 0≤a1 then (if a1<(l0.length:Int) then ((cC.f (aQ ByteArray.empty l0 (D1)) (aQ ByteArray.empty l0 a1)).bind fun F2=>(if F2<0 then (aa.l0 k1 l0 a1 (wrap64 ((D1)+1)) fW) else (aa.l0 k1 l0 a1 fE D1))) else (none)) else (none)) else (none)) else (none))=some r:=by first|(rw [G5] at H;exact H)|(simp only [G5] at H⊢;exact H)
     have aim:(IntKind.i64.wrap ((IntKind.u64.wrap (wrap64 (fE+fW)))/2))=D1:=(bW _).trans G5
     replace H:=dy H;obtain ⟨c9,H⟩:=H;have mg:=decide_eq_true c9;clear c9;replace H:=dy H;obtain ⟨gW,H⟩:=H;have kY:=decide_eq_true gW;clear gW;replace H:=dy H;obtain ⟨mY,H⟩:=H;have nM:=decide_eq_true mY;clear mY;replace H:=dy H;obtain ⟨nW,H⟩:=H;have sN:=decide_eq_true nW;clear nW;replace H:=bS H;obtain ⟨F2,sn,H⟩:=H
     by_cases oI:F2<0
     ·rw [if_pos oI] at H
      have JL:=decide_eq_true oI
      clear oI
      have H':=ak H
      clear H
      try go_wp2
      replace bH:=ak (Kd.cD bH.out)
      replace HK:=ak (Kept.drew HK.out)
      replace HB:=ak (cO HB.out)
      obtain ⟨Tc,OL,xo⟩:=Kd.de bH.out
      (first|subst xo|(injection xo with sL AK sK;have AJ:=sL.symm;have AH:=sK.symm;clear sL AK sK;subst AJ;subst AH))
      obtain ⟨afM,afw,zP,XA,uj⟩:=ng (Kd.bq (Kd.aJ bH.out).2.2 (D1))
      cases XA
      obtain ⟨afL,afv,Pg,Xz,uh⟩:=ng (Kd.bq (Kd.aJ bH.out).2.2 a1)
      obtain rfl:zP=Pg:=(by injection Xz)
      refine dV (n:=11) (S:=fun w'=>w'.cell? (zP.add ((D1)).toNat)=some (.string (aQ ByteArray.empty l0 (D1)))∧w'.cell? (zP.add (a1).toNat)=some (.string (aQ ByteArray.empty l0 a1))) (ds:=[]) (bl 11 0) (by kernel_rfl) rfl rfl ⟨uj,uh⟩ (fun ah=> ?_);refine bZ aa.At aa.sO (fun aA ef=> ?_)
      generalize wr.drew=Ti at bH HK HB uj uh ah⊢
      refine ag 0 (some 40) 11 1 aA ?_
      refine ag 1 (some 41) 11 3 aA ?_
      refine ag 2 (some 42) 11 7 aA ?_
      refine ag 3 (some 43) 11 15 aA ?_
      refine ag 5 (some 45) 11 47 aA ?_
      refine ag 6 (some 46) 11 111 aA ?_
      refine ag 7 (some 47) 11 239 aA ?_
      refine cg 4 (some 44) 11 255 aA ef ah ?_ (hy:=by rintro w' ⟨s0,s1⟩;go_simp;with_reducible rfl)
      refine cg 8 (some 48) 11 511 aA ef ah ?_ (hy:=by rintro w' ⟨s0,s1⟩;go_simp;with_reducible rfl)
      refine fJ 9 (some 49) 11 1023 aA (fun K hK=> ?_)
      refine ox Tryz.func107 (by kernel_rfl) rfl #[.string (aQ ByteArray.empty l0 (D1)),.string (aQ ByteArray.empty l0 a1)] (by rfl) rfl rfl rfl (by (try simp only [List.map_toArray,List.map_cons,List.map_nil]);first|done|(simp only [G5];rfl)|rfl|(simp only [List.length_drop,List.length_take];rfl)) ?_
      with_reducible refine (cC.calls (aQ ByteArray.empty l0 (D1)) (aQ ByteArray.empty l0 a1) F2 _ sn.out).mono ?_
      rintro e w' ⟨rfl,⟨nd,rfl⟩⟩
      refine ⟨_,rfl,?_⟩
      refine hK.out _ _ ⟨ah.1,ah.2⟩ (fun ah=> ?_)
      clear hK K
      refine cM (a':= ?_) ?_ ?_
      rotate_left
      ·show Act.put _ (some 49) _=_
       simp only [Act.put,List.setIfInBounds_toArray,List.set_cons_zero,List.set_cons_succ,bW,cA]
       rfl
      refine ag 10 (some 50) 11 2047 aA ?_
      refine eZ (cV aA.out (by kernel_rfl)) ?_
      try go_wp2
      go_roundg k1
      case measure=>have:=gf.out;omega
      case rel=>exact ⟨(wrap64 ((D1)+1)),(fW),(by first|rfl|(simp;done)|(simp only [←G5]<;>(first|rfl|simp))|(simp [*];done)),er,H',⟨by have:=gf.out;omega⟩,⟨dH bH⟩,⟨lI HK⟩,⟨aq HB⟩⟩
     ·rw [if_neg oI] at H
      have JL:=decide_eq_false oI
      clear oI
      have H':=ak H
      clear H
      try go_wp2
      replace bH:=ak (Kd.cD bH.out)
      replace HK:=ak (Kept.drew HK.out)
      replace HB:=ak (cO HB.out)
      obtain ⟨xA,xq,uH⟩:=Kd.de bH.out
      (first|subst uH|(injection uH with sL AK sK;have AJ:=sL.symm;have AH:=sK.symm;clear sL AK sK;subst AJ;subst AH))
      obtain ⟨afM,afw,zP,XA,uj⟩:=ng (Kd.bq (Kd.aJ bH.out).2.2 (D1))
      cases XA
      obtain ⟨afL,afv,Pg,Xz,uh⟩:=ng (Kd.bq (Kd.aJ bH.out).2.2 a1)
      obtain rfl:zP=Pg:=(by injection Xz)
      refine dV (n:=11) (S:=fun w'=>w'.cell? (zP.add ((D1)).toNat)=some (.string (aQ ByteArray.empty l0 (D1)))∧w'.cell? (zP.add (a1).toNat)=some (.string (aQ ByteArray.empty l0 a1))) (ds:=[]) (bl 11 0) (by kernel_rfl) rfl rfl ⟨uj,uh⟩ (fun ah=> ?_);refine bZ aa.At aa.sO (fun aA ef=> ?_)
      generalize wr.drew=L6 at bH HK HB uj uh ah⊢
      refine ag 0 (some 40) 11 1 aA ?_
      refine ag 1 (some 41) 11 3 aA ?_
      refine ag 2 (some 42) 11 7 aA ?_
      refine ag 3 (some 43) 11 15 aA ?_
      refine ag 5 (some 45) 11 47 aA ?_
      refine ag 6 (some 46) 11 111 aA ?_
      refine ag 7 (some 47) 11 239 aA ?_
      refine cg 4 (some 44) 11 255 aA ef ah ?_ (hy:=by rintro w' ⟨s0,s1⟩;go_simp;with_reducible rfl)
      refine cg 8 (some 48) 11 511 aA ef ah ?_ (hy:=by rintro w' ⟨s0,s1⟩;go_simp;with_reducible rfl)
      refine fJ 9 (some 49) 11 1023 aA (fun K hK=> ?_)
      refine ox Tryz.func107 (by kernel_rfl) rfl #[.string (aQ ByteArray.empty l0 (D1)),.string (aQ ByteArray.empty l0 a1)] (by rfl) rfl rfl rfl (by (try simp only [List.map_toArray,List.map_cons,List.map_nil]);first|done|(simp only [G5];rfl)|rfl|(simp only [List.length_drop,List.length_take];rfl)) ?_
      with_reducible refine (cC.calls (aQ ByteArray.empty l0 (D1)) (aQ ByteArray.empty l0 a1) F2 _ sn.out).mono ?_
      rintro e w' ⟨rfl,⟨nd,rfl⟩⟩
      refine ⟨_,rfl,?_⟩
      refine hK.out _ _ ⟨ah.1,ah.2⟩ (fun ah=> ?_)
      clear hK K
      refine cM (a':= ?_) ?_ ?_
      rotate_left
      ·show Act.put _ (some 49) _=_
       simp only [Act.put,List.setIfInBounds_toArray,List.set_cons_zero,List.set_cons_succ,bW,cA]
       rfl
      refine ag 10 (some 50) 11 2047 aA ?_
      refine eZ (cV aA.out (by kernel_rfl)) ?_
      try go_wp2
      go_roundg k1
      case measure=>have:=gf.out;omega
      case rel=>exact ⟨(fE),(D1),er,(by first|rfl|(simp;done)|(simp only [←G5]<;>(first|rfl|simp))|(simp [*];done)),H',⟨by have:=gf.out;omega⟩,⟨dH bH⟩,⟨lI HK⟩,⟨aq HB⟩⟩
    ·rw [if_neg c7] at H
     have tw:=decide_eq_false c7
     clear c7
     have H':=ak H
     clear H;go_wp2
     go_loopg [13] k1 (fun kq QB w'=>∃(eV:List ByteArray) (kW:Int),QB= .int .i64 kW∧Aside0 (aa.l1 kq eV fE kW=some r)∧Aside0 (kq≤k1)∧Aside0 (Kd.R Kd.string 9 w' w0.heap.size (fun k_=>(iZ k_∨w.heap.size≤k_)) eF eV)∧Aside0 (Kept w w' (fun k_=>iZ k_))∧Aside0 (Below w0.heap.size w0 w'))
     case atStart=>exact ⟨(l0),(a1),er,H',⟨Nat.le_refl _⟩,⟨dH bH⟩,⟨lI HK⟩,⟨aq HB⟩⟩
     case round=>as_aux_lemma=>
      clear H'
      (try clear tw)
      obtain ⟨eV,kW,rfl,HA,kg,bH,HK,HB⟩:=hrel
      cases gk with
      |zero=>exact absurd HA.out (by simp [aa.l1])
      |succ k2=>
       have H:=HA.out;clear HA
       simp only [aa.l1] at H
       by_cases LJ:kW<(wrap64 (fE-1))
       ·rw [if_pos LJ] at H
        have O0:=decide_eq_true LJ
        clear LJ
        obtain ⟨oG,Jn⟩:∃j_:Int,(wrap64 (kW+1))=j_:=⟨_,rfl⟩
        replace H:(if 0≤(oG) then (if (oG)<(eV.length:Int) then (if 0≤kW then (if kW<(eV.length:Int) then (aa.l1 k2 ((eV.set (kW:Int).toNat (aQ ByteArray.empty eV (oG))).set ((oG):Int).toNat (aQ ByteArray.empty eV kW)) fE oG) else (none)) else (none)) else (none)) else (none))=some r:=by first|(rw [Jn] at H;exact H)|(simp only [Jn] at H⊢;exact H)
        have agb:(IntKind.i64.wrap (kW+1))=oG:=(bW _).trans Jn
        replace H:=dy H;obtain ⟨H7,H⟩:=H;have BJ:=decide_eq_true H7;clear H7;replace H:=dy H;obtain ⟨DH,H⟩:=H;have sM:=decide_eq_true DH;clear DH;replace H:=dy H;obtain ⟨H6,H⟩:=H;have OY:=decide_eq_true H6;clear H6;replace H:=dy H;obtain ⟨ZD,H⟩:=H;have Ug:=decide_eq_true ZD;clear ZD
        obtain ⟨ZU,ez⟩:∃y_:List ByteArray,y_=(eV.set (kW:Int).toNat (aQ ByteArray.empty eV (oG))):=⟨_,rfl⟩
        replace H:(aa.l1 k2 (ZU.set ((oG):Int).toNat (aQ ByteArray.empty eV kW)) fE oG)=some r:=yH
        have adi:=ak ez;clear ez
        obtain ⟨ZT,ez⟩:∃y_:List ByteArray,y_=(ZU.set ((oG):Int).toNat (aQ ByteArray.empty eV kW)):=⟨_,rfl⟩
        replace H:(aa.l1 k2 ZT fE oG)=some r:=yH
        have adh:=ak ez;clear ez
        have H':=ak H
        clear H
        try go_wp2
        replace bH:=ak (Kd.cD bH.out)
        replace HK:=ak (Kept.drew HK.out)
        replace HB:=ak (cO HB.out)
        obtain ⟨aku,akc,abB⟩:=Kd.de bH.out
        (first|subst abB|(injection abB with sL AK sK;have AJ:=sL.symm;have AH:=sK.symm;clear sL AK sK;subst AJ;subst AH))
        obtain ⟨ajN,ajB,acC,ag5,CO⟩:=ng (Kd.bq (Kd.aJ bH.out).2.2 (oG))
        cases ag5
        obtain ⟨ajM,ajA,acB,ag4,CN⟩:=ng (Kd.bq (Kd.aJ bH.out).2.2 kW)
        obtain rfl:acC=acB:=(by injection ag4)
        have p25:0≤(kW:Int):=da
        have q25:(kW:Int)<((eV.length:Int):Int):=da
        obtain ⟨Ln,akd,abC,abm,agB,akh,ad2⟩:=Kd.zS bH.out (by omega)
        (first|cases abC|(injection abC with xR Mc Sr;(first|subst xR|(injection xR with xR;subst xR));subst Sr;clear Mc))
        have ad9:=Aside0.mk abm;have ahO:=ak ad2;clear abm agB ad2
        have P7:=ak (show (iZ Ln∨w.heap.size≤Ln) from (bH.out.1 _ rfl))
        (first|simp only [add_plain] at CO|skip)
        (first|simp only [add_plain] at CN|skip)
        obtain ⟨Wm,WZ⟩:=Kd.nw (⟨#[]⟩:ByteArray) bH.out (kW:Int) p25 q25
        replace p25:=eq_true p25;replace q25:=eq_true q25
        have YH:=Kd.qb bH.out (kW:Int) (aQ ByteArray.empty eV (oG))
        rw [←adi.out] at YH
        have YB:=ak YH;clear YH
        have p26:0≤((oG):Int):=da
        have q26:((oG):Int)<((eV.length:Int):Int):=da
        obtain ⟨Wl,WY⟩:=Kd.nw (⟨#[]⟩:ByteArray) YB.out ((oG):Int) p26 q26
        replace p26:=eq_true p26;replace q26:=eq_true q26
        have YG:=Kd.qb YB.out ((oG):Int) (aQ ByteArray.empty eV kW)
        rw [←adh.out] at YG
        have adJ:=ak YG;clear YG
        refine dV (n:=18) (S:=fun w'=>w'.cell? ⟨Ln,((oG)).toNat,none⟩=some (.string (aQ ByteArray.empty eV (oG)))∧w'.cell? ⟨Ln,(kW).toNat,none⟩=some (.string (aQ ByteArray.empty eV kW))) (ds:=[15,17]) (bl 18 0) (by kernel_rfl) rfl rfl ⟨CO,CN⟩ (fun ah=> ?_);refine bZ aa.Mw aa.Ie (fun aA ef=> ?_)
        generalize wr.drew=w27 at bH HK HB ahO YB adJ WZ WY Wm Wl CO CN ah⊢
        refine ag 0 (some 61) 18 1 aA ?_
        refine ag 1 (some 62) 18 3 aA ?_
        refine ag 2 (some 63) 18 7 aA ?_
        refine ag 3 (some 64) 18 15 aA ?_
        refine ag 4 (some 65) 18 31 aA ?_
        refine ag 5 (some 66) 18 63 aA ?_
        refine ag 6 (some 67) 18 127 aA ?_
        refine ag 7 (some 68) 18 255 aA ?_
        refine ag 8 (some 69) 18 511 aA ?_
        refine ag 10 (some 71) 18 1535 aA ?_
        refine ag 11 (some 72) 18 3583 aA ?_
        refine ag 12 (some 73) 18 7679 aA ?_
        refine cg 9 (some 70) 18 8191 aA ef ah ?_ (hy:=by rintro w' ⟨s0,s1⟩;go_simp;with_reducible rfl)
        refine cg 13 (some 74) 18 16383 aA ef ah ?_ (hy:=by rintro w' ⟨s0,s1⟩;go_simp;with_reducible rfl)
        refine ag 14 (some 75) 18 32767 aA ?_
        refine lH (i:=15) (N:=none) (bl 18 65535) rfl rfl (jd aA.out (by kernel_rfl)) (by decide) (fun K hK=> ?_)
        refine jV (w1:= ?_) (by rfl) rfl ?_ ?_
        rotate_left
        ·go_simp
         rfl
        refine hK.out _ _ ?_
        clear hK K
        refine ag 16 (some 76) 18 131071 aA ?_
        refine lH (i:=17) (N:=none) (bl 18 262143) rfl rfl (jd aA.out (by kernel_rfl)) (by decide) (fun K hK=> ?_)
        refine jV (w1:= ?_) (by rfl) rfl ?_ ?_
        rotate_left
        ·go_simp
         rfl
        refine hK.out _ _ ?_
        clear hK K
        refine eZ (cV aA.out (by kernel_rfl)) ?_
        try go_wp2
        (first|go_roundg k2|((try rw [←add_plain Ln ((oG):Int).toNat]);(try rw [←add_plain Ln (kW:Int).toNat]);go_roundg k2))
        case measure=>have:=gf.out;have:=kg.out;omega
        case rel=>exact ⟨(ZT),(oG),(by first|rfl|(simp;done)|(simp only [←Jn]<;>(first|rfl|simp))|(simp [*];done)),H',⟨by have:=gf.out;have:=kg.out;omega⟩,⟨dH adJ⟩,⟨by repeat (first|(with_reducible first|exact HK.out|apply Kept.alloc|apply Kept.drewN|apply Kept.drew|refine Kept.setCell ?_ P7.out _|refine Kept.setCell ?_ P7.out _)|exact HK.out)⟩,⟨by repeat (first|(with_reducible first|exact HB.out|apply dQ|apply ek|apply cO|refine ew ?_ ad9.out|refine ew ?_ ad9.out)|exact HB.out)⟩⟩
       ·rw [if_neg LJ] at H
        have O0:=decide_eq_false LJ
        clear LJ
        obtain rfl:=Option.some.inj H
        go_wp2
        first|go_end0|((try simp only [Exit.inBlock,Exit.then]);refine bodyPost_ret (results_none rfl _ _ _) rfl ?_)
        exact ⟨kK,by (with_reducible repeat (first|apply Kd.cz|apply Kd.cy|apply Kd.cD));exact bH.out,aq HB,lI HK⟩
 ·rw [if_neg c6] at H
  have kO:=lq c6
  have vS:=mj c6
  by_cases zv:(wrap64 (a3-a2))=1
  ·rw [if_pos zv] at H
   have wN:=lO zv
   have JJ:=mR zv
   clear zv
   have H':=ak H
   clear H
   go_enter Tryz.func136,Tryz.ntmps136
   go_wp2
   go_loopg [14,15] k (fun kq v14 v15 w'=>∃(oM:Int) (nc:Int),v14= .int .i64 oM∧v15= .int .i64 nc∧Aside0 (aa.l2 kq l0 a2 oM nc=some r)∧Aside0 (kq≤k)∧Aside0 (Kd.R Kd.string 9 w' w0.heap.size (fun k_=>(iZ k_∨w.heap.size≤k_)) eF l0)∧Aside0 (Kept w w' (fun k_=>iZ k_))∧Aside0 (Below w0.heap.size w0 w'))
   case atStart=>exact ⟨(a1),(a2),er,er,H',⟨Nat.le_refl _⟩,⟨dH DS⟩,⟨lI HK⟩,⟨aq HB⟩⟩
   case round=>as_aux_lemma=>
    clear H'
    (try clear c6);(try clear kO);(try clear vS);(try clear wN);(try clear JJ)
    obtain ⟨oM,nc,rfl,rfl,HA,gf,bH,HK,HB⟩:=hrel
    cases gk with
    |zero=>exact absurd HA.out (by simp [aa.l2])
    |succ k1=>
     have H:=HA.out;clear HA
     simp only [aa.l2] at H
     by_cases HZ:oM<nc
     ·rw [if_pos HZ] at H
      have BG:=decide_eq_true HZ
      clear HZ;replace H:=dy H;obtain ⟨OU,H⟩:=H;have Uf:=decide_eq_true OU;clear OU;replace H:=dy H;obtain ⟨Ue,H⟩:=H;have Ud:=decide_eq_true Ue;clear Ue
      obtain ⟨qy,y8⟩:∃j_:Int,(wrap64 ((IntKind.u64.wrap (wrap64 (oM+nc)))/2))=j_:=⟨_,rfl⟩
      replace H:(if 0≤(qy) then (if (qy)<(l0.length:Int) then ((cC.f (aQ ByteArray.empty l0 a2) (aQ ByteArray.empty l0 (qy))).bind fun F1=>(if F1<0 then (aa.l2 k1 l0 a2 oM qy) else (aa.l2 k1 l0 a2 (wrap64 ((qy)+1)) nc))) else (none)) else (none))=some r:=by first|(rw [y8] at H;exact H)|(simp only [y8] at H⊢;exact H)
      have aga:(IntKind.i64.wrap ((IntKind.u64.wrap (wrap64 (oM+nc)))/2))=qy:=(bW _).trans y8
      replace H:=dy H;obtain ⟨Mf,H⟩:=H;have aiz:=decide_eq_true Mf;clear Mf;replace H:=dy H;obtain ⟨c37,H⟩:=H;have aiy:=decide_eq_true c37;clear c37;replace H:=bS H;obtain ⟨F1,A38,H⟩:=H
      by_cases ZC:F1<0
      ·rw [if_pos ZC] at H
       have ab4:=decide_eq_true ZC
       clear ZC
       have H':=ak H
       clear H
       try go_wp2
       replace bH:=ak (Kd.cD bH.out)
       replace HK:=ak (Kept.drew HK.out)
       replace HB:=ak (cO HB.out)
       obtain ⟨akr,aka,abA⟩:=Kd.de bH.out
       (first|subst abA|(injection abA with sL AK sK;have AJ:=sL.symm;have AH:=sK.symm;clear sL AK sK;subst AJ;subst AH))
       obtain ⟨afK,afu,zO,Xy,ug⟩:=ng (Kd.bq (Kd.aJ bH.out).2.2 a2)
       cases Xy
       obtain ⟨afJ,aft,Pf,Xx,uf⟩:=ng (Kd.bq (Kd.aJ bH.out).2.2 (qy))
       obtain rfl:zO=Pf:=(by injection Xx)
       refine dV (n:=12) (S:=fun w'=>w'.cell? (zO.add (a2).toNat)=some (.string (aQ ByteArray.empty l0 a2))∧w'.cell? (zO.add ((qy)).toNat)=some (.string (aQ ByteArray.empty l0 (qy)))) (ds:=[]) (bl 12 0) (by kernel_rfl) rfl rfl ⟨ug,uf⟩ (fun ah=> ?_);refine bZ aa.Tk aa.O7 (fun aA ef=> ?_)
       generalize wr.drew=w40 at bH HK HB ug uf ah⊢
       refine ag 0 (some 92) 12 1 aA ?_
       refine ag 1 (some 93) 12 3 aA ?_
       refine ag 2 (some 94) 12 7 aA ?_
       refine ag 3 (some 95) 12 15 aA ?_
       refine ag 5 (some 97) 12 47 aA ?_
       refine ag 6 (some 98) 12 111 aA ?_
       refine ag 7 (some 99) 12 239 aA ?_
       refine cg 4 (some 96) 12 255 aA ef ah ?_ (hy:=by rintro w' ⟨s0,s1⟩;go_simp;with_reducible rfl)
       refine cg 8 (some 100) 12 511 aA ef ah ?_ (hy:=by rintro w' ⟨s0,s1⟩;go_simp;with_reducible rfl)
       refine fJ 9 (some 101) 12 1023 aA (fun K hK=> ?_)
       refine ox Tryz.func107 (by kernel_rfl) rfl #[.string (aQ ByteArray.empty l0 a2),.string (aQ ByteArray.empty l0 (qy))] (by rfl) rfl rfl rfl (by (try simp only [List.map_toArray,List.map_cons,List.map_nil]);first|done|(simp only [y8];rfl)|rfl|(simp only [List.length_drop,List.length_take];rfl)) ?_
       with_reducible refine (cC.calls (aQ ByteArray.empty l0 a2) (aQ ByteArray.empty l0 (qy)) F1 _ A38.out).mono ?_
       rintro e w' ⟨rfl,⟨nd,rfl⟩⟩
       refine ⟨_,rfl,?_⟩
       refine hK.out _ _ ⟨ah.1,ah.2⟩ (fun ah=> ?_)
       clear hK K
       refine cM (a':= ?_) ?_ ?_
       rotate_left
       ·show Act.put _ (some 101) _=_
        simp only [Act.put,List.setIfInBounds_toArray,List.set_cons_zero,List.set_cons_succ,bW,cA]
        rfl
       refine ag 10 (some 102) 12 2047 aA ?_
       refine ag 11 (some 103) 12 4095 aA ?_
       refine eZ (cV aA.out (by kernel_rfl)) ?_
       try go_wp2
       go_roundg k1
       case measure=>have:=gf.out;omega
       case rel=>exact ⟨(oM),(qy),er,(by first|rfl|(simp;done)|(simp only [←y8]<;>(first|rfl|simp))|(simp [*];done)),H',⟨by have:=gf.out;omega⟩,⟨dH bH⟩,⟨lI HK⟩,⟨aq HB⟩⟩
      ·rw [if_neg ZC] at H
       have ab4:=decide_eq_false ZC
       clear ZC
       have H':=ak H
       clear H
       try go_wp2
       replace bH:=ak (Kd.cD bH.out)
       replace HK:=ak (Kept.drew HK.out)
       replace HB:=ak (cO HB.out)
       obtain ⟨akq,aj9,abz⟩:=Kd.de bH.out
       (first|subst abz|(injection abz with sL AK sK;have AJ:=sL.symm;have AH:=sK.symm;clear sL AK sK;subst AJ;subst AH))
       obtain ⟨afK,afu,zO,Xy,ug⟩:=ng (Kd.bq (Kd.aJ bH.out).2.2 a2)
       cases Xy
       obtain ⟨afJ,aft,Pf,Xx,uf⟩:=ng (Kd.bq (Kd.aJ bH.out).2.2 (qy))
       obtain rfl:zO=Pf:=(by injection Xx)
       refine dV (n:=12) (S:=fun w'=>w'.cell? (zO.add (a2).toNat)=some (.string (aQ ByteArray.empty l0 a2))∧w'.cell? (zO.add ((qy)).toNat)=some (.string (aQ ByteArray.empty l0 (qy)))) (ds:=[]) (bl 12 0) (by kernel_rfl) rfl rfl ⟨ug,uf⟩ (fun ah=> ?_);refine bZ aa.Tk aa.O7 (fun aA ef=> ?_)
       generalize wr.drew=w42 at bH HK HB ug uf ah⊢
       refine ag 0 (some 92) 12 1 aA ?_
       refine ag 1 (some 93) 12 3 aA ?_
       refine ag 2 (some 94) 12 7 aA ?_
       refine ag 3 (some 95) 12 15 aA ?_
       refine ag 5 (some 97) 12 47 aA ?_
       refine ag 6 (some 98) 12 111 aA ?_
       refine ag 7 (some 99) 12 239 aA ?_
       refine cg 4 (some 96) 12 255 aA ef ah ?_ (hy:=by rintro w' ⟨s0,s1⟩;go_simp;with_reducible rfl)
       refine cg 8 (some 100) 12 511 aA ef ah ?_ (hy:=by rintro w' ⟨s0,s1⟩;go_simp;with_reducible rfl)
       refine fJ 9 (some 101) 12 1023 aA (fun K hK=> ?_)
       refine ox Tryz.func107 (by kernel_rfl) rfl #[.string (aQ ByteArray.empty l0 a2),.string (aQ ByteArray.empty l0 (qy))] (by rfl) rfl rfl rfl (by (try simp only [List.map_toArray,List.map_cons,List.map_nil]);first|done|(simp only [y8];rfl)|rfl|(simp only [List.length_drop,List.length_take];rfl)) ?_
       with_reducible refine (cC.calls (aQ ByteArray.empty l0 a2) (aQ ByteArray.empty l0 (qy)) F1 _ A38.out).mono ?_
       rintro e w' ⟨rfl,⟨nd,rfl⟩⟩
       refine ⟨_,rfl,?_⟩
       refine hK.out _ _ ⟨ah.1,ah.2⟩ (fun ah=> ?_)
       clear hK K
       refine cM (a':= ?_) ?_ ?_
       rotate_left
       ·show Act.put _ (some 101) _=_
        simp only [Act.put,List.setIfInBounds_toArray,List.set_cons_zero,List.set_cons_succ,bW,cA]
        rfl
       refine ag 10 (some 102) 12 2047 aA ?_
       refine ag 11 (some 103) 12 4095 aA ?_
       refine eZ (cV aA.out (by kernel_rfl)) ?_
       try go_wp2
       go_roundg k1
       case measure=>have:=gf.out;omega
       case rel=>exact ⟨(wrap64 ((qy)+1)),(nc),(by first|rfl|(simp;done)|(simp only [←y8]<;>(first|rfl|simp))|(simp [*];done)),er,H',⟨by have:=gf.out;omega⟩,⟨dH bH⟩,⟨lI HK⟩,⟨aq HB⟩⟩
     ·rw [if_neg HZ] at H
      have BG:=decide_eq_false HZ
      clear HZ
      have H':=ak H
      clear H;go_wp2
      go_loopg [17] k1 (fun kq v17 w'=>∃(eV:List ByteArray) (kU:Int),v17= .int .i64 kU∧Aside0 (aa.l3 kq eV oM kU=some r)∧Aside0 (kq≤k1)∧Aside0 (Kd.R Kd.string 9 w' w0.heap.size (fun k_=>(iZ k_∨w.heap.size≤k_)) eF eV)∧Aside0 (Kept w w' (fun k_=>iZ k_))∧Aside0 (Below w0.heap.size w0 w'))
      case atStart=>exact ⟨(l0),(a2),er,H',⟨Nat.le_refl _⟩,⟨dH bH⟩,⟨lI HK⟩,⟨aq HB⟩⟩
      case round=>as_aux_lemma=>
       clear H'
       (try clear BG)
       obtain ⟨eV,kU,rfl,HA,kg,bH,HK,HB⟩:=hrel
       cases gk with
       |zero=>exact absurd HA.out (by simp [aa.l3])
       |succ k2=>
        have H:=HA.out;clear HA
        simp only [aa.l3] at H
        by_cases Me:kU>oM
        ·rw [if_pos Me] at H
         have Ua:=Ma Me
         clear Me
         obtain ⟨oF,Jm⟩:∃j_:Int,(wrap64 (kU-1))=j_:=⟨_,rfl⟩
         replace H:(if 0≤(oF) then (if (oF)<(eV.length:Int) then (if 0≤kU then (if kU<(eV.length:Int) then (aa.l3 k2 ((eV.set (kU:Int).toNat (aQ ByteArray.empty eV (oF))).set ((oF):Int).toNat (aQ ByteArray.empty eV kU)) oM oF) else (none)) else (none)) else (none)) else (none))=some r:=by first|(rw [Jm] at H;exact H)|(simp only [Jm] at H⊢;exact H)
         have af9:(IntKind.i64.wrap (kU-1))=oF:=(bW _).trans Jm
         replace H:=dy H;obtain ⟨c46,H⟩:=H;have ab3:=decide_eq_true c46;clear c46;replace H:=dy H;obtain ⟨X9,H⟩:=H;have ab2:=decide_eq_true X9;clear X9;replace H:=dy H;obtain ⟨Md,H⟩:=H;have TZ:=decide_eq_true Md;clear Md;replace H:=dy H;obtain ⟨c49,H⟩:=H;have aiv:=decide_eq_true c49;clear c49
         obtain ⟨ZS,ez⟩:∃y_:List ByteArray,y_=(eV.set (kU:Int).toNat (aQ ByteArray.empty eV (oF))):=⟨_,rfl⟩
         replace H:(aa.l3 k2 (ZS.set ((oF):Int).toNat (aQ ByteArray.empty eV kU)) oM oF)=some r:=yH
         have adg:=ak ez;clear ez
         obtain ⟨ZR,ez⟩:∃y_:List ByteArray,y_=(ZS.set ((oF):Int).toNat (aQ ByteArray.empty eV kU)):=⟨_,rfl⟩
         replace H:(aa.l3 k2 ZR oM oF)=some r:=yH
         have adf:=ak ez;clear ez
         have H':=ak H
         clear H
         try go_wp2
         replace bH:=ak (Kd.cD bH.out)
         replace HK:=ak (Kept.drew HK.out)
         replace HB:=ak (cO HB.out)
         obtain ⟨ako,aj6,abx⟩:=Kd.de bH.out
         (first|subst abx|(injection abx with sL AK sK;have AJ:=sL.symm;have AH:=sK.symm;clear sL AK sK;subst AJ;subst AH))
         obtain ⟨ajL,ajz,acA,ag3,CL⟩:=ng (Kd.bq (Kd.aJ bH.out).2.2 (oF))
         cases ag3
         obtain ⟨ajK,ajy,acz,ag2,CK⟩:=ng (Kd.bq (Kd.aJ bH.out).2.2 kU)
         obtain rfl:acA=acz:=(by injection ag2)
         have p50:0≤(kU:Int):=da
         have q50:(kU:Int)<((eV.length:Int):Int):=da
         obtain ⟨Lm,aj7,aby,abi,agA,akg,ad1⟩:=Kd.zS bH.out (by omega)
         (first|cases aby|(injection aby with xR Mc Sr;(first|subst xR|(injection xR with xR;subst xR));subst Sr;clear Mc))
         have ad8:=Aside0.mk abi;have ahN:=ak ad1;clear abi agA ad1
         have P6:=ak (show (iZ Lm∨w.heap.size≤Lm) from (bH.out.1 _ rfl))
         (first|simp only [add_plain] at CL|skip)
         (first|simp only [add_plain] at CK|skip)
         obtain ⟨Wk,WX⟩:=Kd.nw (⟨#[]⟩:ByteArray) bH.out (kU:Int) p50 q50
         replace p50:=eq_true p50;replace q50:=eq_true q50
         have YF:=Kd.qb bH.out (kU:Int) (aQ ByteArray.empty eV (oF))
         rw [←adg.out] at YF
         have YA:=ak YF;clear YF
         have p51:0≤((oF):Int):=da
         have q51:((oF):Int)<((eV.length:Int):Int):=da
         obtain ⟨Wj,WW⟩:=Kd.nw (⟨#[]⟩:ByteArray) YA.out ((oF):Int) p51 q51
         replace p51:=eq_true p51;replace q51:=eq_true q51
         have YE:=Kd.qb YA.out ((oF):Int) (aQ ByteArray.empty eV kU)
         rw [←adf.out] at YE
         have adI:=ak YE;clear YE
         refine dV (n:=18) (S:=fun w'=>w'.cell? ⟨Lm,((oF)).toNat,none⟩=some (.string (aQ ByteArray.empty eV (oF)))∧w'.cell? ⟨Lm,(kU).toNat,none⟩=some (.string (aQ ByteArray.empty eV kU))) (ds:=[15,17]) (bl 18 0) (by kernel_rfl) rfl rfl ⟨CL,CK⟩ (fun ah=> ?_);refine bZ aa.aal aa.Yi (fun aA ef=> ?_)
         generalize wr.drew=w52 at bH HK HB ahN YA adI WX WW CL CK Wk Wj ah⊢
         refine ag 0 (some 113) 18 1 aA ?_
         refine ag 1 (some 114) 18 3 aA ?_
         refine ag 2 (some 115) 18 7 aA ?_
         refine ag 3 (some 116) 18 15 aA ?_
         refine ag 4 (some 117) 18 31 aA ?_
         refine ag 5 (some 118) 18 63 aA ?_
         refine ag 6 (some 119) 18 127 aA ?_
         refine ag 7 (some 120) 18 255 aA ?_
         refine ag 8 (some 121) 18 511 aA ?_
         refine ag 10 (some 123) 18 1535 aA ?_
         refine ag 11 (some 124) 18 3583 aA ?_
         refine ag 12 (some 125) 18 7679 aA ?_
         refine cg 9 (some 122) 18 8191 aA ef ah ?_ (hy:=by rintro w' ⟨s0,s1⟩;go_simp;with_reducible rfl)
         refine cg 13 (some 126) 18 16383 aA ef ah ?_ (hy:=by rintro w' ⟨s0,s1⟩;go_simp;with_reducible rfl)
         refine ag 14 (some 127) 18 32767 aA ?_
         refine lH (i:=15) (N:=none) (bl 18 65535) rfl rfl (jd aA.out (by kernel_rfl)) (by decide) (fun K hK=> ?_)
         refine jV (w1:= ?_) (by rfl) rfl ?_ ?_
         rotate_left
         ·go_simp
          rfl
         refine hK.out _ _ ?_
         clear hK K
         refine ag 16 (some 128) 18 131071 aA ?_
         refine lH (i:=17) (N:=none) (bl 18 262143) rfl rfl (jd aA.out (by kernel_rfl)) (by decide) (fun K hK=> ?_)
         refine jV (w1:= ?_) (by rfl) rfl ?_ ?_
         rotate_left
         ·go_simp
          rfl
         refine hK.out _ _ ?_
         clear hK K
         refine eZ (cV aA.out (by kernel_rfl)) ?_
         try go_wp2
         (first|go_roundg k2|((try rw [←add_plain Lm ((oF):Int).toNat]);(try rw [←add_plain Lm (kU:Int).toNat]);go_roundg k2))
         case measure=>have:=gf.out;have:=kg.out;omega
         case rel=>exact ⟨(ZR),(oF),(by first|rfl|(simp;done)|(simp only [←Jm]<;>(first|rfl|simp))|(simp [*];done)),H',⟨by have:=gf.out;have:=kg.out;omega⟩,⟨dH adI⟩,⟨by repeat (first|(with_reducible first|exact HK.out|apply Kept.alloc|apply Kept.drewN|apply Kept.drew|refine Kept.setCell ?_ P6.out _|refine Kept.setCell ?_ P6.out _)|exact HK.out)⟩,⟨by repeat (first|(with_reducible first|exact HB.out|apply dQ|apply ek|apply cO|refine ew ?_ ad8.out|refine ew ?_ ad8.out)|exact HB.out)⟩⟩
        ·rw [if_neg Me] at H
         have Ua:=Mb Me
         clear Me
         obtain rfl:=Option.some.inj H
         go_wp2
         first|go_end0|((try simp only [Exit.inBlock,Exit.then]);refine bodyPost_ret (results_none rfl _ _ _) rfl ?_)
         exact ⟨kK,by (with_reducible repeat (first|apply Kd.cz|apply Kd.cy|apply Kd.cD));exact bH.out,aq HB,lI HK⟩
  ·rw [if_neg zv] at H
   have wN:=lq zv
   have JJ:=mj zv
   have YO:=ak H;clear H
   go_enter Tryz.func136,Tryz.ntmps136
   go_upto_if 140 with (fail)
   go_cut [20,21] (fun v20 v21 wc=>∃(kq:Nat) (Cf:Int) (Ce:Int),v20= .int .i64 Cf∧v21= .int .i64 Ce∧Aside0 (aa.j4 kq l0 a1 a2 a3 (wrap64 ((IntKind.u64.wrap (wrap64 (a1+a3)))/2)) (wrap64 ((wrap64 ((IntKind.u64.wrap (wrap64 (a1+a3)))/2))+a2)) Cf Ce=some r)∧Aside0 (kq≤k)∧Aside0 (Kd.R Kd.string 9 wc w0.heap.size (fun k_=>(iZ k_∨w.heap.size≤k_)) eF l0)∧Aside0 (Kept w wc (fun k_=>iZ k_))∧Aside0 (Below w0.heap.size w0 wc))
   case first=>
    have H:=YO.out;clear YO
    by_cases ZB:a2>(wrap64 ((IntKind.u64.wrap (wrap64 (a1+a3)))/2))
    ·rw [if_pos ZB] at H
     have Fg:=Ma ZB
     clear ZB
     (first|rw [Fg]|(simp only [bW,cA];rw [Fg])|skip)
     have H':=ak H
     clear H;go_wp2
     go_meet
     case rel=>exact ⟨_,(wrap64 ((wrap64 ((wrap64 ((IntKind.u64.wrap (wrap64 (a1+a3)))/2))+a2))-a3)),(wrap64 ((IntKind.u64.wrap (wrap64 (a1+a3)))/2)),er,er,H',⟨by first|omega|exact Nat.le_refl _⟩,⟨dH DS⟩,⟨lI HK⟩,⟨aq HB⟩⟩
    ·rw [if_neg ZB] at H
     have Fg:=Mb ZB
     clear ZB
     (first|rw [Fg]|(simp only [bW,cA];rw [Fg])|skip)
     have H':=ak H
     clear H;go_wp2
     go_meet
     case rel=>exact ⟨_,(a1),(a2),er,er,H',⟨by first|omega|exact Nat.le_refl _⟩,⟨dH DS⟩,⟨lI HK⟩,⟨aq HB⟩⟩
   case rest=>as_aux_lemma=>
    clear YO;(try clear c6);(try clear kO);(try clear vS);(try clear zv);(try clear wN);(try clear JJ)
    obtain ⟨kq,Cf,Ce,rfl,rfl,HA,tE,bH,HK,HB⟩:=hcut
    cases kq with
    |zero=>exact absurd HA.out (by simp [aa.j4])
    |succ aaR=>
     have H:=HA.out;clear HA
     simp only [aa.j4] at H
     have H':=ak H
     clear H;go_wp2
     go_loopg [20,21] aaR (fun kq v20 v21 w'=>∃(eY:Int) (k7:Int),v20= .int .i64 eY∧v21= .int .i64 k7∧Aside0 (aa.l4 kq l0 a1 a2 a3 (wrap64 ((IntKind.u64.wrap (wrap64 (a1+a3)))/2)) (wrap64 ((wrap64 ((IntKind.u64.wrap (wrap64 (a1+a3)))/2))+a2)) eY k7 (wrap64 ((wrap64 ((wrap64 ((IntKind.u64.wrap (wrap64 (a1+a3)))/2))+a2))-1))=some r)∧Aside0 (kq≤aaR)∧Aside0 (Kd.R Kd.string 9 w' w0.heap.size (fun k_=>(iZ k_∨w.heap.size≤k_)) eF l0)∧Aside0 (Kept w w' (fun k_=>iZ k_))∧Aside0 (Below w0.heap.size w0 w'))
     case atStart=>exact ⟨(Cf),(Ce),er,er,H',⟨Nat.le_refl _⟩,⟨dH bH⟩,⟨lI HK⟩,⟨aq HB⟩⟩
     case round=>as_aux_lemma=>
      clear H'
      obtain ⟨eY,k7,rfl,rfl,HA,kg,bH,HK,HB⟩:=hrel
      cases gk with
      |zero=>exact absurd HA.out (by simp [aa.l4])
      |succ k2=>
       have H:=HA.out;clear HA
       simp only [aa.l4] at H
       by_cases LG:eY<k7
       ·rw [if_pos LG] at H
        have JG:=decide_eq_true LG
        clear LG
        obtain ⟨tq,Bx⟩:∃j_:Int,(wrap64 ((wrap64 ((wrap64 ((wrap64 ((IntKind.u64.wrap (wrap64 (a1+a3)))/2))+a2))-1))-(wrap64 ((IntKind.u64.wrap (wrap64 (eY+k7)))/2))))=j_:=⟨_,rfl⟩
        replace H:(if 0≤(tq) then (if (tq)<(l0.length:Int) then (if 0≤(wrap64 ((IntKind.u64.wrap (wrap64 (eY+k7)))/2)) then (if (wrap64 ((IntKind.u64.wrap (wrap64 (eY+k7)))/2))<(l0.length:Int) then ((cC.f (aQ ByteArray.empty l0 (tq)) (aQ ByteArray.empty l0 (wrap64 ((IntKind.u64.wrap (wrap64 (eY+k7)))/2)))).bind fun Ck=>(if Ck<0 then (aa.l4 k2 l0 a1 a2 a3 (wrap64 ((IntKind.u64.wrap (wrap64 (a1+a3)))/2)) (wrap64 ((wrap64 ((IntKind.u64.wrap (wrap64 (a1+a3)))/2))+a2)) eY (wrap64 ((IntKind.u64.wrap (wrap64 (eY+k7)))/2)) (wrap64 ((wrap64 ((wrap64 ((IntKind.u64.wrap (wrap64 (a1+a3)))/2))+a2))-1))) else (aa.l4 k2 l0 a1 a2 a3 (wrap64 ((IntKind.u64.wrap (wrap64 (a1+a3)))/2)) (wrap64 ((wrap64 ((IntKind.u64.wrap (wrap64 (a1+a3)))/2))+a2)) (wrap64 ((wrap64 ((IntKind.u64.wrap (wrap64 (eY+k7)))/2))+1)) k7 (wrap64 ((wrap64 ((wrap64 ((IntKind.u64.wrap (wrap64 (a1+a3)))/2))+a2))-1))))) else (none)) else (none)) else (none)) else (none))=some r:=by first|(rw [Bx] at H;exact H)|(simp only [Bx] at H⊢;exact H)
        have WA:(IntKind.i64.wrap ((wrap64 ((wrap64 ((wrap64 ((IntKind.u64.wrap (wrap64 (a1+a3)))/2))+a2))-1))-(wrap64 ((IntKind.u64.wrap (wrap64 (eY+k7)))/2))))=tq:=(bW _).trans Bx
        replace H:=dy H;obtain ⟨c60,H⟩:=H;have abY:=decide_eq_true c60;clear c60;replace H:=dy H;obtain ⟨ZA,H⟩:=H;have abX:=decide_eq_true ZA;clear ZA
        obtain ⟨qx,ux⟩:∃j_:Int,(wrap64 ((IntKind.u64.wrap (wrap64 (eY+k7)))/2))=j_:=⟨_,rfl⟩
        replace H:(if 0≤(qx) then (if (qx)<(l0.length:Int) then ((cC.f (aQ ByteArray.empty l0 (tq)) (aQ ByteArray.empty l0 (qx))).bind fun Ck=>(if Ck<0 then (aa.l4 k2 l0 a1 a2 a3 (wrap64 ((IntKind.u64.wrap (wrap64 (a1+a3)))/2)) (wrap64 ((wrap64 ((IntKind.u64.wrap (wrap64 (a1+a3)))/2))+a2)) eY qx (wrap64 ((wrap64 ((wrap64 ((IntKind.u64.wrap (wrap64 (a1+a3)))/2))+a2))-1))) else (aa.l4 k2 l0 a1 a2 a3 (wrap64 ((IntKind.u64.wrap (wrap64 (a1+a3)))/2)) (wrap64 ((wrap64 ((IntKind.u64.wrap (wrap64 (a1+a3)))/2))+a2)) (wrap64 ((qx)+1)) k7 (wrap64 ((wrap64 ((wrap64 ((IntKind.u64.wrap (wrap64 (a1+a3)))/2))+a2))-1))))) else (none)) else (none))=some r:=by first|(rw [ux] at H;exact H)|(simp only [ux] at H⊢;exact H)
        have af8:(IntKind.i64.wrap ((IntKind.u64.wrap (wrap64 (eY+k7)))/2))=qx:=(bW _).trans ux
        (try rw [ux] at Bx)
        (try rw [ux] at WA)
        replace H:=dy H;obtain ⟨c63,H⟩:=H;have ais:=decide_eq_true c63;clear c63;replace H:=dy H;obtain ⟨c64,H⟩:=H;have air:=decide_eq_true c64;clear c64;replace H:=bS H;obtain ⟨Ck,A65,H⟩:=H
        by_cases Zz:Ck<0
        ·rw [if_pos Zz] at H
         have abW:=decide_eq_true Zz
         clear Zz
         have H':=ak H
         clear H
         try go_wp2
         replace bH:=ak (Kd.cD bH.out)
         replace HK:=ak (Kept.drew HK.out)
         replace HB:=ak (cO HB.out)
         obtain ⟨akn,aj5,abw⟩:=Kd.de bH.out
         (first|subst abw|(injection abw with sL AK sK;have AJ:=sL.symm;have AH:=sK.symm;clear sL AK sK;subst AJ;subst AH))
         obtain ⟨afI,afs,zN,Xw,ue⟩:=ng (Kd.bq (Kd.aJ bH.out).2.2 (tq))
         cases Xw
         obtain ⟨afH,afr,Pe,Xv,ud⟩:=ng (Kd.bq (Kd.aJ bH.out).2.2 (qx))
         obtain rfl:zN=Pe:=(by injection Xv)
         refine dV (n:=14) (S:=fun w'=>w'.cell? (zN.add ((tq)).toNat)=some (.string (aQ ByteArray.empty l0 (tq)))∧w'.cell? (zN.add ((qx)).toNat)=some (.string (aQ ByteArray.empty l0 (qx)))) (ds:=[]) (bl 14 0) (by kernel_rfl) rfl rfl ⟨ue,ud⟩ (fun ah=> ?_);refine bZ aa.Tj aa.O6 (fun aA ef=> ?_)
         generalize wr.drew=w67 at bH HK HB ue ud ah⊢
         refine ag 0 (some 158) 14 1 aA ?_
         refine ag 1 (some 159) 14 3 aA ?_
         refine ag 2 (some 160) 14 7 aA ?_
         refine ag 3 (some 161) 14 15 aA ?_
         refine ag 4 (some 162) 14 31 aA ?_
         refine ag 5 (some 163) 14 63 aA ?_
         refine ag 7 (some 165) 14 191 aA ?_
         refine ag 8 (some 166) 14 447 aA ?_
         refine ag 9 (some 167) 14 959 aA ?_
         refine cg 6 (some 164) 14 1023 aA ef ah ?_ (hy:=by rintro w' ⟨s0,s1⟩;go_simp;with_reducible rfl)
         refine cg 10 (some 168) 14 2047 aA ef ah ?_ (hy:=by rintro w' ⟨s0,s1⟩;go_simp;with_reducible rfl)
         refine fJ 11 (some 169) 14 4095 aA (fun K hK=> ?_)
         refine ox Tryz.func107 (by kernel_rfl) rfl #[.string (aQ ByteArray.empty l0 (tq)),.string (aQ ByteArray.empty l0 (qx))] (by rfl) rfl rfl rfl (by (try simp only [List.map_toArray,List.map_cons,List.map_nil]);first|done|(simp only [Bx,ux];rfl)|rfl|(simp only [List.length_drop,List.length_take];rfl)) ?_
         with_reducible refine (cC.calls (aQ ByteArray.empty l0 (tq)) (aQ ByteArray.empty l0 (qx)) Ck _ A65.out).mono ?_
         rintro e w' ⟨rfl,⟨nd,rfl⟩⟩
         refine ⟨_,rfl,?_⟩
         refine hK.out _ _ ⟨ah.1,ah.2⟩ (fun ah=> ?_)
         clear hK K
         refine cM (a':= ?_) ?_ ?_
         rotate_left
         ·show Act.put _ (some 169) _=_
          simp only [Act.put,List.setIfInBounds_toArray,List.set_cons_zero,List.set_cons_succ,bW,cA]
          rfl
         refine ag 12 (some 170) 14 8191 aA ?_
         refine ag 13 (some 171) 14 16383 aA ?_
         refine eZ (cV aA.out (by kernel_rfl)) ?_
         try go_wp2
         go_roundg k2
         case measure=>have:=tE.out;have:=kg.out;omega
         case rel=>exact ⟨(eY),(qx),er,(by first|rfl|(simp;done)|(simp only [←ux]<;>(first|rfl|simp))|(simp [*];done)),H',⟨by have:=tE.out;have:=kg.out;omega⟩,⟨dH bH⟩,⟨lI HK⟩,⟨aq HB⟩⟩
        ·rw [if_neg Zz] at H
         have abW:=decide_eq_false Zz
         clear Zz
         have H':=ak H
         clear H
         try go_wp2
         replace bH:=ak (Kd.cD bH.out)
         replace HK:=ak (Kept.drew HK.out)
         replace HB:=ak (cO HB.out)
         obtain ⟨akm,aj4,abv⟩:=Kd.de bH.out
         (first|subst abv|(injection abv with sL AK sK;have AJ:=sL.symm;have AH:=sK.symm;clear sL AK sK;subst AJ;subst AH))
         obtain ⟨afI,afs,zN,Xw,ue⟩:=ng (Kd.bq (Kd.aJ bH.out).2.2 (tq))
         cases Xw
         obtain ⟨afH,afr,Pe,Xv,ud⟩:=ng (Kd.bq (Kd.aJ bH.out).2.2 (qx))
         obtain rfl:zN=Pe:=(by injection Xv)
         refine dV (n:=14) (S:=fun w'=>w'.cell? (zN.add ((tq)).toNat)=some (.string (aQ ByteArray.empty l0 (tq)))∧w'.cell? (zN.add ((qx)).toNat)=some (.string (aQ ByteArray.empty l0 (qx)))) (ds:=[]) (bl 14 0) (by kernel_rfl) rfl rfl ⟨ue,ud⟩ (fun ah=> ?_);refine bZ aa.Tj aa.O6 (fun aA ef=> ?_)
         generalize wr.drew=w69 at bH HK HB ue ud ah⊢
         refine ag 0 (some 158) 14 1 aA ?_
         refine ag 1 (some 159) 14 3 aA ?_
         refine ag 2 (some 160) 14 7 aA ?_
         refine ag 3 (some 161) 14 15 aA ?_
         refine ag 4 (some 162) 14 31 aA ?_
         refine ag 5 (some 163) 14 63 aA ?_
         refine ag 7 (some 165) 14 191 aA ?_
         refine ag 8 (some 166) 14 447 aA ?_
         refine ag 9 (some 167) 14 959 aA ?_
         refine cg 6 (some 164) 14 1023 aA ef ah ?_ (hy:=by rintro w' ⟨s0,s1⟩;go_simp;with_reducible rfl)
         refine cg 10 (some 168) 14 2047 aA ef ah ?_ (hy:=by rintro w' ⟨s0,s1⟩;go_simp;with_reducible rfl)
         refine fJ 11 (some 169) 14 4095 aA (fun K hK=> ?_)
         refine ox Tryz.func107 (by kernel_rfl) rfl #[.string (aQ ByteArray.empty l0 (tq)),.string (aQ ByteArray.empty l0 (qx))] (by rfl) rfl rfl rfl (by (try simp only [List.map_toArray,List.map_cons,List.map_nil]);first|done|(simp only [Bx,ux];rfl)|rfl|(simp only [List.length_drop,List.length_take];rfl)) ?_
         with_reducible refine (cC.calls (aQ ByteArray.empty l0 (tq)) (aQ ByteArray.empty l0 (qx)) Ck _ A65.out).mono ?_
         rintro e w' ⟨rfl,⟨nd,rfl⟩⟩
         refine ⟨_,rfl,?_⟩
         refine hK.out _ _ ⟨ah.1,ah.2⟩ (fun ah=> ?_)
         clear hK K
         refine cM (a':= ?_) ?_ ?_
         rotate_left
         ·show Act.put _ (some 169) _=_
          simp only [Act.put,List.setIfInBounds_toArray,List.set_cons_zero,List.set_cons_succ,bW,cA]
          rfl
         refine ag 12 (some 170) 14 8191 aA ?_
         refine ag 13 (some 171) 14 16383 aA ?_
         refine eZ (cV aA.out (by kernel_rfl)) ?_
         try go_wp2
         go_roundg k2
         case measure=>have:=tE.out;have:=kg.out;omega
         case rel=>exact ⟨(wrap64 ((qx)+1)),(k7),(by first|rfl|(simp;done)|(simp only [←ux]<;>(first|rfl|simp))|(simp [*];done)),er,H',⟨by have:=tE.out;have:=kg.out;omega⟩,⟨dH bH⟩,⟨lI HK⟩,⟨aq HB⟩⟩
       ·rw [if_neg LG] at H
        have JG:=decide_eq_false LG
        clear LG;have YN:=ak H;clear H
        go_upto_region 39 with (fail)
        go_cut [185] (fun aeO wc=>∃(kq:Nat) (xE:Bool),aeO= .bool xE∧Aside0 (aa.j6 kq l0 a1 a2 a3 (wrap64 ((IntKind.u64.wrap (wrap64 (a1+a3)))/2)) eY (wrap64 ((wrap64 ((wrap64 ((IntKind.u64.wrap (wrap64 (a1+a3)))/2))+a2))-eY)) xE=some r)∧Aside0 (kq≤k2)∧Aside0 (Kd.R Kd.string 9 wc w0.heap.size (fun k_=>(iZ k_∨w.heap.size≤k_)) eF l0)∧Aside0 (Kept w wc (fun k_=>iZ k_))∧Aside0 (Below w0.heap.size w0 wc))
        case first=>
         have H:=YN.out;clear YN
         by_cases Zy:eY<a2
         ·rw [if_pos Zy] at H
          have Ff:=decide_eq_true Zy
          clear Zy
          (first|rw [Ff]|(simp only [bW,cA];rw [Ff])|skip)
          have H':=ak H
          clear H;go_wp2
          go_meet
          case rel=>exact ⟨_,(decide (a2<(wrap64 ((wrap64 ((wrap64 ((IntKind.u64.wrap (wrap64 (a1+a3)))/2))+a2))-eY)))),er,H',⟨by have:=tE.out;have:=kg.out;first|omega|exact Nat.le_refl _⟩,⟨dH bH⟩,⟨lI HK⟩,⟨aq HB⟩⟩
         ·rw [if_neg Zy] at H
          have Ff:=decide_eq_false Zy
          clear Zy
          (first|rw [Ff]|(simp only [bW,cA];rw [Ff])|skip)
          have H':=ak H
          clear H;go_wp2
          go_meet
          case rel=>exact ⟨_,(false),er,H',⟨by have:=tE.out;have:=kg.out;first|omega|exact Nat.le_refl _⟩,⟨dH bH⟩,⟨lI HK⟩,⟨aq HB⟩⟩
        case rest=>as_aux_lemma=>
         clear YN;(try clear JG)
         obtain ⟨kq,xE,rfl,HA,DT,bH,HK,HB⟩:=hcut
         cases kq with
         |zero=>exact absurd HA.out (by simp [aa.j6])
         |succ Nz=>
          have H:=HA.out;clear HA
          simp only [aa.j6] at H
          have YM:=ak H;clear H
          go_upto_if 185 with (fail)
          go_cut [] (fun wc=>∃(kq:Nat) (jU:List ByteArray),Aside0 (aa.j7 kq jU a1 a3 (wrap64 ((IntKind.u64.wrap (wrap64 (a1+a3)))/2)) eY (wrap64 ((wrap64 ((wrap64 ((IntKind.u64.wrap (wrap64 (a1+a3)))/2))+a2))-eY))=some r)∧Aside0 (kq≤Nz)∧Aside0 (Kd.R Kd.string 9 wc w0.heap.size (fun k_=>(iZ k_∨w.heap.size≤k_)) eF jU)∧Aside0 (Kept w wc (fun k_=>iZ k_))∧Aside0 (Below w0.heap.size w0 wc))
          case first=>
           have H:=YM.out;clear YM
           by_cases c74:xE=true
           ·subst c74
            have H1:((bp.f Nz l0 eY a2 (wrap64 ((wrap64 ((wrap64 ((IntKind.u64.wrap (wrap64 (a1+a3)))/2))+a2))-eY))).bind fun Kt=>(aa.j7 Nz Kt a1 a3 (wrap64 ((IntKind.u64.wrap (wrap64 (a1+a3)))/2)) eY (wrap64 ((wrap64 ((wrap64 ((IntKind.u64.wrap (wrap64 (a1+a3)))/2))+a2))-eY))))=some r:=by rw [if_pos rfl] at H;exact H
            clear H
            have H:=H1
            clear H1;replace H:=bS H;obtain ⟨Kt,A75,H⟩:=H
            have H':=ak H
            clear H
            obtain ⟨aeh,abM,agL⟩:=Kd.de bH.out
            subst agL
            go_wp2_with (first|(go_at_call 153;(with_reducible refine (bp.calls Nz (fun k_=>some k_=(.slice aeh l0.length abM:Value).ownBlock) (.slice aeh l0.length abM) l0 eY a2 (wrap64 ((wrap64 ((wrap64 ((IntKind.u64.wrap (wrap64 (a1+a3)))/2))+a2))-eY)) Kt w0 _ ?side1 ?side2 A75.out).mono ?_);(case side1=>exact aq HB);(case side2=>exact Kd.iN rfl bH.out);rintro e w77 ⟨rfl,nV,hb,ov⟩;replace HK:=ak (Kept.mN (S:=(fun k_=>iZ k_)) (lI HK) ov (fun k_ nx=>(fun e_=>(bH.out.1 k_ e_.symm)) nx));replace bH:=ak (Kd.lD rfl nV (fun k_ e_=>bH.out.1 k_ e_));replace HB:=ak (hb);(try clear hb);(try clear ov);(try clear nV)))
            go_meet
            case rel=>exact ⟨_,(Kt),H',⟨by have:=tE.out;have:=kg.out;have:=DT.out;first|omega|exact Nat.le_refl _⟩,⟨dH bH⟩,⟨lI HK⟩,⟨aq HB⟩⟩
           ·replace c74:=Bool.eq_false_iff.mpr c74
            subst c74
            have H1:(aa.j7 Nz l0 a1 a3 (wrap64 ((IntKind.u64.wrap (wrap64 (a1+a3)))/2)) eY (wrap64 ((wrap64 ((wrap64 ((IntKind.u64.wrap (wrap64 (a1+a3)))/2))+a2))-eY)))=some r:=by rw [if_neg (show¬(false=true) by decide)] at H;exact H
            clear H
            have H:=H1
            clear H1
            have H':=ak H
            clear H;go_wp2
            go_meet
            case rel=>exact ⟨_,(l0),H',⟨by have:=tE.out;have:=kg.out;have:=DT.out;first|omega|exact Nat.le_refl _⟩,⟨dH bH⟩,⟨lI HK⟩,⟨aq HB⟩⟩
          case rest=>as_aux_lemma=>
           clear YM
           obtain ⟨kq,jU,HA,Il,bH,HK,HB⟩:=hcut
           cases kq with
           |zero=>exact absurd HA.out (by simp [aa.j7])
           |succ afZ=>
            have H:=HA.out;clear HA
            simp only [aa.j7] at H
            have YL:=ak H;clear H
            go_upto_region 41 with (fail)
            go_cut [199] (fun aeN wc=>∃(kq:Nat) (xD:Bool),aeN= .bool xD∧Aside0 (aa.j8 kq jU a1 a3 (wrap64 ((IntKind.u64.wrap (wrap64 (a1+a3)))/2)) eY (wrap64 ((wrap64 ((wrap64 ((IntKind.u64.wrap (wrap64 (a1+a3)))/2))+a2))-eY)) xD=some r)∧Aside0 (kq≤afZ)∧Aside0 (Kd.R Kd.string 9 wc w0.heap.size (fun k_=>(iZ k_∨w.heap.size≤k_)) eF jU)∧Aside0 (Kept w wc (fun k_=>iZ k_))∧Aside0 (Below w0.heap.size w0 wc))
            case first=>
             have H:=YL.out;clear YL
             by_cases Zx:a1<eY
             ·rw [if_pos Zx] at H
              have Fe:=decide_eq_true Zx
              clear Zx
              (first|rw [Fe]|(simp only [bW,cA];rw [Fe])|skip)
              have H':=ak H
              clear H;go_wp2
              go_meet
              case rel=>exact ⟨_,(decide (eY<(wrap64 ((IntKind.u64.wrap (wrap64 (a1+a3)))/2)))),er,H',⟨by have:=tE.out;have:=kg.out;have:=DT.out;have:=Il.out;first|omega|exact Nat.le_refl _⟩,⟨dH bH⟩,⟨lI HK⟩,⟨aq HB⟩⟩
             ·rw [if_neg Zx] at H
              have Fe:=decide_eq_false Zx
              clear Zx
              (first|rw [Fe]|(simp only [bW,cA];rw [Fe])|skip)
              have H':=ak H
              clear H;go_wp2
              go_meet
              case rel=>exact ⟨_,(false),er,H',⟨by have:=tE.out;have:=kg.out;have:=DT.out;have:=Il.out;first|omega|exact Nat.le_refl _⟩,⟨dH bH⟩,⟨lI HK⟩,⟨aq HB⟩⟩
            case rest=>as_aux_lemma=>
             clear YL
             obtain ⟨kq,xD,rfl,HA,Qa,bH,HK,HB⟩:=hcut
             cases kq with
             |zero=>exact absurd HA.out (by simp [aa.j8])
             |succ EJ=>
              have H:=HA.out;clear HA
              simp only [aa.j8] at H
              by_cases c80:xD=true
              ·subst c80
               have H1:((aa.f EJ jU a1 eY (wrap64 ((IntKind.u64.wrap (wrap64 (a1+a3)))/2))).bind fun wY=>(if (wrap64 ((IntKind.u64.wrap (wrap64 (a1+a3)))/2))<(wrap64 ((wrap64 ((wrap64 ((IntKind.u64.wrap (wrap64 (a1+a3)))/2))+a2))-eY)) then (if (wrap64 ((wrap64 ((wrap64 ((IntKind.u64.wrap (wrap64 (a1+a3)))/2))+a2))-eY))<a3 then ((aa.f EJ wY (wrap64 ((IntKind.u64.wrap (wrap64 (a1+a3)))/2)) (wrap64 ((wrap64 ((wrap64 ((IntKind.u64.wrap (wrap64 (a1+a3)))/2))+a2))-eY)) a3).bind fun MG=>(some MG)) else (some wY)) else (some wY)))=some r:=by rw [if_pos rfl] at H;exact H
               clear H
               have H:=H1
               clear H1;replace H:=bS H;obtain ⟨wY,A81,H⟩:=H
               by_cases Zw:(wrap64 ((IntKind.u64.wrap (wrap64 (a1+a3)))/2))<(wrap64 ((wrap64 ((wrap64 ((IntKind.u64.wrap (wrap64 (a1+a3)))/2))+a2))-eY))
               ·rw [if_pos Zw] at H
                have abU:=decide_eq_true Zw
                clear Zw
                by_cases Zv:(wrap64 ((wrap64 ((wrap64 ((IntKind.u64.wrap (wrap64 (a1+a3)))/2))+a2))-eY))<a3
                ·rw [if_pos Zv] at H
                 have abT:=decide_eq_true Zv
                 clear Zv;replace H:=bS H;obtain ⟨MG,A84,H⟩:=H
                 obtain rfl:=Option.some.inj H
                 obtain ⟨L3,Ly,agK⟩:=Kd.de bH.out
                 subst agK
                 go_wp2_with (first|((with_reducible refine eW (f:=136) rfl ?_);refine l7 (some 205) rfl Tryz.func136 #[.slice L3 jU.length Ly,.int .i64 a1,.int .i64 eY,.int .i64 (wrap64 ((IntKind.u64.wrap (wrap64 (a1+a3)))/2)),.func (.func 107) #[] #[]] rfl ?_;(with_reducible refine (ih EJ (by have:=tE.out;have:=kg.out;have:=DT.out;have:=Il.out;have:=Qa.out;omega) (fun k_=>some k_=(.slice L3 jU.length Ly:Value).ownBlock) (.slice L3 jU.length Ly) jU a1 eY (wrap64 ((IntKind.u64.wrap (wrap64 (a1+a3)))/2)) wY w0 _ ?side1 ?side2 A81.out).mono ?_);(case side1=>exact aq HB);(case side2=>exact Kd.iN rfl bH.out);rintro e w86 ⟨rfl,nV,hb,ov⟩;refine ⟨_,rfl,?_⟩;replace HK:=ak (Kept.mN (S:=(fun k_=>iZ k_)) (lI HK) ov (fun k_ nx=>(fun e_=>(bH.out.1 k_ e_.symm)) nx));replace bH:=ak (Kd.lD rfl nV (fun k_ e_=>bH.out.1 k_ e_));replace HB:=ak (hb);(try clear hb);(try clear ov);(try clear nV))|((with_reducible refine eW (f:=136) rfl ?_);refine l7 (some 219) rfl Tryz.func136 #[.slice L3 jU.length Ly,.int .i64 (wrap64 ((IntKind.u64.wrap (wrap64 (a1+a3)))/2)),.int .i64 (wrap64 ((wrap64 ((wrap64 ((IntKind.u64.wrap (wrap64 (a1+a3)))/2))+a2))-eY)),.int .i64 a3,.func (.func 107) #[] #[]] rfl ?_;(with_reducible refine (ih EJ (by have:=tE.out;have:=kg.out;have:=DT.out;have:=Il.out;have:=Qa.out;omega) (fun k_=>some k_=(.slice L3 jU.length Ly:Value).ownBlock) (.slice L3 jU.length Ly) wY (wrap64 ((IntKind.u64.wrap (wrap64 (a1+a3)))/2)) (wrap64 ((wrap64 ((wrap64 ((IntKind.u64.wrap (wrap64 (a1+a3)))/2))+a2))-eY)) a3 MG w0 _ ?side1 ?side2 A84.out).mono ?_);(case side1=>exact aq HB);(case side2=>exact Kd.iN rfl bH.out);rintro e w87 ⟨rfl,nV,hb,ov⟩;refine ⟨_,rfl,?_⟩;replace HK:=ak (Kept.mN (S:=(fun k_=>iZ k_)) (lI HK) ov (fun k_ nx=>(fun e_=>(bH.out.1 k_ e_.symm)) nx));replace bH:=ak (Kd.lD rfl nV (fun k_ e_=>bH.out.1 k_ e_));replace HB:=ak (hb);(try clear hb);(try clear ov);(try clear nV)))
                 first|go_end0|((try simp only [Exit.inBlock,Exit.then]);refine bodyPost_ret (results_none rfl _ _ _) rfl ?_)
                 exact ⟨kK,by (with_reducible repeat (first|apply Kd.cz|apply Kd.cy|apply Kd.cD));exact bH.out,aq HB,lI HK⟩
                ·rw [if_neg Zv] at H
                 have abT:=decide_eq_false Zv
                 clear Zv
                 obtain rfl:=Option.some.inj H
                 obtain ⟨aeg,abL,agJ⟩:=Kd.de bH.out
                 subst agJ
                 go_wp2_with (first|(go_at_call 136;(with_reducible refine (ih EJ (by have:=tE.out;have:=kg.out;have:=DT.out;have:=Il.out;have:=Qa.out;omega) (fun k_=>some k_=(.slice aeg jU.length abL:Value).ownBlock) (.slice aeg jU.length abL) jU a1 eY (wrap64 ((IntKind.u64.wrap (wrap64 (a1+a3)))/2)) wY w0 _ ?side1 ?side2 A81.out).mono ?_);(case side1=>exact aq HB);(case side2=>exact Kd.iN rfl bH.out);rintro e w89 ⟨rfl,nV,hb,ov⟩;replace HK:=ak (Kept.mN (S:=(fun k_=>iZ k_)) (lI HK) ov (fun k_ nx=>(fun e_=>(bH.out.1 k_ e_.symm)) nx));replace bH:=ak (Kd.lD rfl nV (fun k_ e_=>bH.out.1 k_ e_));replace HB:=ak (hb);(try clear hb);(try clear ov);(try clear nV)))
                 first|go_end0|((try simp only [Exit.inBlock,Exit.then]);refine bodyPost_ret (results_none rfl _ _ _) rfl ?_)
                 exact ⟨kK,by (with_reducible repeat (first|apply Kd.cz|apply Kd.cy|apply Kd.cD));exact bH.out,aq HB,lI HK⟩
               ·rw [if_neg Zw] at H
                have abU:=decide_eq_false Zw
                clear Zw
                obtain rfl:=Option.some.inj H
                obtain ⟨aef,abK,agI⟩:=Kd.de bH.out
                subst agI
                go_wp2_with (first|(go_at_call 136;(with_reducible refine (ih EJ (by have:=tE.out;have:=kg.out;have:=DT.out;have:=Il.out;have:=Qa.out;omega) (fun k_=>some k_=(.slice aef jU.length abK:Value).ownBlock) (.slice aef jU.length abK) jU a1 eY (wrap64 ((IntKind.u64.wrap (wrap64 (a1+a3)))/2)) wY w0 _ ?side1 ?side2 A81.out).mono ?_);(case side1=>exact aq HB);(case side2=>exact Kd.iN rfl bH.out);rintro e w91 ⟨rfl,nV,hb,ov⟩;replace HK:=ak (Kept.mN (S:=(fun k_=>iZ k_)) (lI HK) ov (fun k_ nx=>(fun e_=>(bH.out.1 k_ e_.symm)) nx));replace bH:=ak (Kd.lD rfl nV (fun k_ e_=>bH.out.1 k_ e_));replace HB:=ak (hb);(try clear hb);(try clear ov);(try clear nV)))
                first|go_end0|((try simp only [Exit.inBlock,Exit.then]);refine bodyPost_ret (results_none rfl _ _ _) rfl ?_)
                exact ⟨kK,by (with_reducible repeat (first|apply Kd.cz|apply Kd.cy|apply Kd.cD));exact bH.out,aq HB,lI HK⟩
              ·replace c80:=Bool.eq_false_iff.mpr c80
               subst c80
               have H1:(if (wrap64 ((IntKind.u64.wrap (wrap64 (a1+a3)))/2))<(wrap64 ((wrap64 ((wrap64 ((IntKind.u64.wrap (wrap64 (a1+a3)))/2))+a2))-eY)) then (if (wrap64 ((wrap64 ((wrap64 ((IntKind.u64.wrap (wrap64 (a1+a3)))/2))+a2))-eY))<a3 then ((aa.f EJ jU (wrap64 ((IntKind.u64.wrap (wrap64 (a1+a3)))/2)) (wrap64 ((wrap64 ((wrap64 ((IntKind.u64.wrap (wrap64 (a1+a3)))/2))+a2))-eY)) a3).bind fun MF=>(some MF)) else (some jU)) else (some jU))=some r:=by rw [if_neg (show¬(false=true) by decide)] at H;exact H
               clear H
               have H:=H1
               clear H1
               by_cases Zu:(wrap64 ((IntKind.u64.wrap (wrap64 (a1+a3)))/2))<(wrap64 ((wrap64 ((wrap64 ((IntKind.u64.wrap (wrap64 (a1+a3)))/2))+a2))-eY))
               ·rw [if_pos Zu] at H
                have abS:=decide_eq_true Zu
                clear Zu
                by_cases Zt:(wrap64 ((wrap64 ((wrap64 ((IntKind.u64.wrap (wrap64 (a1+a3)))/2))+a2))-eY))<a3
                ·rw [if_pos Zt] at H
                 have abR:=decide_eq_true Zt
                 clear Zt;replace H:=bS H;obtain ⟨MF,A94,H⟩:=H
                 obtain rfl:=Option.some.inj H
                 obtain ⟨aee,abJ,agH⟩:=Kd.de bH.out
                 subst agH
                 go_wp2_with (first|(go_at_call 136;(with_reducible refine (ih EJ (by have:=tE.out;have:=kg.out;have:=DT.out;have:=Il.out;have:=Qa.out;omega) (fun k_=>some k_=(.slice aee jU.length abJ:Value).ownBlock) (.slice aee jU.length abJ) jU (wrap64 ((IntKind.u64.wrap (wrap64 (a1+a3)))/2)) (wrap64 ((wrap64 ((wrap64 ((IntKind.u64.wrap (wrap64 (a1+a3)))/2))+a2))-eY)) a3 MF w0 _ ?side1 ?side2 A94.out).mono ?_);(case side1=>exact aq HB);(case side2=>exact Kd.iN rfl bH.out);rintro e w96 ⟨rfl,nV,hb,ov⟩;replace HK:=ak (Kept.mN (S:=(fun k_=>iZ k_)) (lI HK) ov (fun k_ nx=>(fun e_=>(bH.out.1 k_ e_.symm)) nx));replace bH:=ak (Kd.lD rfl nV (fun k_ e_=>bH.out.1 k_ e_));replace HB:=ak (hb);(try clear hb);(try clear ov);(try clear nV)))
                 first|go_end0|((try simp only [Exit.inBlock,Exit.then]);refine bodyPost_ret (results_none rfl _ _ _) rfl ?_)
                 exact ⟨kK,by (with_reducible repeat (first|apply Kd.cz|apply Kd.cy|apply Kd.cD));exact bH.out,aq HB,lI HK⟩
                ·rw [if_neg Zt] at H
                 have abR:=decide_eq_false Zt
                 clear Zt
                 obtain rfl:=Option.some.inj H
                 go_wp2
                 first|go_end0|((try simp only [Exit.inBlock,Exit.then]);refine bodyPost_ret (results_none rfl _ _ _) rfl ?_)
                 exact ⟨kK,by (with_reducible repeat (first|apply Kd.cz|apply Kd.cy|apply Kd.cD));exact bH.out,aq HB,lI HK⟩
               ·rw [if_neg Zu] at H
                have abS:=decide_eq_false Zu
                clear Zu
                obtain rfl:=Option.some.inj H
                go_wp2
                first|go_end0|((try simp only [Exit.inBlock,Exit.then]);refine bodyPost_ret (results_none rfl _ _ _) rfl ?_)
                exact ⟨kK,by (with_reducible repeat (first|apply Kd.cz|apply Kd.cy|apply Kd.cD));exact bH.out,aq HB,lI HK⟩
end Go.Proofs.YtihekdlcfohkkaaGreatDoor.QFnNets
