-- printed by this session's own program (wip/tools/pp.py: the kit's print.py with changes); Lean checks it
import Derived.Test.YtihekdlcfohkkaaGreatDoorQFnNetx0
import Derived.Test.YtihekdlcfohkkaaGreatDoorQFnNetx12
namespace Go.Proofs.YtihekdlcfohkkaaGreatDoor.QFnNet
open Go.RowKit Go.Proofs.YtihekdlcfohkkaaGreatDoorW.PrintWords Go.Proofs.YtihekdlcfohkkaaGreatDoorW.PrintLast Go.Proofs.YtihekdlcfohkkaaGreatDoorW.PrintMore
attribute [local go_sem] max2_int min2_int max_two min_two max_three min_three max_four min_four strLss strGtr strLeq strGeq
set_option linter.unusedVariables false
set_option linter.unusedSimpArgs false
set_option maxHeartbeats 16000000
set_option maxRecDepth 100000
mutual
def aa.l0:Nat→List ByteArray→Int→Int→Int→Option (List ByteArray)
  |0,_,_,_,_=>none
  |k+1,x0,x1,iz,uM=>if iz<uM then (if 0≤(wrap64 ((IntKind.u64.wrap (wrap64 (iz+uM)))/2)) then (if (wrap64 ((IntKind.u64.wrap (wrap64 (iz+uM)))/2))<(x0.length:Int) then (if 0≤x1 then (if x1<(x0.length:Int) then ((bZ.f (aV ByteArray.empty x0 (wrap64 ((IntKind.u64.wrap (wrap64 (iz+uM)))/2))) (aV ByteArray.empty x0 x1)).bind fun Em=>(if Em<0 then (aa.l0 k x0 x1 (wrap64 ((wrap64 ((IntKind.u64.wrap (wrap64 (iz+uM)))/2))+1)) uM) else (aa.l0 k x0 x1 iz (wrap64 ((IntKind.u64.wrap (wrap64 (iz+uM)))/2))))) else (none)) else (none)) else (none)) else (none)) else (aa.l1 k x0 iz x1)
def aa.l1:Nat→List ByteArray→Int→Int→Option (List ByteArray)
  |0,_,_,_=>none
  |k+1,x0,iz,gJ=>if gJ<(wrap64 (iz-1)) then (if 0≤(wrap64 (gJ+1)) then (if (wrap64 (gJ+1))<(x0.length:Int) then (if 0≤gJ then (if gJ<(x0.length:Int) then (aa.l1 k ((x0.set (gJ:Int).toNat (aV ByteArray.empty x0 (wrap64 (gJ+1)))).set ((wrap64 (gJ+1)):Int).toNat (aV ByteArray.empty x0 gJ)) iz (wrap64 (gJ+1))) else (none)) else (none)) else (none)) else (none)) else (some x0)
def aa.l2:Nat→List ByteArray→Int→Int→Int→Option (List ByteArray)
  |0,_,_,_,_=>none
  |k+1,x0,x2,jL,kg=>if jL<kg then (if 0≤x2 then (if x2<(x0.length:Int) then (if 0≤(wrap64 ((IntKind.u64.wrap (wrap64 (jL+kg)))/2)) then (if (wrap64 ((IntKind.u64.wrap (wrap64 (jL+kg)))/2))<(x0.length:Int) then ((bZ.f (aV ByteArray.empty x0 x2) (aV ByteArray.empty x0 (wrap64 ((IntKind.u64.wrap (wrap64 (jL+kg)))/2)))).bind fun El=>(if El<0 then (aa.l2 k x0 x2 jL (wrap64 ((IntKind.u64.wrap (wrap64 (jL+kg)))/2))) else (aa.l2 k x0 x2 (wrap64 ((wrap64 ((IntKind.u64.wrap (wrap64 (jL+kg)))/2))+1)) kg))) else (none)) else (none)) else (none)) else (none)) else (aa.l3 k x0 jL x2)
def aa.l3:Nat→List ByteArray→Int→Int→Option (List ByteArray)
  |0,_,_,_=>none
  |k+1,x0,jL,IP=>if IP>jL then (if 0≤(wrap64 (IP-1)) then (if (wrap64 (IP-1))<(x0.length:Int) then (if 0≤IP then (if IP<(x0.length:Int) then (aa.l3 k ((x0.set (IP:Int).toNat (aV ByteArray.empty x0 (wrap64 (IP-1)))).set ((wrap64 (IP-1)):Int).toNat (aV ByteArray.empty x0 IP)) jL (wrap64 (IP-1))) else (none)) else (none)) else (none)) else (none)) else (some x0)
def aa.j4:Nat→List ByteArray→Int→Int→Int→Int→Int→Int→Int→Option (List ByteArray)
  |0,_,_,_,_,_,_,_,_=>none
  |k+1,x0,x1,x2,x3,uD,QE,sY,Kn=>aa.l4 k x0 x1 x2 x3 uD QE sY Kn (wrap64 (QE-1))
def aa.l4:Nat→List ByteArray→Int→Int→Int→Int→Int→Int→Int→Int→Option (List ByteArray)
  |0,_,_,_,_,_,_,_,_,_=>none
  |k+1,x0,x1,x2,x3,uD,QE,sY,Kn,WU=>if sY<Kn then (if 0≤(wrap64 (WU-(wrap64 ((IntKind.u64.wrap (wrap64 (sY+Kn)))/2)))) then (if (wrap64 (WU-(wrap64 ((IntKind.u64.wrap (wrap64 (sY+Kn)))/2))))<(x0.length:Int) then (if 0≤(wrap64 ((IntKind.u64.wrap (wrap64 (sY+Kn)))/2)) then (if (wrap64 ((IntKind.u64.wrap (wrap64 (sY+Kn)))/2))<(x0.length:Int) then ((bZ.f (aV ByteArray.empty x0 (wrap64 (WU-(wrap64 ((IntKind.u64.wrap (wrap64 (sY+Kn)))/2))))) (aV ByteArray.empty x0 (wrap64 ((IntKind.u64.wrap (wrap64 (sY+Kn)))/2)))).bind fun Aq=>(if Aq<0 then (aa.l4 k x0 x1 x2 x3 uD QE sY (wrap64 ((IntKind.u64.wrap (wrap64 (sY+Kn)))/2)) WU) else (aa.l4 k x0 x1 x2 x3 uD QE (wrap64 ((wrap64 ((IntKind.u64.wrap (wrap64 (sY+Kn)))/2))+1)) Kn WU))) else (none)) else (none)) else (none)) else (none)) else (if sY<x2 then (aa.j6 k x0 x1 x2 x3 uD sY (wrap64 (QE-sY)) (decide (x2<(wrap64 (QE-sY))))) else (aa.j6 k x0 x1 x2 x3 uD sY (wrap64 (QE-sY)) false))
def aa.j6:Nat→List ByteArray→Int→Int→Int→Int→Int→Int→Bool→Option (List ByteArray)
  |0,_,_,_,_,_,_,_,_=>none
  |k+1,x0,x1,x2,x3,uD,sY,IN,abQ=>if abQ=true then ((aY.f k x0 sY x2 IN).bind fun IZ=>(aa.j7 k IZ x1 x3 uD sY IN)) else (aa.j7 k x0 x1 x3 uD sY IN)
def aa.j7:Nat→List ByteArray→Int→Int→Int→Int→Int→Option (List ByteArray)
  |0,_,_,_,_,_,_=>none
  |k+1,x0,x1,x3,uD,sY,IN=>if x1<sY then (aa.j8 k x0 x1 x3 uD sY IN (decide (sY<uD))) else (aa.j8 k x0 x1 x3 uD sY IN false)
def aa.j8:Nat→List ByteArray→Int→Int→Int→Int→Int→Bool→Option (List ByteArray)
  |0,_,_,_,_,_,_,_=>none
  |k+1,x0,x1,x3,uD,sY,IN,abP=>if abP=true then ((aa.f k x0 x1 sY uD).bind fun vT=>(if uD<IN then (if IN<x3 then ((aa.f k vT uD IN x3).bind fun KQ=>(some KQ)) else (some vT)) else (some vT))) else (if uD<IN then (if IN<x3 then ((aa.f k x0 uD IN x3).bind fun KP=>(some KP)) else (some x0)) else (some x0))
def aa.f:Nat→List ByteArray→Int→Int→Int→Option (List ByteArray)
  |0,_,_,_,_=>none
  |k+1,l0,a1,a2,a3=>if (wrap64 (a2-a1))=1 then (aa.l0 k l0 a1 a2 a3) else (if (wrap64 (a3-a2))=1 then (aa.l2 k l0 a2 a1 a2) else (if a2>(wrap64 ((IntKind.u64.wrap (wrap64 (a1+a3)))/2)) then (aa.j4 k l0 a1 a2 a3 (wrap64 ((IntKind.u64.wrap (wrap64 (a1+a3)))/2)) (wrap64 ((wrap64 ((IntKind.u64.wrap (wrap64 (a1+a3)))/2))+a2)) (wrap64 ((wrap64 ((wrap64 ((IntKind.u64.wrap (wrap64 (a1+a3)))/2))+a2))-a3)) (wrap64 ((IntKind.u64.wrap (wrap64 (a1+a3)))/2))) else (aa.j4 k l0 a1 a2 a3 (wrap64 ((IntKind.u64.wrap (wrap64 (a1+a3)))/2)) (wrap64 ((wrap64 ((IntKind.u64.wrap (wrap64 (a1+a3)))/2))+a2)) a1 a2)))
end
def aa.T5:Bool×List (List Nat×List Nat):=(true,[([],[]),([],[]),([],[]),([1,2],[1,2]),([3],[3]),([],[]),([],[]),([5,6],[5,6]),([7],[7]),([0,4,8],[0,4,8]),([9],[9])])
def aa.B5:List Nat:=[0,0,0,6,14,0,0,96,224,511,1023]
theorem aa.y4:gq .any (opsOf Tryz.f136 5)=aa.T5:=by kernel_rfl
theorem aa.rX:eF aa.T5.2 aa.B5=true:=by kernel_rfl
def aa.RG:Bool×List (List Nat×List Nat):=(true,[([],[]),([],[]),([],[]),([],[]),([3],[3]),([],[]),([],[]),([6],[6]),([5,7],[5,7]),([8],[8]),([],[]),([],[]),([10,11],[10,11]),([12],[12]),([0,1,0,1,5,6,7,8,9,13],[0,1]),([14,9,0,1,5,6,7,8,9,13],[9,14]),([2,4,0,1,2,3,4,5,6,7,8,9,10,11,12,13,14,15],[2,4]),([16,13,15,0,1,2,3,4,5,6,7,8,9,10,11,12,13,14,15],[13,16])])
def aa.B11:List Nat:=[0,0,0,0,8,0,0,64,224,480,0,0,3072,7168,16355,32739,65535,131071]
theorem aa.KM:gq .any (opsOf Tryz.f136 11)=aa.RG:=by kernel_rfl
theorem aa.F6:eF aa.RG.2 aa.B11=true:=by kernel_rfl
def aa.T17:Bool×List (List Nat×List Nat):=(true,[([],[]),([],[]),([],[]),([1,2],[1,2]),([3],[3]),([],[]),([],[]),([5,6],[5,6]),([7],[7]),([0,4,8],[0,4,8]),([9],[9]),([10],[10])])
def aa.B17:List Nat:=[0,0,0,6,14,0,0,96,224,511,1023,2047]
theorem aa.QI:gq .any (opsOf Tryz.f136 17)=aa.T17:=by kernel_rfl
theorem aa.M7:eF aa.T17.2 aa.B17=true:=by kernel_rfl
def aa.T23:Bool×List (List Nat×List Nat):=(true,[([],[]),([],[]),([],[]),([],[]),([3],[3]),([],[]),([],[]),([6],[6]),([5,7],[5,7]),([8],[8]),([],[]),([],[]),([10,11],[10,11]),([12],[12]),([0,1,0,1,5,6,7,8,9,13],[0,1]),([14,9,0,1,5,6,7,8,9,13],[9,14]),([2,4,0,1,2,3,4,5,6,7,8,9,10,11,12,13,14,15],[2,4]),([16,13,15,0,1,2,3,4,5,6,7,8,9,10,11,12,13,14,15],[13,16])])
def aa.B23:List Nat:=[0,0,0,0,8,0,0,64,224,480,0,0,3072,7168,16355,32739,65535,131071]
theorem aa.Xd:gq .any (opsOf Tryz.f136 23)=aa.T23:=by kernel_rfl
theorem aa.Vi:eF aa.T23.2 aa.B23=true:=by kernel_rfl
def aa.T35:Bool×List (List Nat×List Nat):=(true,[([],[]),([],[]),([],[]),([],[]),([2,3],[2,3]),([1,4],[1,4]),([5],[5]),([],[]),([],[]),([7,8],[7,8]),([9],[9]),([0,6,10],[0,6,10]),([11],[11]),([12],[12])])
def aa.B35:List Nat:=[0,0,0,0,12,30,62,0,0,384,896,2047,4095,8191]
theorem aa.QH:gq .any (opsOf Tryz.f136 35)=aa.T35:=by kernel_rfl
theorem aa.M6:eF aa.T35.2 aa.B35=true:=by kernel_rfl
theorem aa.calls (k:Nat):∀(iM:Nat→Prop) (ej:Value) (l0:List ByteArray) (a1:Int) (a2:Int) (a3:Int) (r:List ByteArray) (w0 w:World) (hB:Below w0.heap.size w0 w) (uE:Kd.R Kd.string 9 w w0.heap.size iM ej l0) (h:aa.f k l0 a1 a2 a3=some r),
  Calls Tryz.prog 136 #[ej,.int .i64 a1,.int .i64 a2,.int .i64 a3,.func (.func 107) #[] #[]] w fun e w'=>e= .returned (.tuple #[])∧Kd.R Kd.string 9 w' w0.heap.size (fun k_=>(iM k_∨w.heap.size≤k_)) ej r∧Below w0.heap.size w0 w'∧Kept w w' (fun k_=>iM k_):=by
 induction k using Nat.strongRecOn with
 |_ k ih=>
 intro iM ej l0 a1 a2 a3 r w0 w hB uE h
 cases k with
 |zero=>exact absurd h (by simp [aa.f])
 |succ k=>
 simp only [aa.f] at h
 have Cm:=ak (show Kd.R Kd.string 9 w w0.heap.size (fun k_=>(iM k_∨w.heap.size≤k_)) ej l0 from Kd.bF uE (fun k_ hk=>(.inl hk)))
 have HK:=ak (Kept.refl w (fun k_=>iM k_))
 have Iw:=ak hB.size
 have HB:=ak hB;clear hB
 have H:(if (wrap64 (a2-a1))=1 then (aa.l0 k l0 a1 a2 a3) else (if (wrap64 (a3-a2))=1 then (aa.l2 k l0 a2 a1 a2) else (if a2>(wrap64 ((IntKind.u64.wrap (wrap64 (a1+a3)))/2)) then (aa.j4 k l0 a1 a2 a3 (wrap64 ((IntKind.u64.wrap (wrap64 (a1+a3)))/2)) (wrap64 ((wrap64 ((IntKind.u64.wrap (wrap64 (a1+a3)))/2))+a2)) (wrap64 ((wrap64 ((wrap64 ((IntKind.u64.wrap (wrap64 (a1+a3)))/2))+a2))-a3)) (wrap64 ((IntKind.u64.wrap (wrap64 (a1+a3)))/2))) else (aa.j4 k l0 a1 a2 a3 (wrap64 ((IntKind.u64.wrap (wrap64 (a1+a3)))/2)) (wrap64 ((wrap64 ((IntKind.u64.wrap (wrap64 (a1+a3)))/2))+a2)) a1 a2))))=some r:=h
 clear h
 by_cases c6:(wrap64 (a2-a1))=1
 ·rw [if_pos c6] at H
  have jz:=kI c6
  have qz:=kH c6
  clear c6
  have H':=ak H
  clear H
  go_enter Tryz.func136,Tryz.ntmps136
  go_wp2
  go_loopg [10,11] k (fun kq v10 v11 w'=>∃(fu:Int) (fL:Int),v10= .int .i64 fu∧v11= .int .i64 fL∧Aside0 (aa.l0 kq l0 a1 fu fL=some r)∧Aside0 (kq≤k)∧Aside0 (Kd.R Kd.string 9 w' w0.heap.size (fun k_=>(iM k_∨w.heap.size≤k_)) ej l0)∧Aside0 (Kept w w' (fun k_=>iM k_))∧Aside0 (Below w0.heap.size w0 w'))
  case atStart=>exact ⟨(a2),(a3),er,er,H',⟨Nat.le_refl _⟩,⟨fy Cm⟩,⟨kY HK⟩,⟨ai HB⟩⟩
  case round=>as_aux_lemma=>
   clear H'
   (try clear jz);(try clear qz)
   obtain ⟨fu,fL,rfl,rfl,HA,fP,bz,HK,HB⟩:=hrel
   cases gk with
   |zero=>exact absurd HA.out (by simp [aa.l0])
   |succ k1=>
    have H:=HA.out;clear HA
    simp only [aa.l0] at H
    by_cases c7:fu<fL
    ·rw [if_pos c7] at H
     have rF:=decide_eq_true c7
     clear c7
     obtain ⟨Cv,Fp⟩:∃j_:Int,(wrap64 ((IntKind.u64.wrap (wrap64 (fu+fL)))/2))=j_:=⟨_,rfl⟩
     replace H:(if 0≤(Cv) then (if (Cv)<(l0.length:Int) then (if 0≤a1 then (if a1<(l0.length:Int) then ((bZ.f (aV ByteArray.empty l0 (Cv)) (aV ByteArray.empty l0 a1)).bind fun Em=>(if Em<0 then (aa.l0 k1 l0 a1 (wrap64 ((Cv)+1)) fL) else (aa.l0 k1 l0 a1 fu Cv))) else (none)) else (none)) else (none)) else (none))=some r:=by first|(rw [Fp] at H;exact H)|(simp only [Fp] at H⊢;exact H)
     have afC:(IntKind.i64.wrap ((IntKind.u64.wrap (wrap64 (fu+fL)))/2))=Cv:=(bX _).trans Fp
     replace H:=cZ H;obtain ⟨c9,H⟩:=H;have lQ:=decide_eq_true c9;clear c9;replace H:=cZ H;obtain ⟨gu,H⟩:=H;have kC:=decide_eq_true gu;clear gu;replace H:=cZ H;obtain ⟨lp,H⟩:=H;have lW:=decide_eq_true lp;clear lp;replace H:=cZ H;obtain ⟨nL,H⟩:=H;have pU:=decide_eq_true nL;clear nL;replace H:=bS H;obtain ⟨Em,rC,H⟩:=H
     by_cases nv:Em<0
     ·rw [if_pos nv] at H
      have MW:=decide_eq_true nv
      clear nv
      have H':=ak H
      clear H
      try go_wp2
      replace bz:=ak (Kd.cy bz.out)
      replace HK:=ak (Kept.drew HK.out)
      replace HB:=ak (cJ HB.out)
      obtain ⟨Qy,ML,wj⟩:=Kd.dc bz.out
      (first|subst wj|(injection wj with rU zj rT;have zi:=rU.symm;have zh:=rT.symm;clear rU zj rT;subst zi;subst zh))
      obtain ⟨ac4,acO,yF,UD,tG⟩:=m5 (Kd.bh (Kd.bL bz.out).2.2 (Cv))
      cases UD
      obtain ⟨ac3,acN,Nf,UC,tF⟩:=m5 (Kd.bh (Kd.bL bz.out).2.2 a1)
      obtain rfl:yF=Nf:=(by injection UC)
      refine ef (n:=11) (S:=fun w'=>w'.cell? (yF.add ((Cv)).toNat)=some (.string (aV ByteArray.empty l0 (Cv)))∧w'.cell? (yF.add (a1).toNat)=some (.string (aV ByteArray.empty l0 a1))) (ds:=[]) (bl 11 0) (by kernel_rfl) rfl rfl ⟨tG,tF⟩ (fun an=> ?_);refine bW aa.y4 aa.rX (fun aC eE=> ?_)
      generalize wr.drew=QF at bz HK HB tG tF an⊢
      refine ag 0 (some 40) 11 1 aC ?_
      refine ag 1 (some 41) 11 3 aC ?_
      refine ag 2 (some 42) 11 7 aC ?_
      refine ag 3 (some 43) 11 15 aC ?_
      refine ag 5 (some 45) 11 47 aC ?_
      refine ag 6 (some 46) 11 111 aC ?_
      refine ag 7 (some 47) 11 239 aC ?_
      refine cl 4 (some 44) 11 255 aC eE an ?_ (hy:=by rintro w' ⟨s0,s1⟩;go_simp;with_reducible rfl)
      refine cl 8 (some 48) 11 511 aC eE an ?_ (hy:=by rintro w' ⟨s0,s1⟩;go_simp;with_reducible rfl)
      refine gv 9 (some 49) 11 1023 aC (fun K hK=> ?_)
      refine n7 Tryz.func107 (by kernel_rfl) rfl #[.string (aV ByteArray.empty l0 (Cv)),.string (aV ByteArray.empty l0 a1)] (by rfl) rfl rfl rfl (by (try simp only [List.map_toArray,List.map_cons,List.map_nil]);first|done|(simp only [Fp];rfl)|rfl|(simp only [List.length_drop,List.length_take];rfl)) ?_
      with_reducible refine (bZ.calls (aV ByteArray.empty l0 (Cv)) (aV ByteArray.empty l0 a1) Em _ rC.out).mono ?_
      rintro e w' ⟨rfl,⟨nd,rfl⟩⟩
      refine ⟨_,rfl,?_⟩
      refine hK.out _ _ ⟨an.1,an.2⟩ (fun an=> ?_)
      clear hK K
      refine dF (a':= ?_) ?_ ?_
      rotate_left
      ·show Act.put _ (some 49) _=_
       simp only [Act.put,List.setIfInBounds_toArray,List.set_cons_zero,List.set_cons_succ,bX,cL]
       rfl
      refine ag 10 (some 50) 11 2047 aC ?_
      refine fm (cW aC.out (by kernel_rfl)) ?_
      try go_wp2
      go_roundg k1
      case measure=>have:=fP.out;omega
      case rel=>exact ⟨(wrap64 ((Cv)+1)),(fL),(by first|rfl|(simp;done)|(simp only [←Fp]<;>(first|rfl|simp))|(simp [*];done)),er,H',⟨by have:=fP.out;omega⟩,⟨fy bz⟩,⟨kY HK⟩,⟨ai HB⟩⟩
     ·rw [if_neg nv] at H
      have MW:=decide_eq_false nv
      clear nv
      have H':=ak H
      clear H
      try go_wp2
      replace bz:=ak (Kd.cy bz.out)
      replace HK:=ak (Kept.drew HK.out)
      replace HB:=ak (cJ HB.out)
      obtain ⟨wq,wk,ua⟩:=Kd.dc bz.out
      (first|subst ua|(injection ua with rU zj rT;have zi:=rU.symm;have zh:=rT.symm;clear rU zj rT;subst zi;subst zh))
      obtain ⟨ac4,acO,yF,UD,tG⟩:=m5 (Kd.bh (Kd.bL bz.out).2.2 (Cv))
      cases UD
      obtain ⟨ac3,acN,Nf,UC,tF⟩:=m5 (Kd.bh (Kd.bL bz.out).2.2 a1)
      obtain rfl:yF=Nf:=(by injection UC)
      refine ef (n:=11) (S:=fun w'=>w'.cell? (yF.add ((Cv)).toNat)=some (.string (aV ByteArray.empty l0 (Cv)))∧w'.cell? (yF.add (a1).toNat)=some (.string (aV ByteArray.empty l0 a1))) (ds:=[]) (bl 11 0) (by kernel_rfl) rfl rfl ⟨tG,tF⟩ (fun an=> ?_);refine bW aa.y4 aa.rX (fun aC eE=> ?_)
      generalize wr.drew=Ko at bz HK HB tG tF an⊢
      refine ag 0 (some 40) 11 1 aC ?_
      refine ag 1 (some 41) 11 3 aC ?_
      refine ag 2 (some 42) 11 7 aC ?_
      refine ag 3 (some 43) 11 15 aC ?_
      refine ag 5 (some 45) 11 47 aC ?_
      refine ag 6 (some 46) 11 111 aC ?_
      refine ag 7 (some 47) 11 239 aC ?_
      refine cl 4 (some 44) 11 255 aC eE an ?_ (hy:=by rintro w' ⟨s0,s1⟩;go_simp;with_reducible rfl)
      refine cl 8 (some 48) 11 511 aC eE an ?_ (hy:=by rintro w' ⟨s0,s1⟩;go_simp;with_reducible rfl)
      refine gv 9 (some 49) 11 1023 aC (fun K hK=> ?_)
      refine n7 Tryz.func107 (by kernel_rfl) rfl #[.string (aV ByteArray.empty l0 (Cv)),.string (aV ByteArray.empty l0 a1)] (by rfl) rfl rfl rfl (by (try simp only [List.map_toArray,List.map_cons,List.map_nil]);first|done|(simp only [Fp];rfl)|rfl|(simp only [List.length_drop,List.length_take];rfl)) ?_
      with_reducible refine (bZ.calls (aV ByteArray.empty l0 (Cv)) (aV ByteArray.empty l0 a1) Em _ rC.out).mono ?_
      rintro e w' ⟨rfl,⟨nd,rfl⟩⟩
      refine ⟨_,rfl,?_⟩
      refine hK.out _ _ ⟨an.1,an.2⟩ (fun an=> ?_)
      clear hK K
      refine dF (a':= ?_) ?_ ?_
      rotate_left
      ·show Act.put _ (some 49) _=_
       simp only [Act.put,List.setIfInBounds_toArray,List.set_cons_zero,List.set_cons_succ,bX,cL]
       rfl
      refine ag 10 (some 50) 11 2047 aC ?_
      refine fm (cW aC.out (by kernel_rfl)) ?_
      try go_wp2
      go_roundg k1
      case measure=>have:=fP.out;omega
      case rel=>exact ⟨(fu),(Cv),er,(by first|rfl|(simp;done)|(simp only [←Fp]<;>(first|rfl|simp))|(simp [*];done)),H',⟨by have:=fP.out;omega⟩,⟨fy bz⟩,⟨kY HK⟩,⟨ai HB⟩⟩
    ·rw [if_neg c7] at H
     have rF:=decide_eq_false c7
     clear c7
     have H':=ak H
     clear H;go_wp2
     go_loopg [13] k1 (fun kq Oa w'=>∃(eN:List ByteArray) (ki:Int),Oa= .int .i64 ki∧Aside0 (aa.l1 kq eN fu ki=some r)∧Aside0 (kq≤k1)∧Aside0 (Kd.R Kd.string 9 w' w0.heap.size (fun k_=>(iM k_∨w.heap.size≤k_)) ej eN)∧Aside0 (Kept w w' (fun k_=>iM k_))∧Aside0 (Below w0.heap.size w0 w'))
     case atStart=>exact ⟨(l0),(a1),er,H',⟨Nat.le_refl _⟩,⟨fy bz⟩,⟨kY HK⟩,⟨ai HB⟩⟩
     case round=>as_aux_lemma=>
      clear H'
      (try clear rF)
      obtain ⟨eN,ki,rfl,HA,jj,bz,HK,HB⟩:=hrel
      cases gk with
      |zero=>exact absurd HA.out (by simp [aa.l1])
      |succ k2=>
       have H:=HA.out;clear HA
       simp only [aa.l1] at H
       by_cases P5:ki<(wrap64 (fu-1))
       ·rw [if_pos P5] at H
        have Zw:=decide_eq_true P5
        clear P5
        obtain ⟨ow,Hy⟩:∃j_:Int,(wrap64 (ki+1))=j_:=⟨_,rfl⟩
        replace H:(if 0≤(ow) then (if (ow)<(eN.length:Int) then (if 0≤ki then (if ki<(eN.length:Int) then (aa.l1 k2 ((eN.set (ki:Int).toNat (aV ByteArray.empty eN (ow))).set ((ow):Int).toNat (aV ByteArray.empty eN ki)) fu ow) else (none)) else (none)) else (none)) else (none))=some r:=by first|(rw [Hy] at H;exact H)|(simp only [Hy] at H⊢;exact H)
        have adx:(IntKind.i64.wrap (ki+1))=ow:=(bX _).trans Hy
        replace H:=cZ H;obtain ⟨Ky,H⟩:=H;have DJ:=decide_eq_true Ky;clear Ky;replace H:=cZ H;obtain ⟨Ca,H⟩:=H;have rV:=decide_eq_true Ca;clear Ca;replace H:=cZ H;obtain ⟨Kx,H⟩:=H;have Rz:=decide_eq_true Kx;clear Kx;replace H:=cZ H;obtain ⟨Wk,H⟩:=H;have Ry:=decide_eq_true Wk;clear Wk
        obtain ⟨Wt,eZ⟩:∃y_:List ByteArray,y_=(eN.set (ki:Int).toNat (aV ByteArray.empty eN (ow))):=⟨_,rfl⟩
        replace H:(aa.l1 k2 (Wt.set ((ow):Int).toNat (aV ByteArray.empty eN ki)) fu ow)=some r:=yH
        have aaw:=ak eZ;clear eZ
        obtain ⟨Ws,eZ⟩:∃y_:List ByteArray,y_=(Wt.set ((ow):Int).toNat (aV ByteArray.empty eN ki)):=⟨_,rfl⟩
        replace H:(aa.l1 k2 Ws fu ow)=some r:=yH
        have aav:=ak eZ;clear eZ
        have H':=ak H
        clear H
        try go_wp2
        replace bz:=ak (Kd.cy bz.out)
        replace HK:=ak (Kept.drew HK.out)
        replace HB:=ak (cJ HB.out)
        obtain ⟨ahR,ahy,YP⟩:=Kd.dc bz.out
        (first|subst YP|(injection YP with rU zj rT;have zi:=rU.symm;have zh:=rT.symm;clear rU zj rT;subst zi;subst zh))
        obtain ⟨ag9,agY,ZP,aep,Ba⟩:=m5 (Kd.bh (Kd.bL bz.out).2.2 (ow))
        cases aep
        obtain ⟨ag8,agX,ZO,aeo,AZ⟩:=m5 (Kd.bh (Kd.bL bz.out).2.2 ki)
        obtain rfl:ZP=ZO:=(by injection aeo)
        have p25:0≤(ki:Int):=da
        have q25:(ki:Int)<((eN.length:Int):Int):=da
        obtain ⟨JO,ahA,YQ,YC,ad3,ahE,abk⟩:=Kd.yK bz.out (by omega)
        (first|cases YQ|(injection YQ with wL PX PY;(first|subst wL|(injection wL with wL;subst wL));subst PY;clear PX))
        have abq:=Aside0.mk YC;have ae8:=ak abk;clear YC ad3 abk
        have NK:=ak (show (iM JO∨w.heap.size≤JO) from (bz.out.1 _ rfl))
        (first|simp only [add_plain] at Ba|skip)
        (first|simp only [add_plain] at AZ|skip)
        obtain ⟨Tz,Uh⟩:=Kd.m6 (⟨#[]⟩:ByteArray) bz.out (ki:Int) p25 q25
        replace p25:=eq_true p25;replace q25:=eq_true q25
        have VI:=Kd.pN bz.out (ki:Int) (aV ByteArray.empty eN (ow))
        rw [←aaw.out] at VI
        have VC:=ak VI;clear VI
        have p26:0≤((ow):Int):=da
        have q26:((ow):Int)<((eN.length:Int):Int):=da
        obtain ⟨Ty,Ug⟩:=Kd.m6 (⟨#[]⟩:ByteArray) VC.out ((ow):Int) p26 q26
        replace p26:=eq_true p26;replace q26:=eq_true q26
        have VH:=Kd.pN VC.out ((ow):Int) (aV ByteArray.empty eN ki)
        rw [←aav.out] at VH
        have aaZ:=ak VH;clear VH
        refine ef (n:=18) (S:=fun w'=>w'.cell? ⟨JO,((ow)).toNat,none⟩=some (.string (aV ByteArray.empty eN (ow)))∧w'.cell? ⟨JO,(ki).toNat,none⟩=some (.string (aV ByteArray.empty eN ki))) (ds:=[15,17]) (bl 18 0) (by kernel_rfl) rfl rfl ⟨Ba,AZ⟩ (fun an=> ?_);refine bW aa.KM aa.F6 (fun aC eE=> ?_)
        generalize wr.drew=w27 at bz HK HB ae8 VC aaZ Uh Ug Tz Ty Ba AZ an⊢
        refine ag 0 (some 61) 18 1 aC ?_
        refine ag 1 (some 62) 18 3 aC ?_
        refine ag 2 (some 63) 18 7 aC ?_
        refine ag 3 (some 64) 18 15 aC ?_
        refine ag 4 (some 65) 18 31 aC ?_
        refine ag 5 (some 66) 18 63 aC ?_
        refine ag 6 (some 67) 18 127 aC ?_
        refine ag 7 (some 68) 18 255 aC ?_
        refine ag 8 (some 69) 18 511 aC ?_
        refine ag 10 (some 71) 18 1535 aC ?_
        refine ag 11 (some 72) 18 3583 aC ?_
        refine ag 12 (some 73) 18 7679 aC ?_
        refine cl 9 (some 70) 18 8191 aC eE an ?_ (hy:=by rintro w' ⟨s0,s1⟩;go_simp;with_reducible rfl)
        refine cl 13 (some 74) 18 16383 aC eE an ?_ (hy:=by rintro w' ⟨s0,s1⟩;go_simp;with_reducible rfl)
        refine ag 14 (some 75) 18 32767 aC ?_
        refine mm (i:=15) (N:=none) (bl 18 65535) rfl rfl (jH aC.out (by kernel_rfl)) (by decide) (fun K hK=> ?_)
        refine kW (w1:= ?_) (by rfl) rfl ?_ ?_
        rotate_left
        ·go_simp
         rfl
        refine hK.out _ _ ?_
        clear hK K
        refine ag 16 (some 76) 18 131071 aC ?_
        refine mm (i:=17) (N:=none) (bl 18 262143) rfl rfl (jH aC.out (by kernel_rfl)) (by decide) (fun K hK=> ?_)
        refine kW (w1:= ?_) (by rfl) rfl ?_ ?_
        rotate_left
        ·go_simp
         rfl
        refine hK.out _ _ ?_
        clear hK K
        refine fm (cW aC.out (by kernel_rfl)) ?_
        try go_wp2
        (first|go_roundg k2|((try rw [←add_plain JO ((ow):Int).toNat]);(try rw [←add_plain JO (ki:Int).toNat]);go_roundg k2))
        case measure=>have:=fP.out;have:=jj.out;omega
        case rel=>exact ⟨(Ws),(ow),(by first|rfl|(simp;done)|(simp only [←Hy]<;>(first|rfl|simp))|(simp [*];done)),H',⟨by have:=fP.out;have:=jj.out;omega⟩,⟨fy aaZ⟩,⟨by repeat (first|(with_reducible first|exact HK.out|apply Kept.alloc|apply Kept.drewN|apply Kept.drew|refine Kept.setCell ?_ NK.out _|refine Kept.setCell ?_ NK.out _)|exact HK.out)⟩,⟨by repeat (first|(with_reducible first|exact HB.out|apply dA|apply dS|apply cJ|refine dX ?_ abq.out|refine dX ?_ abq.out)|exact HB.out)⟩⟩
       ·rw [if_neg P5] at H
        have Zw:=decide_eq_false P5
        clear P5
        obtain rfl:=Option.some.inj H
        go_wp2
        first|go_end0|((try simp only [Exit.inBlock,Exit.then]);refine bodyPost_ret (results_none rfl _ _ _) rfl ?_)
        exact ⟨jT,by (with_reducible repeat (first|apply Kd.cu|apply Kd.ct|apply Kd.cy));exact bz.out,ai HB,kY HK⟩
 ·rw [if_neg c6] at H
  have jz:=jV c6
  have qz:=jU c6
  by_cases yh:(wrap64 (a3-a2))=1
  ·rw [if_pos yh] at H
   have yg:=kI yh
   have Ih:=kH yh
   clear yh
   have H':=ak H
   clear H
   go_enter Tryz.func136,Tryz.ntmps136
   go_wp2
   go_loopg [14,15] k (fun kq v14 v15 w'=>∃(oC:Int) (mI:Int),v14= .int .i64 oC∧v15= .int .i64 mI∧Aside0 (aa.l2 kq l0 a2 oC mI=some r)∧Aside0 (kq≤k)∧Aside0 (Kd.R Kd.string 9 w' w0.heap.size (fun k_=>(iM k_∨w.heap.size≤k_)) ej l0)∧Aside0 (Kept w w' (fun k_=>iM k_))∧Aside0 (Below w0.heap.size w0 w'))
   case atStart=>exact ⟨(a1),(a2),er,er,H',⟨Nat.le_refl _⟩,⟨fy Cm⟩,⟨kY HK⟩,⟨ai HB⟩⟩
   case round=>as_aux_lemma=>
    clear H'
    (try clear c6);(try clear jz);(try clear qz);(try clear yg);(try clear Ih)
    obtain ⟨oC,mI,rfl,rfl,HA,fP,bz,HK,HB⟩:=hrel
    cases gk with
    |zero=>exact absurd HA.out (by simp [aa.l2])
    |succ k1=>
     have H:=HA.out;clear HA
     simp only [aa.l2] at H
     by_cases FZ:oC<mI
     ·rw [if_pos FZ] at H
      have DH:=decide_eq_true FZ
      clear FZ;replace H:=cZ H;obtain ⟨Rx,H⟩:=H;have Rw:=decide_eq_true Rx;clear Rx;replace H:=cZ H;obtain ⟨Rv,H⟩:=H;have Ru:=decide_eq_true Rv;clear Rv
      obtain ⟨qf,xT⟩:∃j_:Int,(wrap64 ((IntKind.u64.wrap (wrap64 (oC+mI)))/2))=j_:=⟨_,rfl⟩
      replace H:(if 0≤(qf) then (if (qf)<(l0.length:Int) then ((bZ.f (aV ByteArray.empty l0 a2) (aV ByteArray.empty l0 (qf))).bind fun El=>(if El<0 then (aa.l2 k1 l0 a2 oC qf) else (aa.l2 k1 l0 a2 (wrap64 ((qf)+1)) mI))) else (none)) else (none))=some r:=by first|(rw [xT] at H;exact H)|(simp only [xT] at H⊢;exact H)
      have adw:(IntKind.i64.wrap ((IntKind.u64.wrap (wrap64 (oC+mI)))/2))=qf:=(bX _).trans xT
      replace H:=cZ H;obtain ⟨Kw,H⟩:=H;have afQ:=decide_eq_true Kw;clear Kw;replace H:=cZ H;obtain ⟨c37,H⟩:=H;have afP:=decide_eq_true c37;clear c37;replace H:=bS H;obtain ⟨El,A38,H⟩:=H
      by_cases Wj:El<0
      ·rw [if_pos Wj] at H
       have Zo:=decide_eq_true Wj
       clear Wj
       have H':=ak H
       clear H
       try go_wp2
       replace bz:=ak (Kd.cy bz.out)
       replace HK:=ak (Kept.drew HK.out)
       replace HB:=ak (cJ HB.out)
       obtain ⟨ahP,ahw,YO⟩:=Kd.dc bz.out
       (first|subst YO|(injection YO with rU zj rT;have zi:=rU.symm;have zh:=rT.symm;clear rU zj rT;subst zi;subst zh))
       obtain ⟨ac2,acM,yE,UB,tE⟩:=m5 (Kd.bh (Kd.bL bz.out).2.2 a2)
       cases UB
       obtain ⟨ac1,acL,Nd,UA,tD⟩:=m5 (Kd.bh (Kd.bL bz.out).2.2 (qf))
       obtain rfl:yE=Nd:=(by injection UA)
       refine ef (n:=12) (S:=fun w'=>w'.cell? (yE.add (a2).toNat)=some (.string (aV ByteArray.empty l0 a2))∧w'.cell? (yE.add ((qf)).toNat)=some (.string (aV ByteArray.empty l0 (qf)))) (ds:=[]) (bl 12 0) (by kernel_rfl) rfl rfl ⟨tE,tD⟩ (fun an=> ?_);refine bW aa.QI aa.M7 (fun aC eE=> ?_)
       generalize wr.drew=w40 at bz HK HB tE tD an⊢
       refine ag 0 (some 92) 12 1 aC ?_
       refine ag 1 (some 93) 12 3 aC ?_
       refine ag 2 (some 94) 12 7 aC ?_
       refine ag 3 (some 95) 12 15 aC ?_
       refine ag 5 (some 97) 12 47 aC ?_
       refine ag 6 (some 98) 12 111 aC ?_
       refine ag 7 (some 99) 12 239 aC ?_
       refine cl 4 (some 96) 12 255 aC eE an ?_ (hy:=by rintro w' ⟨s0,s1⟩;go_simp;with_reducible rfl)
       refine cl 8 (some 100) 12 511 aC eE an ?_ (hy:=by rintro w' ⟨s0,s1⟩;go_simp;with_reducible rfl)
       refine gv 9 (some 101) 12 1023 aC (fun K hK=> ?_)
       refine n7 Tryz.func107 (by kernel_rfl) rfl #[.string (aV ByteArray.empty l0 a2),.string (aV ByteArray.empty l0 (qf))] (by rfl) rfl rfl rfl (by (try simp only [List.map_toArray,List.map_cons,List.map_nil]);first|done|(simp only [xT];rfl)|rfl|(simp only [List.length_drop,List.length_take];rfl)) ?_
       with_reducible refine (bZ.calls (aV ByteArray.empty l0 a2) (aV ByteArray.empty l0 (qf)) El _ A38.out).mono ?_
       rintro e w' ⟨rfl,⟨nd,rfl⟩⟩
       refine ⟨_,rfl,?_⟩
       refine hK.out _ _ ⟨an.1,an.2⟩ (fun an=> ?_)
       clear hK K
       refine dF (a':= ?_) ?_ ?_
       rotate_left
       ·show Act.put _ (some 101) _=_
        simp only [Act.put,List.setIfInBounds_toArray,List.set_cons_zero,List.set_cons_succ,bX,cL]
        rfl
       refine ag 10 (some 102) 12 2047 aC ?_
       refine ag 11 (some 103) 12 4095 aC ?_
       refine fm (cW aC.out (by kernel_rfl)) ?_
       try go_wp2
       go_roundg k1
       case measure=>have:=fP.out;omega
       case rel=>exact ⟨(oC),(qf),er,(by first|rfl|(simp;done)|(simp only [←xT]<;>(first|rfl|simp))|(simp [*];done)),H',⟨by have:=fP.out;omega⟩,⟨fy bz⟩,⟨kY HK⟩,⟨ai HB⟩⟩
      ·rw [if_neg Wj] at H
       have Zo:=decide_eq_false Wj
       clear Wj
       have H':=ak H
       clear H
       try go_wp2
       replace bz:=ak (Kd.cy bz.out)
       replace HK:=ak (Kept.drew HK.out)
       replace HB:=ak (cJ HB.out)
       obtain ⟨ahO,ahv,YN⟩:=Kd.dc bz.out
       (first|subst YN|(injection YN with rU zj rT;have zi:=rU.symm;have zh:=rT.symm;clear rU zj rT;subst zi;subst zh))
       obtain ⟨ac2,acM,yE,UB,tE⟩:=m5 (Kd.bh (Kd.bL bz.out).2.2 a2)
       cases UB
       obtain ⟨ac1,acL,Nd,UA,tD⟩:=m5 (Kd.bh (Kd.bL bz.out).2.2 (qf))
       obtain rfl:yE=Nd:=(by injection UA)
       refine ef (n:=12) (S:=fun w'=>w'.cell? (yE.add (a2).toNat)=some (.string (aV ByteArray.empty l0 a2))∧w'.cell? (yE.add ((qf)).toNat)=some (.string (aV ByteArray.empty l0 (qf)))) (ds:=[]) (bl 12 0) (by kernel_rfl) rfl rfl ⟨tE,tD⟩ (fun an=> ?_);refine bW aa.QI aa.M7 (fun aC eE=> ?_)
       generalize wr.drew=w42 at bz HK HB tE tD an⊢
       refine ag 0 (some 92) 12 1 aC ?_
       refine ag 1 (some 93) 12 3 aC ?_
       refine ag 2 (some 94) 12 7 aC ?_
       refine ag 3 (some 95) 12 15 aC ?_
       refine ag 5 (some 97) 12 47 aC ?_
       refine ag 6 (some 98) 12 111 aC ?_
       refine ag 7 (some 99) 12 239 aC ?_
       refine cl 4 (some 96) 12 255 aC eE an ?_ (hy:=by rintro w' ⟨s0,s1⟩;go_simp;with_reducible rfl)
       refine cl 8 (some 100) 12 511 aC eE an ?_ (hy:=by rintro w' ⟨s0,s1⟩;go_simp;with_reducible rfl)
       refine gv 9 (some 101) 12 1023 aC (fun K hK=> ?_)
       refine n7 Tryz.func107 (by kernel_rfl) rfl #[.string (aV ByteArray.empty l0 a2),.string (aV ByteArray.empty l0 (qf))] (by rfl) rfl rfl rfl (by (try simp only [List.map_toArray,List.map_cons,List.map_nil]);first|done|(simp only [xT];rfl)|rfl|(simp only [List.length_drop,List.length_take];rfl)) ?_
       with_reducible refine (bZ.calls (aV ByteArray.empty l0 a2) (aV ByteArray.empty l0 (qf)) El _ A38.out).mono ?_
       rintro e w' ⟨rfl,⟨nd,rfl⟩⟩
       refine ⟨_,rfl,?_⟩
       refine hK.out _ _ ⟨an.1,an.2⟩ (fun an=> ?_)
       clear hK K
       refine dF (a':= ?_) ?_ ?_
       rotate_left
       ·show Act.put _ (some 101) _=_
        simp only [Act.put,List.setIfInBounds_toArray,List.set_cons_zero,List.set_cons_succ,bX,cL]
        rfl
       refine ag 10 (some 102) 12 2047 aC ?_
       refine ag 11 (some 103) 12 4095 aC ?_
       refine fm (cW aC.out (by kernel_rfl)) ?_
       try go_wp2
       go_roundg k1
       case measure=>have:=fP.out;omega
       case rel=>exact ⟨(wrap64 ((qf)+1)),(mI),(by first|rfl|(simp;done)|(simp only [←xT]<;>(first|rfl|simp))|(simp [*];done)),er,H',⟨by have:=fP.out;omega⟩,⟨fy bz⟩,⟨kY HK⟩,⟨ai HB⟩⟩
     ·rw [if_neg FZ] at H
      have DH:=decide_eq_false FZ
      clear FZ
      have H':=ak H
      clear H;go_wp2
      go_loopg [17] k1 (fun kq v17 w'=>∃(eN:List ByteArray) (kf:Int),v17= .int .i64 kf∧Aside0 (aa.l3 kq eN oC kf=some r)∧Aside0 (kq≤k1)∧Aside0 (Kd.R Kd.string 9 w' w0.heap.size (fun k_=>(iM k_∨w.heap.size≤k_)) ej eN)∧Aside0 (Kept w w' (fun k_=>iM k_))∧Aside0 (Below w0.heap.size w0 w'))
      case atStart=>exact ⟨(l0),(a2),er,H',⟨Nat.le_refl _⟩,⟨fy bz⟩,⟨kY HK⟩,⟨ai HB⟩⟩
      case round=>as_aux_lemma=>
       clear H'
       (try clear DH)
       obtain ⟨eN,kf,rfl,HA,jj,bz,HK,HB⟩:=hrel
       cases gk with
       |zero=>exact absurd HA.out (by simp [aa.l3])
       |succ k2=>
        have H:=HA.out;clear HA
        simp only [aa.l3] at H
        by_cases P4:kf>oC
        ·rw [if_pos P4] at H
         have Rq:=H6 P4
         clear P4
         obtain ⟨ov,Hw⟩:∃j_:Int,(wrap64 (kf-1))=j_:=⟨_,rfl⟩
         replace H:(if 0≤(ov) then (if (ov)<(eN.length:Int) then (if 0≤kf then (if kf<(eN.length:Int) then (aa.l3 k2 ((eN.set (kf:Int).toNat (aV ByteArray.empty eN (ov))).set ((ov):Int).toNat (aV ByteArray.empty eN kf)) oC ov) else (none)) else (none)) else (none)) else (none))=some r:=by first|(rw [Hw] at H;exact H)|(simp only [Hw] at H⊢;exact H)
         have adu:(IntKind.i64.wrap (kf-1))=ov:=(bX _).trans Hw
         replace H:=cZ H;obtain ⟨c46,H⟩:=H;have afN:=decide_eq_true c46;clear c46;replace H:=cZ H;obtain ⟨U9,H⟩:=H;have afM:=decide_eq_true U9;clear U9;replace H:=cZ H;obtain ⟨P3,H⟩:=H;have Rp:=decide_eq_true P3;clear P3;replace H:=cZ H;obtain ⟨Zj,H⟩:=H;have afL:=decide_eq_true Zj;clear Zj
         obtain ⟨Wr,eZ⟩:∃y_:List ByteArray,y_=(eN.set (kf:Int).toNat (aV ByteArray.empty eN (ov))):=⟨_,rfl⟩
         replace H:(aa.l3 k2 (Wr.set ((ov):Int).toNat (aV ByteArray.empty eN kf)) oC ov)=some r:=yH
         have aau:=ak eZ;clear eZ
         obtain ⟨Wq,eZ⟩:∃y_:List ByteArray,y_=(Wr.set ((ov):Int).toNat (aV ByteArray.empty eN kf)):=⟨_,rfl⟩
         replace H:(aa.l3 k2 Wq oC ov)=some r:=yH
         have aat:=ak eZ;clear eZ
         have H':=ak H
         clear H
         try go_wp2
         replace bz:=ak (Kd.cy bz.out)
         replace HK:=ak (Kept.drew HK.out)
         replace HB:=ak (cJ HB.out)
         obtain ⟨ahM,ahs,YL⟩:=Kd.dc bz.out
         (first|subst YL|(injection YL with rU zj rT;have zi:=rU.symm;have zh:=rT.symm;clear rU zj rT;subst zi;subst zh))
         obtain ⟨ag7,agW,ZN,aen,AY⟩:=m5 (Kd.bh (Kd.bL bz.out).2.2 (ov))
         cases aen
         obtain ⟨ag6,agV,ZM,aem,AX⟩:=m5 (Kd.bh (Kd.bL bz.out).2.2 kf)
         obtain rfl:ZN=ZM:=(by injection aem)
         have p50:0≤(kf:Int):=da
         have q50:(kf:Int)<((eN.length:Int):Int):=da
         obtain ⟨JN,aht,YM,Yy,ad2,ahD,abj⟩:=Kd.yK bz.out (by omega)
         (first|cases YM|(injection YM with wL PX PY;(first|subst wL|(injection wL with wL;subst wL));subst PY;clear PX))
         have abp:=Aside0.mk Yy;have ae7:=ak abj;clear Yy ad2 abj
         have NJ:=ak (show (iM JN∨w.heap.size≤JN) from (bz.out.1 _ rfl))
         (first|simp only [add_plain] at AY|skip)
         (first|simp only [add_plain] at AX|skip)
         obtain ⟨Tx,Uf⟩:=Kd.m6 (⟨#[]⟩:ByteArray) bz.out (kf:Int) p50 q50
         replace p50:=eq_true p50;replace q50:=eq_true q50
         have VG:=Kd.pN bz.out (kf:Int) (aV ByteArray.empty eN (ov))
         rw [←aau.out] at VG
         have VB:=ak VG;clear VG
         have p51:0≤((ov):Int):=da
         have q51:((ov):Int)<((eN.length:Int):Int):=da
         obtain ⟨Tw,Ue⟩:=Kd.m6 (⟨#[]⟩:ByteArray) VB.out ((ov):Int) p51 q51
         replace p51:=eq_true p51;replace q51:=eq_true q51
         have VF:=Kd.pN VB.out ((ov):Int) (aV ByteArray.empty eN kf)
         rw [←aat.out] at VF
         have aaY:=ak VF;clear VF
         refine ef (n:=18) (S:=fun w'=>w'.cell? ⟨JN,((ov)).toNat,none⟩=some (.string (aV ByteArray.empty eN (ov)))∧w'.cell? ⟨JN,(kf).toNat,none⟩=some (.string (aV ByteArray.empty eN kf))) (ds:=[15,17]) (bl 18 0) (by kernel_rfl) rfl rfl ⟨AY,AX⟩ (fun an=> ?_);refine bW aa.Xd aa.Vi (fun aC eE=> ?_)
         generalize wr.drew=w52 at bz HK HB ae7 VB aaY Uf Ue AY AX Tx Tw an⊢
         refine ag 0 (some 113) 18 1 aC ?_
         refine ag 1 (some 114) 18 3 aC ?_
         refine ag 2 (some 115) 18 7 aC ?_
         refine ag 3 (some 116) 18 15 aC ?_
         refine ag 4 (some 117) 18 31 aC ?_
         refine ag 5 (some 118) 18 63 aC ?_
         refine ag 6 (some 119) 18 127 aC ?_
         refine ag 7 (some 120) 18 255 aC ?_
         refine ag 8 (some 121) 18 511 aC ?_
         refine ag 10 (some 123) 18 1535 aC ?_
         refine ag 11 (some 124) 18 3583 aC ?_
         refine ag 12 (some 125) 18 7679 aC ?_
         refine cl 9 (some 122) 18 8191 aC eE an ?_ (hy:=by rintro w' ⟨s0,s1⟩;go_simp;with_reducible rfl)
         refine cl 13 (some 126) 18 16383 aC eE an ?_ (hy:=by rintro w' ⟨s0,s1⟩;go_simp;with_reducible rfl)
         refine ag 14 (some 127) 18 32767 aC ?_
         refine mm (i:=15) (N:=none) (bl 18 65535) rfl rfl (jH aC.out (by kernel_rfl)) (by decide) (fun K hK=> ?_)
         refine kW (w1:= ?_) (by rfl) rfl ?_ ?_
         rotate_left
         ·go_simp
          rfl
         refine hK.out _ _ ?_
         clear hK K
         refine ag 16 (some 128) 18 131071 aC ?_
         refine mm (i:=17) (N:=none) (bl 18 262143) rfl rfl (jH aC.out (by kernel_rfl)) (by decide) (fun K hK=> ?_)
         refine kW (w1:= ?_) (by rfl) rfl ?_ ?_
         rotate_left
         ·go_simp
          rfl
         refine hK.out _ _ ?_
         clear hK K
         refine fm (cW aC.out (by kernel_rfl)) ?_
         try go_wp2
         (first|go_roundg k2|((try rw [←add_plain JN ((ov):Int).toNat]);(try rw [←add_plain JN (kf:Int).toNat]);go_roundg k2))
         case measure=>have:=fP.out;have:=jj.out;omega
         case rel=>exact ⟨(Wq),(ov),(by first|rfl|(simp;done)|(simp only [←Hw]<;>(first|rfl|simp))|(simp [*];done)),H',⟨by have:=fP.out;have:=jj.out;omega⟩,⟨fy aaY⟩,⟨by repeat (first|(with_reducible first|exact HK.out|apply Kept.alloc|apply Kept.drewN|apply Kept.drew|refine Kept.setCell ?_ NJ.out _|refine Kept.setCell ?_ NJ.out _)|exact HK.out)⟩,⟨by repeat (first|(with_reducible first|exact HB.out|apply dA|apply dS|apply cJ|refine dX ?_ abp.out|refine dX ?_ abp.out)|exact HB.out)⟩⟩
        ·rw [if_neg P4] at H
         have Rq:=H7 P4
         clear P4
         obtain rfl:=Option.some.inj H
         go_wp2
         first|go_end0|((try simp only [Exit.inBlock,Exit.then]);refine bodyPost_ret (results_none rfl _ _ _) rfl ?_)
         exact ⟨jT,by (with_reducible repeat (first|apply Kd.cu|apply Kd.ct|apply Kd.cy));exact bz.out,ai HB,kY HK⟩
  ·rw [if_neg yh] at H
   have yg:=jV yh
   have Ih:=jU yh
   have VP:=ak H;clear H
   go_enter Tryz.func136,Tryz.ntmps136
   go_upto_if 140 with (fail)
   go_cut [20,21] (fun v20 v21 wc=>∃(kq:Nat) (Am:Int) (Al:Int),v20= .int .i64 Am∧v21= .int .i64 Al∧Aside0 (aa.j4 kq l0 a1 a2 a3 (wrap64 ((IntKind.u64.wrap (wrap64 (a1+a3)))/2)) (wrap64 ((wrap64 ((IntKind.u64.wrap (wrap64 (a1+a3)))/2))+a2)) Am Al=some r)∧Aside0 (kq≤k)∧Aside0 (Kd.R Kd.string 9 wc w0.heap.size (fun k_=>(iM k_∨w.heap.size≤k_)) ej l0)∧Aside0 (Kept w wc (fun k_=>iM k_))∧Aside0 (Below w0.heap.size w0 wc))
   case first=>
    have H:=VP.out;clear VP
    by_cases Wi:a2>(wrap64 ((IntKind.u64.wrap (wrap64 (a1+a3)))/2))
    ·rw [if_pos Wi] at H
     have DG:=H6 Wi
     clear Wi
     (first|rw [DG]|(simp only [bX,cL];rw [DG])|skip)
     have H':=ak H
     clear H;go_wp2
     go_meet
     case rel=>exact ⟨_,(wrap64 ((wrap64 ((wrap64 ((IntKind.u64.wrap (wrap64 (a1+a3)))/2))+a2))-a3)),(wrap64 ((IntKind.u64.wrap (wrap64 (a1+a3)))/2)),er,er,H',⟨by first|omega|exact Nat.le_refl _⟩,⟨fy Cm⟩,⟨kY HK⟩,⟨ai HB⟩⟩
    ·rw [if_neg Wi] at H
     have DG:=H7 Wi
     clear Wi
     (first|rw [DG]|(simp only [bX,cL];rw [DG])|skip)
     have H':=ak H
     clear H;go_wp2
     go_meet
     case rel=>exact ⟨_,(a1),(a2),er,er,H',⟨by first|omega|exact Nat.le_refl _⟩,⟨fy Cm⟩,⟨kY HK⟩,⟨ai HB⟩⟩
   case rest=>as_aux_lemma=>
    clear VP;(try clear c6);(try clear jz);(try clear qz);(try clear yh);(try clear yg);(try clear Ih)
    obtain ⟨kq,Am,Al,rfl,rfl,HA,sQ,bz,HK,HB⟩:=hcut
    cases kq with
    |zero=>exact absurd HA.out (by simp [aa.j4])
    |succ XQ=>
     have H:=HA.out;clear HA
     simp only [aa.j4] at H
     have H':=ak H
     clear H;go_wp2
     go_loopg [20,21] XQ (fun kq v20 v21 w'=>∃(eS:Int) (mH:Int),v20= .int .i64 eS∧v21= .int .i64 mH∧Aside0 (aa.l4 kq l0 a1 a2 a3 (wrap64 ((IntKind.u64.wrap (wrap64 (a1+a3)))/2)) (wrap64 ((wrap64 ((IntKind.u64.wrap (wrap64 (a1+a3)))/2))+a2)) eS mH (wrap64 ((wrap64 ((wrap64 ((IntKind.u64.wrap (wrap64 (a1+a3)))/2))+a2))-1))=some r)∧Aside0 (kq≤XQ)∧Aside0 (Kd.R Kd.string 9 w' w0.heap.size (fun k_=>(iM k_∨w.heap.size≤k_)) ej l0)∧Aside0 (Kept w w' (fun k_=>iM k_))∧Aside0 (Below w0.heap.size w0 w'))
     case atStart=>exact ⟨(Am),(Al),er,er,H',⟨Nat.le_refl _⟩,⟨fy bz⟩,⟨kY HK⟩,⟨ai HB⟩⟩
     case round=>as_aux_lemma=>
      clear H'
      obtain ⟨eS,mH,rfl,rfl,HA,jj,bz,HK,HB⟩:=hrel
      cases gk with
      |zero=>exact absurd HA.out (by simp [aa.l4])
      |succ k2=>
       have H:=HA.out;clear HA
       simp only [aa.l4] at H
       by_cases Wh:eS<mH
       ·rw [if_pos Wh] at H
        have Ro:=decide_eq_true Wh
        clear Wh
        obtain ⟨sJ,zQ⟩:∃j_:Int,(wrap64 ((wrap64 ((wrap64 ((wrap64 ((IntKind.u64.wrap (wrap64 (a1+a3)))/2))+a2))-1))-(wrap64 ((IntKind.u64.wrap (wrap64 (eS+mH)))/2))))=j_:=⟨_,rfl⟩
        replace H:(if 0≤(sJ) then (if (sJ)<(l0.length:Int) then (if 0≤(wrap64 ((IntKind.u64.wrap (wrap64 (eS+mH)))/2)) then (if (wrap64 ((IntKind.u64.wrap (wrap64 (eS+mH)))/2))<(l0.length:Int) then ((bZ.f (aV ByteArray.empty l0 (sJ)) (aV ByteArray.empty l0 (wrap64 ((IntKind.u64.wrap (wrap64 (eS+mH)))/2)))).bind fun Aq=>(if Aq<0 then (aa.l4 k2 l0 a1 a2 a3 (wrap64 ((IntKind.u64.wrap (wrap64 (a1+a3)))/2)) (wrap64 ((wrap64 ((IntKind.u64.wrap (wrap64 (a1+a3)))/2))+a2)) eS (wrap64 ((IntKind.u64.wrap (wrap64 (eS+mH)))/2)) (wrap64 ((wrap64 ((wrap64 ((IntKind.u64.wrap (wrap64 (a1+a3)))/2))+a2))-1))) else (aa.l4 k2 l0 a1 a2 a3 (wrap64 ((IntKind.u64.wrap (wrap64 (a1+a3)))/2)) (wrap64 ((wrap64 ((IntKind.u64.wrap (wrap64 (a1+a3)))/2))+a2)) (wrap64 ((wrap64 ((IntKind.u64.wrap (wrap64 (eS+mH)))/2))+1)) mH (wrap64 ((wrap64 ((wrap64 ((IntKind.u64.wrap (wrap64 (a1+a3)))/2))+a2))-1))))) else (none)) else (none)) else (none)) else (none))=some r:=by first|(rw [zQ] at H;exact H)|(simp only [zQ] at H⊢;exact H)
        have TR:(IntKind.i64.wrap ((wrap64 ((wrap64 ((wrap64 ((IntKind.u64.wrap (wrap64 (a1+a3)))/2))+a2))-1))-(wrap64 ((IntKind.u64.wrap (wrap64 (eS+mH)))/2))))=sJ:=(bX _).trans zQ
        replace H:=cZ H;obtain ⟨c60,H⟩:=H;have afK:=decide_eq_true c60;clear c60;replace H:=cZ H;obtain ⟨c61,H⟩:=H;have afJ:=decide_eq_true c61;clear c61
        obtain ⟨qd,tT⟩:∃j_:Int,(wrap64 ((IntKind.u64.wrap (wrap64 (eS+mH)))/2))=j_:=⟨_,rfl⟩
        replace H:(if 0≤(qd) then (if (qd)<(l0.length:Int) then ((bZ.f (aV ByteArray.empty l0 (sJ)) (aV ByteArray.empty l0 (qd))).bind fun Aq=>(if Aq<0 then (aa.l4 k2 l0 a1 a2 a3 (wrap64 ((IntKind.u64.wrap (wrap64 (a1+a3)))/2)) (wrap64 ((wrap64 ((IntKind.u64.wrap (wrap64 (a1+a3)))/2))+a2)) eS qd (wrap64 ((wrap64 ((wrap64 ((IntKind.u64.wrap (wrap64 (a1+a3)))/2))+a2))-1))) else (aa.l4 k2 l0 a1 a2 a3 (wrap64 ((IntKind.u64.wrap (wrap64 (a1+a3)))/2)) (wrap64 ((wrap64 ((IntKind.u64.wrap (wrap64 (a1+a3)))/2))+a2)) (wrap64 ((qd)+1)) mH (wrap64 ((wrap64 ((wrap64 ((IntKind.u64.wrap (wrap64 (a1+a3)))/2))+a2))-1))))) else (none)) else (none))=some r:=by first|(rw [tT] at H;exact H)|(simp only [tT] at H⊢;exact H)
        have adt:(IntKind.i64.wrap ((IntKind.u64.wrap (wrap64 (eS+mH)))/2))=qd:=(bX _).trans tT
        (try rw [tT] at zQ)
        (try rw [tT] at TR)
        replace H:=cZ H;obtain ⟨c63,H⟩:=H;have afI:=decide_eq_true c63;clear c63;replace H:=cZ H;obtain ⟨c64,H⟩:=H;have afH:=decide_eq_true c64;clear c64;replace H:=bS H;obtain ⟨Aq,A65,H⟩:=H
        by_cases Wg:Aq<0
        ·rw [if_pos Wg] at H
         have Zg:=decide_eq_true Wg
         clear Wg
         have H':=ak H
         clear H
         try go_wp2
         replace bz:=ak (Kd.cy bz.out)
         replace HK:=ak (Kept.drew HK.out)
         replace HB:=ak (cJ HB.out)
         obtain ⟨ahL,ahr,YK⟩:=Kd.dc bz.out
         (first|subst YK|(injection YK with rU zj rT;have zi:=rU.symm;have zh:=rT.symm;clear rU zj rT;subst zi;subst zh))
         obtain ⟨ac0,acK,yD,Uz,tC⟩:=m5 (Kd.bh (Kd.bL bz.out).2.2 (sJ))
         cases Uz
         obtain ⟨acZ,acJ,Nc,Uy,tw⟩:=m5 (Kd.bh (Kd.bL bz.out).2.2 (qd))
         obtain rfl:yD=Nc:=(by injection Uy)
         refine ef (n:=14) (S:=fun w'=>w'.cell? (yD.add ((sJ)).toNat)=some (.string (aV ByteArray.empty l0 (sJ)))∧w'.cell? (yD.add ((qd)).toNat)=some (.string (aV ByteArray.empty l0 (qd)))) (ds:=[]) (bl 14 0) (by kernel_rfl) rfl rfl ⟨tC,tw⟩ (fun an=> ?_);refine bW aa.QH aa.M6 (fun aC eE=> ?_)
         generalize wr.drew=w67 at bz HK HB tC tw an⊢
         refine ag 0 (some 158) 14 1 aC ?_
         refine ag 1 (some 159) 14 3 aC ?_
         refine ag 2 (some 160) 14 7 aC ?_
         refine ag 3 (some 161) 14 15 aC ?_
         refine ag 4 (some 162) 14 31 aC ?_
         refine ag 5 (some 163) 14 63 aC ?_
         refine ag 7 (some 165) 14 191 aC ?_
         refine ag 8 (some 166) 14 447 aC ?_
         refine ag 9 (some 167) 14 959 aC ?_
         refine cl 6 (some 164) 14 1023 aC eE an ?_ (hy:=by rintro w' ⟨s0,s1⟩;go_simp;with_reducible rfl)
         refine cl 10 (some 168) 14 2047 aC eE an ?_ (hy:=by rintro w' ⟨s0,s1⟩;go_simp;with_reducible rfl)
         refine gv 11 (some 169) 14 4095 aC (fun K hK=> ?_)
         refine n7 Tryz.func107 (by kernel_rfl) rfl #[.string (aV ByteArray.empty l0 (sJ)),.string (aV ByteArray.empty l0 (qd))] (by rfl) rfl rfl rfl (by (try simp only [List.map_toArray,List.map_cons,List.map_nil]);first|done|(simp only [zQ,tT];rfl)|rfl|(simp only [List.length_drop,List.length_take];rfl)) ?_
         with_reducible refine (bZ.calls (aV ByteArray.empty l0 (sJ)) (aV ByteArray.empty l0 (qd)) Aq _ A65.out).mono ?_
         rintro e w' ⟨rfl,⟨nd,rfl⟩⟩
         refine ⟨_,rfl,?_⟩
         refine hK.out _ _ ⟨an.1,an.2⟩ (fun an=> ?_)
         clear hK K
         refine dF (a':= ?_) ?_ ?_
         rotate_left
         ·show Act.put _ (some 169) _=_
          simp only [Act.put,List.setIfInBounds_toArray,List.set_cons_zero,List.set_cons_succ,bX,cL]
          rfl
         refine ag 12 (some 170) 14 8191 aC ?_
         refine ag 13 (some 171) 14 16383 aC ?_
         refine fm (cW aC.out (by kernel_rfl)) ?_
         try go_wp2
         go_roundg k2
         case measure=>have:=sQ.out;have:=jj.out;omega
         case rel=>exact ⟨(eS),(qd),er,(by first|rfl|(simp;done)|(simp only [←tT]<;>(first|rfl|simp))|(simp [*];done)),H',⟨by have:=sQ.out;have:=jj.out;omega⟩,⟨fy bz⟩,⟨kY HK⟩,⟨ai HB⟩⟩
        ·rw [if_neg Wg] at H
         have Zg:=decide_eq_false Wg
         clear Wg
         have H':=ak H
         clear H
         try go_wp2
         replace bz:=ak (Kd.cy bz.out)
         replace HK:=ak (Kept.drew HK.out)
         replace HB:=ak (cJ HB.out)
         obtain ⟨ahK,ahq,YJ⟩:=Kd.dc bz.out
         (first|subst YJ|(injection YJ with rU zj rT;have zi:=rU.symm;have zh:=rT.symm;clear rU zj rT;subst zi;subst zh))
         obtain ⟨ac0,acK,yD,Uz,tC⟩:=m5 (Kd.bh (Kd.bL bz.out).2.2 (sJ))
         cases Uz
         obtain ⟨acZ,acJ,Nc,Uy,tw⟩:=m5 (Kd.bh (Kd.bL bz.out).2.2 (qd))
         obtain rfl:yD=Nc:=(by injection Uy)
         refine ef (n:=14) (S:=fun w'=>w'.cell? (yD.add ((sJ)).toNat)=some (.string (aV ByteArray.empty l0 (sJ)))∧w'.cell? (yD.add ((qd)).toNat)=some (.string (aV ByteArray.empty l0 (qd)))) (ds:=[]) (bl 14 0) (by kernel_rfl) rfl rfl ⟨tC,tw⟩ (fun an=> ?_);refine bW aa.QH aa.M6 (fun aC eE=> ?_)
         generalize wr.drew=w69 at bz HK HB tC tw an⊢
         refine ag 0 (some 158) 14 1 aC ?_
         refine ag 1 (some 159) 14 3 aC ?_
         refine ag 2 (some 160) 14 7 aC ?_
         refine ag 3 (some 161) 14 15 aC ?_
         refine ag 4 (some 162) 14 31 aC ?_
         refine ag 5 (some 163) 14 63 aC ?_
         refine ag 7 (some 165) 14 191 aC ?_
         refine ag 8 (some 166) 14 447 aC ?_
         refine ag 9 (some 167) 14 959 aC ?_
         refine cl 6 (some 164) 14 1023 aC eE an ?_ (hy:=by rintro w' ⟨s0,s1⟩;go_simp;with_reducible rfl)
         refine cl 10 (some 168) 14 2047 aC eE an ?_ (hy:=by rintro w' ⟨s0,s1⟩;go_simp;with_reducible rfl)
         refine gv 11 (some 169) 14 4095 aC (fun K hK=> ?_)
         refine n7 Tryz.func107 (by kernel_rfl) rfl #[.string (aV ByteArray.empty l0 (sJ)),.string (aV ByteArray.empty l0 (qd))] (by rfl) rfl rfl rfl (by (try simp only [List.map_toArray,List.map_cons,List.map_nil]);first|done|(simp only [zQ,tT];rfl)|rfl|(simp only [List.length_drop,List.length_take];rfl)) ?_
         with_reducible refine (bZ.calls (aV ByteArray.empty l0 (sJ)) (aV ByteArray.empty l0 (qd)) Aq _ A65.out).mono ?_
         rintro e w' ⟨rfl,⟨nd,rfl⟩⟩
         refine ⟨_,rfl,?_⟩
         refine hK.out _ _ ⟨an.1,an.2⟩ (fun an=> ?_)
         clear hK K
         refine dF (a':= ?_) ?_ ?_
         rotate_left
         ·show Act.put _ (some 169) _=_
          simp only [Act.put,List.setIfInBounds_toArray,List.set_cons_zero,List.set_cons_succ,bX,cL]
          rfl
         refine ag 12 (some 170) 14 8191 aC ?_
         refine ag 13 (some 171) 14 16383 aC ?_
         refine fm (cW aC.out (by kernel_rfl)) ?_
         try go_wp2
         go_roundg k2
         case measure=>have:=sQ.out;have:=jj.out;omega
         case rel=>exact ⟨(wrap64 ((qd)+1)),(mH),(by first|rfl|(simp;done)|(simp only [←tT]<;>(first|rfl|simp))|(simp [*];done)),er,H',⟨by have:=sQ.out;have:=jj.out;omega⟩,⟨fy bz⟩,⟨kY HK⟩,⟨ai HB⟩⟩
       ·rw [if_neg Wh] at H
        have Ro:=decide_eq_false Wh
        clear Wh;have VO:=ak H;clear H
        go_upto_region 39 with (fail)
        go_cut [185] (fun ab5 wc=>∃(kq:Nat) (wB:Bool),ab5= .bool wB∧Aside0 (aa.j6 kq l0 a1 a2 a3 (wrap64 ((IntKind.u64.wrap (wrap64 (a1+a3)))/2)) eS (wrap64 ((wrap64 ((wrap64 ((IntKind.u64.wrap (wrap64 (a1+a3)))/2))+a2))-eS)) wB=some r)∧Aside0 (kq≤k2)∧Aside0 (Kd.R Kd.string 9 wc w0.heap.size (fun k_=>(iM k_∨w.heap.size≤k_)) ej l0)∧Aside0 (Kept w wc (fun k_=>iM k_))∧Aside0 (Below w0.heap.size w0 wc))
        case first=>
         have H:=VO.out;clear VO
         by_cases Wf:eS<a2
         ·rw [if_pos Wf] at H
          have DF:=decide_eq_true Wf
          clear Wf
          (first|rw [DF]|(simp only [bX,cL];rw [DF])|skip)
          have H':=ak H
          clear H;go_wp2
          go_meet
          case rel=>exact ⟨_,(decide (a2<(wrap64 ((wrap64 ((wrap64 ((IntKind.u64.wrap (wrap64 (a1+a3)))/2))+a2))-eS)))),er,H',⟨by have:=sQ.out;have:=jj.out;first|omega|exact Nat.le_refl _⟩,⟨fy bz⟩,⟨kY HK⟩,⟨ai HB⟩⟩
         ·rw [if_neg Wf] at H
          have DF:=decide_eq_false Wf
          clear Wf
          (first|rw [DF]|(simp only [bX,cL];rw [DF])|skip)
          have H':=ak H
          clear H;go_wp2
          go_meet
          case rel=>exact ⟨_,(false),er,H',⟨by have:=sQ.out;have:=jj.out;first|omega|exact Nat.le_refl _⟩,⟨fy bz⟩,⟨kY HK⟩,⟨ai HB⟩⟩
        case rest=>as_aux_lemma=>
         clear VO;(try clear Ro)
         obtain ⟨kq,wB,rfl,HA,Cn,bz,HK,HB⟩:=hcut
         cases kq with
         |zero=>exact absurd HA.out (by simp [aa.j6])
         |succ LJ=>
          have H:=HA.out;clear HA
          simp only [aa.j6] at H
          have VN:=ak H;clear H
          go_upto_if 185 with (fail)
          go_cut [] (fun wc=>∃(kq:Nat) (jE:List ByteArray),Aside0 (aa.j7 kq jE a1 a3 (wrap64 ((IntKind.u64.wrap (wrap64 (a1+a3)))/2)) eS (wrap64 ((wrap64 ((wrap64 ((IntKind.u64.wrap (wrap64 (a1+a3)))/2))+a2))-eS))=some r)∧Aside0 (kq≤LJ)∧Aside0 (Kd.R Kd.string 9 wc w0.heap.size (fun k_=>(iM k_∨w.heap.size≤k_)) ej jE)∧Aside0 (Kept w wc (fun k_=>iM k_))∧Aside0 (Below w0.heap.size w0 wc))
          case first=>
           have H:=VN.out;clear VN
           by_cases c74:wB=true
           ·subst c74
            have H1:((aY.f LJ l0 eS a2 (wrap64 ((wrap64 ((wrap64 ((IntKind.u64.wrap (wrap64 (a1+a3)))/2))+a2))-eS))).bind fun IZ=>(aa.j7 LJ IZ a1 a3 (wrap64 ((IntKind.u64.wrap (wrap64 (a1+a3)))/2)) eS (wrap64 ((wrap64 ((wrap64 ((IntKind.u64.wrap (wrap64 (a1+a3)))/2))+a2))-eS))))=some r:=by rw [if_pos rfl] at H;exact H
            clear H
            have H:=H1
            clear H1;replace H:=bS H;obtain ⟨IZ,A75,H⟩:=H
            have H':=ak H
            clear H
            obtain ⟨abA,Y7,aed⟩:=Kd.dc bz.out
            subst aed
            go_wp2_with (first|(go_at_call 153;(with_reducible refine (aY.calls LJ (fun k_=>some k_=(.slice abA l0.length Y7:Value).ownBlock) (.slice abA l0.length Y7) l0 eS a2 (wrap64 ((wrap64 ((wrap64 ((IntKind.u64.wrap (wrap64 (a1+a3)))/2))+a2))-eS)) IZ w0 _ ?side1 ?side2 A75.out).mono ?_);(case side1=>exact ai HB);(case side2=>exact Kd.iu rfl bz.out);rintro e w77 ⟨rfl,nK,hb,n5⟩;replace HK:=ak (Kept.mj (S:=(fun k_=>iM k_)) (kY HK) n5 (fun k_ rE=>(fun e_=>(bz.out.1 k_ e_.symm)) rE));replace bz:=ak (Kd.kT rfl nK (fun k_ e_=>bz.out.1 k_ e_));replace HB:=ak (hb);(try clear hb);(try clear n5);(try clear nK)))
            go_meet
            case rel=>exact ⟨_,(IZ),H',⟨by have:=sQ.out;have:=jj.out;have:=Cn.out;first|omega|exact Nat.le_refl _⟩,⟨fy bz⟩,⟨kY HK⟩,⟨ai HB⟩⟩
           ·replace c74:=Bool.eq_false_iff.mpr c74
            subst c74
            have H1:(aa.j7 LJ l0 a1 a3 (wrap64 ((IntKind.u64.wrap (wrap64 (a1+a3)))/2)) eS (wrap64 ((wrap64 ((wrap64 ((IntKind.u64.wrap (wrap64 (a1+a3)))/2))+a2))-eS)))=some r:=by rw [if_neg (show¬(false=true) by decide)] at H;exact H
            clear H
            have H:=H1
            clear H1
            have H':=ak H
            clear H;go_wp2
            go_meet
            case rel=>exact ⟨_,(l0),H',⟨by have:=sQ.out;have:=jj.out;have:=Cn.out;first|omega|exact Nat.le_refl _⟩,⟨fy bz⟩,⟨kY HK⟩,⟨ai HB⟩⟩
          case rest=>as_aux_lemma=>
           clear VN
           obtain ⟨kq,jE,HA,Ge,bz,HK,HB⟩:=hcut
           cases kq with
           |zero=>exact absurd HA.out (by simp [aa.j7])
           |succ adk=>
            have H:=HA.out;clear HA
            simp only [aa.j7] at H
            have VM:=ak H;clear H
            go_upto_region 41 with (fail)
            go_cut [199] (fun ab4 wc=>∃(kq:Nat) (wA:Bool),ab4= .bool wA∧Aside0 (aa.j8 kq jE a1 a3 (wrap64 ((IntKind.u64.wrap (wrap64 (a1+a3)))/2)) eS (wrap64 ((wrap64 ((wrap64 ((IntKind.u64.wrap (wrap64 (a1+a3)))/2))+a2))-eS)) wA=some r)∧Aside0 (kq≤adk)∧Aside0 (Kd.R Kd.string 9 wc w0.heap.size (fun k_=>(iM k_∨w.heap.size≤k_)) ej jE)∧Aside0 (Kept w wc (fun k_=>iM k_))∧Aside0 (Below w0.heap.size w0 wc))
            case first=>
             have H:=VM.out;clear VM
             by_cases We:a1<eS
             ·rw [if_pos We] at H
              have DE:=decide_eq_true We
              clear We
              (first|rw [DE]|(simp only [bX,cL];rw [DE])|skip)
              have H':=ak H
              clear H;go_wp2
              go_meet
              case rel=>exact ⟨_,(decide (eS<(wrap64 ((IntKind.u64.wrap (wrap64 (a1+a3)))/2)))),er,H',⟨by have:=sQ.out;have:=jj.out;have:=Cn.out;have:=Ge.out;first|omega|exact Nat.le_refl _⟩,⟨fy bz⟩,⟨kY HK⟩,⟨ai HB⟩⟩
             ·rw [if_neg We] at H
              have DE:=decide_eq_false We
              clear We
              (first|rw [DE]|(simp only [bX,cL];rw [DE])|skip)
              have H':=ak H
              clear H;go_wp2
              go_meet
              case rel=>exact ⟨_,(false),er,H',⟨by have:=sQ.out;have:=jj.out;have:=Cn.out;have:=Ge.out;first|omega|exact Nat.le_refl _⟩,⟨fy bz⟩,⟨kY HK⟩,⟨ai HB⟩⟩
            case rest=>as_aux_lemma=>
             clear VM
             obtain ⟨kq,wA,rfl,HA,NN,bz,HK,HB⟩:=hcut
             cases kq with
             |zero=>exact absurd HA.out (by simp [aa.j8])
             |succ Dd=>
              have H:=HA.out;clear HA
              simp only [aa.j8] at H
              by_cases c80:wA=true
              ·subst c80
               have H1:((aa.f Dd jE a1 eS (wrap64 ((IntKind.u64.wrap (wrap64 (a1+a3)))/2))).bind fun vT=>(if (wrap64 ((IntKind.u64.wrap (wrap64 (a1+a3)))/2))<(wrap64 ((wrap64 ((wrap64 ((IntKind.u64.wrap (wrap64 (a1+a3)))/2))+a2))-eS)) then (if (wrap64 ((wrap64 ((wrap64 ((IntKind.u64.wrap (wrap64 (a1+a3)))/2))+a2))-eS))<a3 then ((aa.f Dd vT (wrap64 ((IntKind.u64.wrap (wrap64 (a1+a3)))/2)) (wrap64 ((wrap64 ((wrap64 ((IntKind.u64.wrap (wrap64 (a1+a3)))/2))+a2))-eS)) a3).bind fun KQ=>(some KQ)) else (some vT)) else (some vT)))=some r:=by rw [if_pos rfl] at H;exact H
               clear H
               have H:=H1
               clear H1;replace H:=bS H;obtain ⟨vT,A81,H⟩:=H
               by_cases Wd:(wrap64 ((IntKind.u64.wrap (wrap64 (a1+a3)))/2))<(wrap64 ((wrap64 ((wrap64 ((IntKind.u64.wrap (wrap64 (a1+a3)))/2))+a2))-eS))
               ·rw [if_pos Wd] at H
                have Zf:=decide_eq_true Wd
                clear Wd
                by_cases Wc:(wrap64 ((wrap64 ((wrap64 ((IntKind.u64.wrap (wrap64 (a1+a3)))/2))+a2))-eS))<a3
                ·rw [if_pos Wc] at H
                 have Ze:=decide_eq_true Wc
                 clear Wc;replace H:=bS H;obtain ⟨KQ,A84,H⟩:=H
                 obtain rfl:=Option.some.inj H
                 obtain ⟨Ki,JV,aec⟩:=Kd.dc bz.out
                 subst aec
                 go_wp2_with (first|((with_reducible refine eG (f:=136) rfl ?_);refine kS (some 205) rfl Tryz.func136 #[.slice Ki jE.length JV,.int .i64 a1,.int .i64 eS,.int .i64 (wrap64 ((IntKind.u64.wrap (wrap64 (a1+a3)))/2)),.func (.func 107) #[] #[]] rfl ?_;(with_reducible refine (ih Dd (by have:=sQ.out;have:=jj.out;have:=Cn.out;have:=Ge.out;have:=NN.out;omega) (fun k_=>some k_=(.slice Ki jE.length JV:Value).ownBlock) (.slice Ki jE.length JV) jE a1 eS (wrap64 ((IntKind.u64.wrap (wrap64 (a1+a3)))/2)) vT w0 _ ?side1 ?side2 A81.out).mono ?_);(case side1=>exact ai HB);(case side2=>exact Kd.iu rfl bz.out);rintro e w86 ⟨rfl,nK,hb,n5⟩;refine ⟨_,rfl,?_⟩;replace HK:=ak (Kept.mj (S:=(fun k_=>iM k_)) (kY HK) n5 (fun k_ rE=>(fun e_=>(bz.out.1 k_ e_.symm)) rE));replace bz:=ak (Kd.kT rfl nK (fun k_ e_=>bz.out.1 k_ e_));replace HB:=ak (hb);(try clear hb);(try clear n5);(try clear nK))|((with_reducible refine eG (f:=136) rfl ?_);refine kS (some 219) rfl Tryz.func136 #[.slice Ki jE.length JV,.int .i64 (wrap64 ((IntKind.u64.wrap (wrap64 (a1+a3)))/2)),.int .i64 (wrap64 ((wrap64 ((wrap64 ((IntKind.u64.wrap (wrap64 (a1+a3)))/2))+a2))-eS)),.int .i64 a3,.func (.func 107) #[] #[]] rfl ?_;(with_reducible refine (ih Dd (by have:=sQ.out;have:=jj.out;have:=Cn.out;have:=Ge.out;have:=NN.out;omega) (fun k_=>some k_=(.slice Ki jE.length JV:Value).ownBlock) (.slice Ki jE.length JV) vT (wrap64 ((IntKind.u64.wrap (wrap64 (a1+a3)))/2)) (wrap64 ((wrap64 ((wrap64 ((IntKind.u64.wrap (wrap64 (a1+a3)))/2))+a2))-eS)) a3 KQ w0 _ ?side1 ?side2 A84.out).mono ?_);(case side1=>exact ai HB);(case side2=>exact Kd.iu rfl bz.out);rintro e w87 ⟨rfl,nK,hb,n5⟩;refine ⟨_,rfl,?_⟩;replace HK:=ak (Kept.mj (S:=(fun k_=>iM k_)) (kY HK) n5 (fun k_ rE=>(fun e_=>(bz.out.1 k_ e_.symm)) rE));replace bz:=ak (Kd.kT rfl nK (fun k_ e_=>bz.out.1 k_ e_));replace HB:=ak (hb);(try clear hb);(try clear n5);(try clear nK)))
                 first|go_end0|((try simp only [Exit.inBlock,Exit.then]);refine bodyPost_ret (results_none rfl _ _ _) rfl ?_)
                 exact ⟨jT,by (with_reducible repeat (first|apply Kd.cu|apply Kd.ct|apply Kd.cy));exact bz.out,ai HB,kY HK⟩
                ·rw [if_neg Wc] at H
                 have Ze:=decide_eq_false Wc
                 clear Wc
                 obtain rfl:=Option.some.inj H
                 obtain ⟨abz,Y6,aeb⟩:=Kd.dc bz.out
                 subst aeb
                 go_wp2_with (first|(go_at_call 136;(with_reducible refine (ih Dd (by have:=sQ.out;have:=jj.out;have:=Cn.out;have:=Ge.out;have:=NN.out;omega) (fun k_=>some k_=(.slice abz jE.length Y6:Value).ownBlock) (.slice abz jE.length Y6) jE a1 eS (wrap64 ((IntKind.u64.wrap (wrap64 (a1+a3)))/2)) vT w0 _ ?side1 ?side2 A81.out).mono ?_);(case side1=>exact ai HB);(case side2=>exact Kd.iu rfl bz.out);rintro e w89 ⟨rfl,nK,hb,n5⟩;replace HK:=ak (Kept.mj (S:=(fun k_=>iM k_)) (kY HK) n5 (fun k_ rE=>(fun e_=>(bz.out.1 k_ e_.symm)) rE));replace bz:=ak (Kd.kT rfl nK (fun k_ e_=>bz.out.1 k_ e_));replace HB:=ak (hb);(try clear hb);(try clear n5);(try clear nK)))
                 first|go_end0|((try simp only [Exit.inBlock,Exit.then]);refine bodyPost_ret (results_none rfl _ _ _) rfl ?_)
                 exact ⟨jT,by (with_reducible repeat (first|apply Kd.cu|apply Kd.ct|apply Kd.cy));exact bz.out,ai HB,kY HK⟩
               ·rw [if_neg Wd] at H
                have Zf:=decide_eq_false Wd
                clear Wd
                obtain rfl:=Option.some.inj H
                obtain ⟨aby,Y5,aea⟩:=Kd.dc bz.out
                subst aea
                go_wp2_with (first|(go_at_call 136;(with_reducible refine (ih Dd (by have:=sQ.out;have:=jj.out;have:=Cn.out;have:=Ge.out;have:=NN.out;omega) (fun k_=>some k_=(.slice aby jE.length Y5:Value).ownBlock) (.slice aby jE.length Y5) jE a1 eS (wrap64 ((IntKind.u64.wrap (wrap64 (a1+a3)))/2)) vT w0 _ ?side1 ?side2 A81.out).mono ?_);(case side1=>exact ai HB);(case side2=>exact Kd.iu rfl bz.out);rintro e w91 ⟨rfl,nK,hb,n5⟩;replace HK:=ak (Kept.mj (S:=(fun k_=>iM k_)) (kY HK) n5 (fun k_ rE=>(fun e_=>(bz.out.1 k_ e_.symm)) rE));replace bz:=ak (Kd.kT rfl nK (fun k_ e_=>bz.out.1 k_ e_));replace HB:=ak (hb);(try clear hb);(try clear n5);(try clear nK)))
                first|go_end0|((try simp only [Exit.inBlock,Exit.then]);refine bodyPost_ret (results_none rfl _ _ _) rfl ?_)
                exact ⟨jT,by (with_reducible repeat (first|apply Kd.cu|apply Kd.ct|apply Kd.cy));exact bz.out,ai HB,kY HK⟩
              ·replace c80:=Bool.eq_false_iff.mpr c80
               subst c80
               have H1:(if (wrap64 ((IntKind.u64.wrap (wrap64 (a1+a3)))/2))<(wrap64 ((wrap64 ((wrap64 ((IntKind.u64.wrap (wrap64 (a1+a3)))/2))+a2))-eS)) then (if (wrap64 ((wrap64 ((wrap64 ((IntKind.u64.wrap (wrap64 (a1+a3)))/2))+a2))-eS))<a3 then ((aa.f Dd jE (wrap64 ((IntKind.u64.wrap (wrap64 (a1+a3)))/2)) (wrap64 ((wrap64 ((wrap64 ((IntKind.u64.wrap (wrap64 (a1+a3)))/2))+a2))-eS)) a3).bind fun KP=>(some KP)) else (some jE)) else (some jE))=some r:=by rw [if_neg (show¬(false=true) by decide)] at H;exact H
               clear H
               have H:=H1
               clear H1
               by_cases Wb:(wrap64 ((IntKind.u64.wrap (wrap64 (a1+a3)))/2))<(wrap64 ((wrap64 ((wrap64 ((IntKind.u64.wrap (wrap64 (a1+a3)))/2))+a2))-eS))
               ·rw [if_pos Wb] at H
                have Zd:=decide_eq_true Wb
                clear Wb
                by_cases Wa:(wrap64 ((wrap64 ((wrap64 ((IntKind.u64.wrap (wrap64 (a1+a3)))/2))+a2))-eS))<a3
                ·rw [if_pos Wa] at H
                 have Zc:=decide_eq_true Wa
                 clear Wa;replace H:=bS H;obtain ⟨KP,A94,H⟩:=H
                 obtain rfl:=Option.some.inj H
                 obtain ⟨abx,Y4,ad9⟩:=Kd.dc bz.out
                 subst ad9
                 go_wp2_with (first|(go_at_call 136;(with_reducible refine (ih Dd (by have:=sQ.out;have:=jj.out;have:=Cn.out;have:=Ge.out;have:=NN.out;omega) (fun k_=>some k_=(.slice abx jE.length Y4:Value).ownBlock) (.slice abx jE.length Y4) jE (wrap64 ((IntKind.u64.wrap (wrap64 (a1+a3)))/2)) (wrap64 ((wrap64 ((wrap64 ((IntKind.u64.wrap (wrap64 (a1+a3)))/2))+a2))-eS)) a3 KP w0 _ ?side1 ?side2 A94.out).mono ?_);(case side1=>exact ai HB);(case side2=>exact Kd.iu rfl bz.out);rintro e w96 ⟨rfl,nK,hb,n5⟩;replace HK:=ak (Kept.mj (S:=(fun k_=>iM k_)) (kY HK) n5 (fun k_ rE=>(fun e_=>(bz.out.1 k_ e_.symm)) rE));replace bz:=ak (Kd.kT rfl nK (fun k_ e_=>bz.out.1 k_ e_));replace HB:=ak (hb);(try clear hb);(try clear n5);(try clear nK)))
                 first|go_end0|((try simp only [Exit.inBlock,Exit.then]);refine bodyPost_ret (results_none rfl _ _ _) rfl ?_)
                 exact ⟨jT,by (with_reducible repeat (first|apply Kd.cu|apply Kd.ct|apply Kd.cy));exact bz.out,ai HB,kY HK⟩
                ·rw [if_neg Wa] at H
                 have Zc:=decide_eq_false Wa
                 clear Wa
                 obtain rfl:=Option.some.inj H
                 go_wp2
                 first|go_end0|((try simp only [Exit.inBlock,Exit.then]);refine bodyPost_ret (results_none rfl _ _ _) rfl ?_)
                 exact ⟨jT,by (with_reducible repeat (first|apply Kd.cu|apply Kd.ct|apply Kd.cy));exact bz.out,ai HB,kY HK⟩
               ·rw [if_neg Wb] at H
                have Zd:=decide_eq_false Wb
                clear Wb
                obtain rfl:=Option.some.inj H
                go_wp2
                first|go_end0|((try simp only [Exit.inBlock,Exit.then]);refine bodyPost_ret (results_none rfl _ _ _) rfl ?_)
                exact ⟨jT,by (with_reducible repeat (first|apply Kd.cu|apply Kd.ct|apply Kd.cy));exact bz.out,ai HB,kY HK⟩
end Go.Proofs.YtihekdlcfohkkaaGreatDoor.QFnNet
