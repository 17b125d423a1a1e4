-- PRINTED BY print.sh 35421559b90ae4d0a3588c463048766b98c2df88dd9212a6774a882060cdf62d: not written by this session
import Derived.Test.YtihekdlcfohkkaaGreatDoorWLast
import Derived.Test.YtihekdlcfohkkaaGreatDoorWWords
namespace Go.Proofs.YtihekdlcfohkkaaGreatDoorW.PrintLast
open Go.Proofs.YtihekdlcfohkkaaGreatDoorW.PrintWords (Aside0)
def rW (md:Region.Mode) (o:Oper):List Nat:=(o.after.toList.filter (fun e=>Region.binds md e)).map (fun e=>e.on)
def DF (md:Region.Mode) (ops:Array Oper) (i:Nat) (oi:Oper):List Nat:=(List.range ops.size).filter fun j=> !(j==i)&&match ops[j]? with
  |some oj=> !(oj.after.any (fun e=>Region.binds md e&&e.on==i)||oi.apart ops oj)
  |none=>false
def gz (md:Region.Mode) (ops:Array Oper):Bool×List (List Nat×List Nat):=(Region.noSelect ops,(List.range ops.size).map fun i=>match ops[i]? with
  |some o=>(rW md o,DF md ops i o)
  |none=>([],[]))
def oc (T:List (List Nat×List Nat)) (l:List Bool) (i:Nat):Bool:= !l.getD i true&&match T[i]? with
  |some r=>r.1.all (fun j=>l.getD j false)
  |none=>false
def vB (T:List (List Nat×List Nat)) (l:List Bool):List Nat:=(List.range T.length).filter (oc T l)
def EZ (T:List (List Nat×List Nat)) (l:List Bool) (i:Nat):Bool:=match T[i]? with
  |some r=>r.2.all (fun j=>l.getD j true)
  |none=>false
def xS (T:List (List Nat×List Nat)) (l:List Bool):Bool:=(List.range T.length).all fun j=> !l.getD j false||match T[j]? with
  |some r=>r.1.all (fun k=>l.getD k false)
  |none=>true
def vD (T:List (List Nat×List Nat)) (i:Nat):Nat→Nat→Bool
  |0,_=>false
  | fuel + 1, d => match T[d]? with
    |some r=>r.1.any fun j=>j==i||vD T i fuel j
    |none=>false
def IZ (T:List (List Nat×List Nat)) (l:List Bool) (ds:List Nat) (i:Nat):Bool:=ds.all fun d=>l.getD d true||vD T i T.length d
section
variable {md:Region.Mode} {ops:Array Oper} {T:Bool×List (List Nat×List Nat)} {l l' li lj lk:Array Bool} {ds:List Nat} {i j k:Nat}
theorem gd (l:Array Bool) (j:Nat) (b:Bool):l.getD j b=l.toList.getD j b:=by simp [Array.getD_eq_getD_getElem?,List.getD_eq_getElem?_getD]
theorem Bm (o:Oper) (p:Nat→Bool):o.after.all (fun e=> !Region.binds md e||p e.on)=(rW md o).all p:=by
  unfold rW
  rw [←Array.all_toList]
  induction o.after.toList with
  |nil=>rfl
  | cons e r ih =>
    rw [List.all_cons,ih,List.filter_cons]
    cases h:Region.binds md e<;>simp
theorem K4 (o:Oper) (p:Nat→Bool):o.after.any (fun e=>Region.binds md e&&p e.on)=(rW md o).any p:=by
  unfold rW
  rw [←Array.any_toList]
  induction o.after.toList with
  |nil=>rfl
  | cons e r ih =>
    rw [List.any_cons,ih,List.filter_cons]
    cases h:Region.binds md e<;>simp
theorem oa:(gz md ops).2.length=ops.size:=by simp [gz]
theorem rR {o:Oper} (h:ops[i]? =some o):(gz md ops).2[i]? =some (rW md o,DF md ops i o):=by
  have hi:=(Array.getElem?_eq_some_iff.1 h).1
  unfold gz
  rw [List.getElem?_map,List.getElem?_range hi,Option.map_some,h]
theorem rS (h:ops[i]? =none):(gz md ops).2[i]? =none:=by
  have hi:ops.size≤i:=Array.getElem?_eq_none_iff.1 h
  exact List.getElem?_eq_none (by rw [oa];exact hi)
theorem Gc:oc (gz md ops).2 l.toList i=(!l.getD i true&&((ops[i]?).map (·.after.all fun e=> !Region.binds md e||l.getD e.on false)).getD false):=by
  unfold oc
  rw [gd]
  cases h:ops[i]? with
  |none=>rw [rS h];rfl
  | some o =>
    rw [rR h]
    simp only [Option.map_some,Option.getD_some]
    rw [←Bm]
    simp only [gd]
theorem yG:Region.ready md ops l=vB (gz md ops).2 l.toList:=by
  unfold Region.ready vB
  rw [oa]
  refine List.filter_congr (fun i _=> ?_)
  rw [Gc]
theorem JC:Region.free md ops l i=EZ (gz md ops).2 l.toList i:=by
  unfold Region.free EZ
  cases h:ops[i]? with
  |none=>rw [rS h]
  | some oi =>
    rw [rR h]
    simp only [DF]
    rw [List.all_filter]
    congr 1
    funext j
    rw [gd]
    cases hj:ops[j]? with
    |none=>cases (j==i)<;>cases (l.toList.getD j true)<;>simp
    | some oj =>
      cases (j==i)<;>cases (l.toList.getD j true)<;>cases (oj.after.any (fun e=>Region.binds md e&&e.on==i)||oi.apart ops oj)<;>simp_all
theorem LB:Region.uI md ops l=xS (gz md ops).2 l.toList:=by
  unfold Region.uI xS
  rw [oa]
  congr 1
  funext j
  rw [gd]
  cases h:ops[j]? with
  |none=>rw [rS h]
  | some o =>
    rw [rR h]
    simp only
    rw [←Bm]
    simp only [gd]
theorem Eu:∀(fuel d:Nat),Region.m6 md ops i fuel d=vD (gz md ops).2 i fuel d
  |0,_=>rfl
  | fuel + 1, d => by
    unfold Region.m6 vD
    cases h:ops[d]? with
    |none=>rw [rS h]
    | some o =>
      rw [rR h]
      simp only
      rw [←K4]
      congr 1
      funext e
      rw [Eu fuel]
theorem Rx:Region.I0 md ops l ds i=IZ (gz md ops).2 l.toList ds i:=by
  unfold Region.I0 IZ
  rw [oa]
  congr 1
  funext d
  rw [gd,Eu]
theorem wh (h:oc T.2 l.toList i=true) (hT:gz md ops=T):(Region.ready md ops l).contains i=true:=by
  subst hT
  rw [yG]
  unfold vB
  rw [List.contains_iff_mem,List.mem_filter,List.mem_range]
  refine ⟨?_,h⟩
  unfold oc at h
  rw [Bool.and_eq_true] at h
  cases hq:(gz md ops).2[i]? with
  |none=>rw [hq] at h;simp at h
  |some r=>exact (List.getElem?_eq_some_iff.1 hq).1
theorem F9 (h:(l.toList.set i true==l'.toList)=true):(l.setIfInBounds i true==l')=true:=by
  rw [beq_iff_eq] at h⊢
  apply Array.ext'
  rw [Array.toList_setIfInBounds]
  exact h
def SE (T:Bool×List (List Nat×List Nat)) (l l':List Bool) (i:Nat):Bool:=T.1&&EZ T.2 l i&&oc T.2 l i&&(l.set i true==l')
theorem Pb (hT:gz md ops=T) (h:SE T l.toList l'.toList i=true):SF md ops l l' i=true:=by
  simp only [SE,Bool.and_eq_true] at h
  obtain ⟨⟨⟨h1,h2⟩,h3⟩,h4⟩:=h
  have h5:=wh h3 hT
  have h6:=F9 h4
  subst hT
  simp only [SF,Bool.and_eq_true]
  exact ⟨⟨⟨h1,by rw [JC];exact h2⟩,h5⟩,h6⟩
def Mv (T:Bool×List (List Nat×List Nat)) (ds:List Nat) (l l':List Bool) (i:Nat):Bool:=T.1&&EZ T.2 l i&&oc T.2 l i&&xS T.2 l&&IZ T.2 l ds i&&(l.set i true==l')
theorem QC (hT:gz md ops=T) (h:Mv T ds l.toList l'.toList i=true):Ee md ops ds l l' i=true:=by
  simp only [Mv,Bool.and_eq_true] at h
  obtain ⟨⟨⟨⟨⟨h1,h2⟩,h3⟩,h4⟩,h5⟩,h6⟩:=h
  have h7:=wh h3 hT
  have h8:=F9 h6
  subst hT
  simp only [Ee,Bool.and_eq_true]
  exact ⟨⟨⟨⟨⟨h1,by rw [JC];exact h2⟩,h7⟩,by rw [LB];exact h4⟩,by rw [Rx];exact h5⟩,h8⟩
theorem jd (hT:gz md ops=T) (h:(vB T.2 l.toList==[i]&&l.toList.set i true==l'.toList)=true):vC md ops l l' i=true:=by
  simp only [Bool.and_eq_true] at h
  obtain ⟨h1,h2⟩:=h
  subst hT
  simp only [vC,Bool.and_eq_true]
  exact ⟨by rw [yG];exact h1,F9 h2⟩
theorem cV (hT:gz md ops=T) (h:(vB T.2 l.toList==[])=true):(Region.ready md ops l==[])=true:=by
  subst hT
  rw [yG]
  exact h
def Vi (B:List Nat) (d:Nat):List Nat→Nat
  |[]=>0
  |n::r=>(2^n|||(if n<d then B.getD n 0 else 0))|||Vi B d r
def dZ (T:List (List Nat×List Nat)) (B:List Nat):Bool:=(List.range T.length).all fun d=>match T[d]? with
  |some r=>(B.getD d 0|||Vi B d r.1)==Vi B d r.1
  |none=>false
theorem Iz {B:List Nat} {d i:Nat} :∀ {ns:List Nat},(Vi B d ns).testBit i=true→∃n∈ns,n=i∨(n<d∧(B.getD n 0).testBit i=true)
  |[],h=>by simp [Vi] at h
  | n :: r, h => by
    unfold Vi at h
    rw [Nat.testBit_or,Nat.testBit_or,Bool.or_eq_true,Bool.or_eq_true] at h
    rcases h with (h|h)|h
    · rw [Nat.testBit_two_pow] at h
      exact ⟨n,List.mem_cons_self,.inl (by simpa using h)⟩
    · by_cases hn:n<d
      · rw [if_pos hn] at h
        exact ⟨n,List.mem_cons_self,.inr ⟨hn,h⟩⟩
      · rw [if_neg hn] at h
        simp at h
    · obtain ⟨m,hm,h2⟩:=Iz h
      exact ⟨m,List.mem_cons_of_mem _ hm,h2⟩
theorem Be {T:List (List Nat×List Nat)} {B:List Nat} (hB:dZ T B=true):∀(fuel d:Nat),d<fuel→d<T.length→(B.getD d 0).testBit i=true→vD T i fuel d=true
  |0,d,h,_,_=>by omega
  | fuel + 1, d, h, hd, hb => by
    have h1:=List.all_eq_true.1 hB d (List.mem_range.2 hd)
    cases hr:T[d]? with
    |none=>rw [hr] at h1;simp at h1
    | some r =>
      rw [hr] at h1
      simp only [beq_iff_eq] at h1
      have h2:(Vi B d r.1).testBit i=true:=by rw [←h1,Nat.testBit_or,hb,Bool.true_or]
      obtain ⟨n,hn,h3⟩:=Iz h2
      unfold vD
      rw [hr]
      simp only
      rw [List.any_eq_true]
      refine ⟨n,hn,?_⟩
      rcases h3 with rfl|⟨h4,h5⟩
      · simp
      · rw [Be hB fuel n (by omega) (by omega) h5,Bool.or_true]
def Tp (T:List (List Nat×List Nat)) (B:List Nat) (l:List Bool) (ds:List Nat) (i:Nat):Bool:=ds.all fun d=>l.getD d true||(decide (d<T.length)&&(B.getD d 0).testBit i)
def Mu (T:Bool×List (List Nat×List Nat)) (B:List Nat) (ds:List Nat) (l l':List Bool) (i:Nat):Bool:=T.1&&EZ T.2 l i&&oc T.2 l i&&xS T.2 l&&Tp T.2 B l ds i&&(l.set i true==l')
theorem Mt {B:List Nat} (hT:gz md ops=T) (hB:dZ T.2 B=true) (h:Mu T B ds l.toList l'.toList i=true):Ee md ops ds l l' i=true:=by
  refine QC hT ?_
  simp only [Mu,Mv,Bool.and_eq_true] at h⊢
  obtain ⟨⟨⟨⟨⟨h1,h2⟩,h3⟩,h4⟩,h5⟩,h6⟩:=h
  refine ⟨⟨⟨⟨⟨h1,h2⟩,h3⟩,h4⟩,?_⟩,h6⟩
  unfold Tp at h5
  unfold IZ
  rw [List.all_eq_true] at h5⊢
  intro d hd
  have h7:=h5 d hd
  rw [Bool.or_eq_true,Bool.and_eq_true,decide_eq_true_eq] at h7
  rcases h7 with h7|⟨h8,h9⟩
  · rw [h7,Bool.true_or]
  · rw [Be hB _ d h8 h8 h9,Bool.or_true]
theorem bZ {P:Program} {Q:Exit→Act→World→Prop} {S:World→Prop} {n:Nat} {a:Act} {w:World} {B:List Nat} (hT:gz md ops=T) (hB:dZ T.2 B=true) (h:Aside0 (gz md ops=T)→Aside0 (dZ T.2 B=true)→bY P md ops Q S ds n l a w):bY P md ops Q S ds n l a w:=h ⟨hT⟩ ⟨hB⟩
end
def sF:Code→Nat→Option (Array Oper)
  | .region id ops _,k=>if id==k then some ops else none
  | .seq a b, k => match sF a k with
    |some o=>some o
    |none=>sF b k
  | .cond _ a b, k => match sF a k with
    |some o=>some o
    |none=>sF b k
  | .block _ c,k=>sF c k
  | .loop c,k=>sF c k
  | .scope c,k=>sF c k
  | .rangeFunc _ _ a b, k => match sF a k with
    |some o=>some o
    |none=>sF b k
  |_,_=>none
def opsOf (f:Func) (k:Nat):Array Oper:=((f.body.bind fun c=>sF c k)).getD #[]
end Go.Proofs.YtihekdlcfohkkaaGreatDoorW.PrintLast
