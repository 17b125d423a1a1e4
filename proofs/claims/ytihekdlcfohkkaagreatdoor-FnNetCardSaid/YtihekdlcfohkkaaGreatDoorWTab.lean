-- PRINTED BY print.sh 35421559b90ae4d0a3588c463048766b98c2df88dd9212a6774a882060cdf62d: not written by this session
import Derived.Test.YtihekdlcfohkkaaGreatDoorWLast
import Derived.Test.YtihekdlcfohkkaaGreatDoorWWords
namespace Go.Proofs.YtihekdlcfohkkaaGreatDoorW.PrintLast
open Go.Proofs.YtihekdlcfohkkaaGreatDoorW.PrintWords (Aside0)
def qY (md:Region.Mode) (o:Oper):List Nat:=(o.after.toList.filter (fun e=>Region.binds md e)).map (fun e=>e.on)
def BX (md:Region.Mode) (ops:Array Oper) (i:Nat) (oi:Oper):List Nat:=(List.range ops.size).filter fun j=> !(j==i)&&match ops[j]? with
  |some oj=> !(oj.after.any (fun e=>Region.binds md e&&e.on==i)||oi.apart ops oj)
  |none=>false
def gq (md:Region.Mode) (ops:Array Oper):Bool×List (List Nat×List Nat):=(Region.noSelect ops,(List.range ops.size).map fun i=>match ops[i]? with
  |some o=>(qY md o,BX md ops i o)
  |none=>([],[]))
def nS (T:List (List Nat×List Nat)) (l:List Bool) (i:Nat):Bool:= !l.getD i true&&match T[i]? with
  |some r=>r.1.all (fun j=>l.getD j false)
  |none=>false
def uR (T:List (List Nat×List Nat)) (l:List Bool):List Nat:=(List.range T.length).filter (nS T l)
def Ds (T:List (List Nat×List Nat)) (l:List Bool) (i:Nat):Bool:=match T[i]? with
  |some r=>r.2.all (fun j=>l.getD j true)
  |none=>false
def wN (T:List (List Nat×List Nat)) (l:List Bool):Bool:=(List.range T.length).all fun j=> !l.getD j false||match T[j]? with
  |some r=>r.1.all (fun k=>l.getD k false)
  |none=>true
def uT (T:List (List Nat×List Nat)) (i:Nat):Nat→Nat→Bool
  |0,_=>false
  | fuel + 1, d => match T[d]? with
    |some r=>r.1.any fun j=>j==i||uT T i fuel j
    |none=>false
def G4 (T:List (List Nat×List Nat)) (l:List Bool) (ds:List Nat) (i:Nat):Bool:=ds.all fun d=>l.getD d true||uT T i T.length d
section
variable {md:Region.Mode} {ops:Array Oper} {T:Bool×List (List Nat×List Nat)} {l l' li lj lk:Array Bool} {ds:List Nat} {i j k:Nat}
theorem gd (l:Array Bool) (j:Nat) (b:Bool):l.getD j b=l.toList.getD j b:=by simp [Array.getD_eq_getD_getElem?,List.getD_eq_getElem?_getD]
theorem zF (o:Oper) (p:Nat→Bool):o.after.all (fun e=> !Region.binds md e||p e.on)=(qY md o).all p:=by
  unfold qY
  rw [←Array.all_toList]
  induction o.after.toList with
  |nil=>rfl
  | cons e r ih =>
    rw [List.all_cons,ih,List.filter_cons]
    cases h:Region.binds md e<;>simp
theorem Jt (o:Oper) (p:Nat→Bool):o.after.any (fun e=>Region.binds md e&&p e.on)=(qY md o).any p:=by
  unfold qY
  rw [←Array.any_toList]
  induction o.after.toList with
  |nil=>rfl
  | cons e r ih =>
    rw [List.any_cons,ih,List.filter_cons]
    cases h:Region.binds md e<;>simp
theorem nR:(gq md ops).2.length=ops.size:=by simp [gq]
theorem qT {o:Oper} (h:ops[i]? =some o):(gq md ops).2[i]? =some (qY md o,BX md ops i o):=by
  have hi:=(Array.getElem?_eq_some_iff.1 h).1
  unfold gq
  rw [List.getElem?_map,List.getElem?_range hi,Option.map_some,h]
theorem qV (h:ops[i]? =none):(gq md ops).2[i]? =none:=by
  have hi:ops.size≤i:=Array.getElem?_eq_none_iff.1 h
  exact List.getElem?_eq_none (by rw [nR];exact hi)
theorem Ey:nS (gq md ops).2 l.toList i=(!l.getD i true&&((ops[i]?).map (·.after.all fun e=> !Region.binds md e||l.getD e.on false)).getD false):=by
  unfold nS
  rw [gd]
  cases h:ops[i]? with
  |none=>rw [qV h];rfl
  | some o =>
    rw [qT h]
    simp only [Option.map_some,Option.getD_some]
    rw [←zF]
    simp only [gd]
theorem xz:Region.ready md ops l=uR (gq md ops).2 l.toList:=by
  unfold Region.ready uR
  rw [nR]
  refine List.filter_congr (fun i _=> ?_)
  rw [Ey]
theorem Ib:Region.free md ops l i=Ds (gq md ops).2 l.toList i:=by
  unfold Region.free Ds
  cases h:ops[i]? with
  |none=>rw [qV h]
  | some oi =>
    rw [qT h]
    simp only [BX]
    rw [List.all_filter]
    congr 1
    funext j
    rw [gd]
    cases hj:ops[j]? with
    |none=>cases (j==i)<;>cases (l.toList.getD j true)<;>simp
    | some oj =>
      cases (j==i)<;>cases (l.toList.getD j true)<;>cases (oj.after.any (fun e=>Region.binds md e&&e.on==i)||oi.apart ops oj)<;>simp_all
theorem JX:Region.uc md ops l=wN (gq md ops).2 l.toList:=by
  unfold Region.uc wN
  rw [nR]
  congr 1
  funext j
  rw [gd]
  cases h:ops[j]? with
  |none=>rw [qV h]
  | some o =>
    rw [qT h]
    simp only
    rw [←zF]
    simp only [gd]
theorem C0:∀(fuel d:Nat),Region.mC md ops i fuel d=uT (gq md ops).2 i fuel d
  |0,_=>rfl
  | fuel + 1, d => by
    unfold Region.mC uT
    cases h:ops[d]? with
    |none=>rw [qV h]
    | some o =>
      rw [qT h]
      simp only
      rw [←Jt]
      congr 1
      funext e
      rw [C0 fuel]
theorem O7:Region.G5 md ops l ds i=G4 (gq md ops).2 l.toList ds i:=by
  unfold Region.G5 G4
  rw [nR]
  congr 1
  funext d
  rw [gd,C0]
theorem vv (h:nS T.2 l.toList i=true) (hT:gq md ops=T):(Region.ready md ops l).contains i=true:=by
  subst hT
  rw [xz]
  unfold uR
  rw [List.contains_iff_mem,List.mem_filter,List.mem_range]
  refine ⟨?_,h⟩
  unfold nS at h
  rw [Bool.and_eq_true] at h
  cases hq:(gq md ops).2[i]? with
  |none=>rw [hq] at h;simp at h
  |some r=>exact (List.getElem?_eq_some_iff.1 hq).1
theorem Et (h:(l.toList.set i true==l'.toList)=true):(l.setIfInBounds i true==l')=true:=by
  rw [beq_iff_eq] at h⊢
  apply Array.ext'
  rw [Array.toList_setIfInBounds]
  exact h
def P9 (T:Bool×List (List Nat×List Nat)) (l l':List Bool) (i:Nat):Bool:=T.1&&Ds T.2 l i&&nS T.2 l i&&(l.set i true==l')
theorem M9 (hT:gq md ops=T) (h:P9 T l.toList l'.toList i=true):Qa md ops l l' i=true:=by
  simp only [P9,Bool.and_eq_true] at h
  obtain ⟨⟨⟨h1,h2⟩,h3⟩,h4⟩:=h
  have h5:=vv h3 hT
  have h6:=Et h4
  subst hT
  simp only [Qa,Bool.and_eq_true]
  exact ⟨⟨⟨h1,by rw [Ib];exact h2⟩,h5⟩,h6⟩
def KJ (T:Bool×List (List Nat×List Nat)) (ds:List Nat) (l l':List Bool) (i:Nat):Bool:=T.1&&Ds T.2 l i&&nS T.2 l i&&wN T.2 l&&G4 T.2 l ds i&&(l.set i true==l')
theorem Oe (hT:gq md ops=T) (h:KJ T ds l.toList l'.toList i=true):CI md ops ds l l' i=true:=by
  simp only [KJ,Bool.and_eq_true] at h
  obtain ⟨⟨⟨⟨⟨h1,h2⟩,h3⟩,h4⟩,h5⟩,h6⟩:=h
  have h7:=vv h3 hT
  have h8:=Et h6
  subst hT
  simp only [CI,Bool.and_eq_true]
  exact ⟨⟨⟨⟨⟨h1,by rw [Ib];exact h2⟩,h7⟩,by rw [JX];exact h4⟩,by rw [O7];exact h5⟩,h8⟩
theorem jH (hT:gq md ops=T) (h:(uR T.2 l.toList==[i]&&l.toList.set i true==l'.toList)=true):uS md ops l l' i=true:=by
  simp only [Bool.and_eq_true] at h
  obtain ⟨h1,h2⟩:=h
  subst hT
  simp only [uS,Bool.and_eq_true]
  exact ⟨by rw [xz];exact h1,Et h2⟩
theorem cW (hT:gq md ops=T) (h:(uR T.2 l.toList==[])=true):(Region.ready md ops l==[])=true:=by
  subst hT
  rw [xz]
  exact h
def Ss (B:List Nat) (d:Nat):List Nat→Nat
  |[]=>0
  |n::r=>(2^n|||(if n<d then B.getD n 0 else 0))|||Ss B d r
def eF (T:List (List Nat×List Nat)) (B:List Nat):Bool:=(List.range T.length).all fun d=>match T[d]? with
  |some r=>(B.getD d 0|||Ss B d r.1)==Ss B d r.1
  |none=>false
theorem Gv {B:List Nat} {d i:Nat} :∀ {ns:List Nat},(Ss B d ns).testBit i=true→∃n∈ns,n=i∨(n<d∧(B.getD n 0).testBit i=true)
  |[],h=>by simp [Ss] at h
  | n :: r, h => by
    unfold Ss at h
    rw [Nat.testBit_or,Nat.testBit_or,Bool.or_eq_true,Bool.or_eq_true] at h
    rcases h with (h|h)|h
    · rw [Nat.testBit_two_pow] at h
      exact ⟨n,List.mem_cons_self,.inl (by simpa using h)⟩
    · by_cases hn:n<d
      · rw [if_pos hn] at h
        exact ⟨n,List.mem_cons_self,.inr ⟨hn,h⟩⟩
      · rw [if_neg hn] at h
        simp at h
    · obtain ⟨m,hm,h2⟩:=Gv h
      exact ⟨m,List.mem_cons_of_mem _ hm,h2⟩
theorem zz {T:List (List Nat×List Nat)} {B:List Nat} (hB:eF T B=true):∀(fuel d:Nat),d<fuel→d<T.length→(B.getD d 0).testBit i=true→uT T i fuel d=true
  |0,d,h,_,_=>by omega
  | fuel + 1, d, h, hd, hb => by
    have h1:=List.all_eq_true.1 hB d (List.mem_range.2 hd)
    cases hr:T[d]? with
    |none=>rw [hr] at h1;simp at h1
    | some r =>
      rw [hr] at h1
      simp only [beq_iff_eq] at h1
      have h2:(Ss B d r.1).testBit i=true:=by rw [←h1,Nat.testBit_or,hb,Bool.true_or]
      obtain ⟨n,hn,h3⟩:=Gv h2
      unfold uT
      rw [hr]
      simp only
      rw [List.any_eq_true]
      refine ⟨n,hn,?_⟩
      rcases h3 with rfl|⟨h4,h5⟩
      · simp
      · rw [zz hB fuel n (by omega) (by omega) h5,Bool.or_true]
def QN (T:List (List Nat×List Nat)) (B:List Nat) (l:List Bool) (ds:List Nat) (i:Nat):Bool:=ds.all fun d=>l.getD d true||(decide (d<T.length)&&(B.getD d 0).testBit i)
def KH (T:Bool×List (List Nat×List Nat)) (B:List Nat) (ds:List Nat) (l l':List Bool) (i:Nat):Bool:=T.1&&Ds T.2 l i&&nS T.2 l i&&wN T.2 l&&QN T.2 B l ds i&&(l.set i true==l')
theorem KG {B:List Nat} (hT:gq md ops=T) (hB:eF T.2 B=true) (h:KH T B ds l.toList l'.toList i=true):CI md ops ds l l' i=true:=by
  refine Oe hT ?_
  simp only [KH,KJ,Bool.and_eq_true] at h⊢
  obtain ⟨⟨⟨⟨⟨h1,h2⟩,h3⟩,h4⟩,h5⟩,h6⟩:=h
  refine ⟨⟨⟨⟨⟨h1,h2⟩,h3⟩,h4⟩,?_⟩,h6⟩
  unfold QN at h5
  unfold G4
  rw [List.all_eq_true] at h5⊢
  intro d hd
  have h7:=h5 d hd
  rw [Bool.or_eq_true,Bool.and_eq_true,decide_eq_true_eq] at h7
  rcases h7 with h7|⟨h8,h9⟩
  · rw [h7,Bool.true_or]
  · rw [zz hB _ d h8 h8 h9,Bool.or_true]
theorem bW {P:Program} {Q:Exit→Act→World→Prop} {S:World→Prop} {n:Nat} {a:Act} {w:World} {B:List Nat} (hT:gq md ops=T) (hB:eF T.2 B=true) (h:Aside0 (gq md ops=T)→Aside0 (eF T.2 B=true)→bO P md ops Q S ds n l a w):bO P md ops Q S ds n l a w:=h ⟨hT⟩ ⟨hB⟩
end
def rP:Code→Nat→Option (Array Oper)
  | .region id ops _,k=>if id==k then some ops else none
  | .seq a b, k => match rP a k with
    |some o=>some o
    |none=>rP b k
  | .cond _ a b, k => match rP a k with
    |some o=>some o
    |none=>rP b k
  | .block _ c,k=>rP c k
  | .loop c,k=>rP c k
  | .scope c,k=>rP c k
  | .rangeFunc _ _ a b, k => match rP a k with
    |some o=>some o
    |none=>rP b k
  |_,_=>none
def opsOf (f:Func) (k:Nat):Array Oper:=((f.body.bind fun c=>rP c k)).getD #[]
end Go.Proofs.YtihekdlcfohkkaaGreatDoorW.PrintLast
