/- The law FnNet, told over lists: for what is drawn the program's PlayNet and PlainInbox answer as the reference's; where the net stands, it is good, settles into a good net without letters, and each inbox in the end has just the texts that were said to its user, in their order. No condition. -/
import Derived.Test.YtihekdlcfohkkaaGreatDoorQFnNetx15
import Derived.Test.YtihekdlcfohkkaaGreatDoorPk
namespace Go.Proofs.YtihekdlcfohkkaaGreatDoor.Pure
open Go.RowKit Go.Proofs.YtihekdlcfohkkaaGreatDoor.QFnNet Go.Proofs.YtihekdlcfohkkaaGreatDoorW.PrintWords Go.Proofs.YtihekdlcfohkkaaGreatDoorW.PrintLast Go.Proofs.YtihekdlcfohkkaaGreatDoorW.PrintMore Go.Proofs.YtihekdlcfohkkaaGreatDoor
set_option linter.unusedVariables false
set_option linter.unusedSimpArgs false
open Pk
theorem Fc {a b A B:Int} (ha:0≤a∧a≤A) (hb:0≤b∧b≤B):0≤a*b∧a*b≤A*B:=⟨Int.mul_nonneg ha.1 hb.1,Int.mul_le_mul ha.2 hb.2 hb.1 (by omega)⟩
theorem o4 (a n:Int) (ha:0≤a) (hn:0<n):0≤Int.tmod a n∧Int.tmod a n≤n-1:=by
  have h1:=Int.tmod_nonneg n ha
  have h2:=Int.tmod_lt_of_pos a hn
  omega
theorem An (a n m:Int) (ha:0≤a) (hn:0<n) (hm:a<n*(m+1)):0≤Int.tdiv a n∧Int.tdiv a n≤m:=by
  rw [Int.tdiv_eq_ediv_of_nonneg ha]
  exact ⟨Int.ediv_nonneg ha (by omega),by have:=Int.ediv_lt_of_lt_mul hn (show a<(m+1)*n by rw [Int.mul_comm];exact hm);omega⟩
theorem SQ (key half:Int) (hk:0≤key∧key≤65535) (hh:0≤half∧half≤255):∃r,jn.f key half=some r∧0≤r∧r≤255:=by
  unfold jn.f
  have h1:=o4 key 256 hk.1 (by omega)
  have h2:=An key 256 255 hk.1 (by omega) (by omega)
  rw [fI (x:=half+Int.tmod key 256) (by omega) (by omega),fI (x:=Int.tdiv key 256) (by omega) (by omega)]
  have h3:=o4 (half+Int.tmod key 256) 256 (by omega) (by omega)
  generalize Int.tmod (half+Int.tmod key 256) 256=x at h3⊢
  generalize Int.tdiv key 256=d at h2⊢
  have h4:=Fc (A:=255) (B:=255) h3 h3
  have h5:=Fc (A:=255) (B:=255) h3 h2
  rw [fI (x:=x*x) (by omega) (by omega),fI (x:=x*d) (by omega) (by omega),fI (x:=x*x+x*d) (by omega) (by omega),fI (x:=x*x+x*d+29) (by omega) (by omega)]
  have h6:=o4 (x*x+x*d+29) 65521 (by omega) (by omega)
  exact ⟨_,rfl,o4 _ 256 h6.1 (by omega)⟩
theorem abO {a b:Int} (ha:0≤a∧a≤255) (hb:0≤b∧b≤255):0≤Go.bits .xor .i64 a b∧Go.bits .xor .i64 a b≤255:=by
  obtain ⟨x,rfl⟩:=Int.eq_ofNat_of_zero_le ha.1
  obtain ⟨y,rfl⟩:=Int.eq_ofNat_of_zero_le hb.1
  have e:(2:Nat)^62=4611686018427387904:=by decide
  rw [ZD x y (by omega) (by omega)]
  have:=Nat.xor_lt_two_pow (n:=8) (show x<2^8 by omega) (show y<2^8 by omega)
  omega
theorem Da:∀(k:Nat) (a b:Int) (l:List Int) (n i:Int),fU.l0 k a b l n i=dN.l0 k a b l n i
  |0,_,_,_,_,_=>rfl
  | k + 1, a, b, l, n, i => by
    rw [fU.l0,dN.l0,Int.mul_comm a 256]
    have:nr.f=jn.f:=rfl
    rw [this]
    simp only [Da k]
theorem XO (l:List Int) (hn:l.length≤8) (hl:∀x∈l,0≤x∧x≤65535):∀(d i:Nat) (a b:Int),i+d=l.length→0≤a∧a≤255→0≤b∧b≤255→∃r,0≤r∧r≤65535∧Ev (fun k=>dN.l0 k a b l (l.length:Int) (i:Int)) r:=by
  intro d
  induction d with
  | zero =>
    intro i a b hi ha hb
    refine ⟨256*a+b,by omega,by omega,aQ (fun k=>by rw [dN.l0]) (bG (by omega) (bY ?_))⟩
    rw [fI (x:=256*a) (by omega) (by omega),fI (by omega) (by omega)]
  | succ d ih =>
    intro i a b hi ha hb
    have eO:i<l.length:=by omega
    obtain ⟨r,e,hr⟩:=SQ l[i] b (hl _ (List.getElem_mem eO)) hb
    obtain ⟨q,q1,q2,q3⟩:=ih (i+1) b (Go.bits .xor .i64 a r) (by omega) hb (abO ha hr)
    refine ⟨q,q1,q2,aQ (fun k=>by rw [dN.l0]) (ay (by omega) (ay (by omega) (ay (by omega) ?_)))⟩
    rw [show rd l (i:Int)=l[i] from o7 l i eO]
    refine jl e ?_
    rw [fI (x:=(i:Int)+1) (by omega) (by omega)]
    exact q3
theorem XP (key b:Int) (hk:0≤key∧key≤65535) (hb:0≤b∧b≤65535):∃r,0≤r∧r≤65535∧Ev (fun k=>dN.f k [key,key,key] b) r∧Ev (fun k=>fU.f k [key,key,key] b) r:=by
  have h1:=An b 256 255 hb.1 (by omega) (by omega)
  have h2:=o4 b 256 hb.1 (by omega)
  obtain ⟨r,r1,r2,r3⟩:=XO [key,key,key] (by simp) (by intro x hx;simp at hx;subst hx;exact hk) 3 0 (Int.tdiv b 256) (Int.tmod b 256) rfl h1 (by omega)
  have e:Ev (fun k=>dN.f k [key,key,key] b) r:=by
    unfold dN.f
    rw [fI (x:=Int.tdiv b 256) (by omega) (by omega)]
    exact r3
  refine ⟨r,r1,r2,e,?_⟩
  have e2:(fun k=>fU.f k [key,key,key] b)=fun k=>dN.f k [key,key,key] b:=by
    funext k
    unfold fU.f dN.f
    exact Da k _ _ _ _ _
  rw [e2]
  exact e
def zT:ByteArray:=strOfNums (List.replicate 24 0)
theorem QA:∀n:Nat,n<24→bt zT (n:Int)=0:=by decide
theorem wz:zT.size=24:=by decide
theorem WQ (x:Int) (h:0≤x∧x≤65535):Go.bits .xor .i64 0 x=x:=by
  obtain ⟨y,rfl⟩:=Int.eq_ofNat_of_zero_le h.1
  have e:(2:Nat)^62=4611686018427387904:=by decide
  have:=ZD 0 y (by omega) (by omega)
  rw [Nat.zero_xor] at this
  exact this
theorem Sw (key:Int) (hk:0≤key∧key≤65535):∀(d j:Nat) (st:Int) (out:List Int),j+d=12→out.length=2*j→0≤st∧st≤65535→
    ∃r:List Int,r.length=24∧Ev (fun k=>cY.l0 k [key,key,key] st zT out ((2*j:Nat):Int)) (strOfNums r,true)∧Ev (fun k=>di.l0 k [key,key,key] st zT out ((2*j:Nat):Int)) (strOfNums r):=by
  intro d
  induction d with
  | zero =>
    intro j st out hj ho hs
    have h24:¬((2*j:Nat):Int)<(zT.size:Int):=by rw [wz];omega
    exact ⟨out,by omega,aQ (fun k=>by rw [cY.l0]) (bG h24 (bY rfl)),aQ (fun k=>by rw [di.l0]) (bG h24 (bY rfl))⟩
  | succ d ih =>
    intro j st out hj ho hs
    obtain ⟨m,m1,m2,m3,m4⟩:=XP key st hk hs
    have hd:=An m 256 255 m1 (by omega) (by omega)
    have hm:=o4 m 256 m1 (by omega)
    have ed:Int.tdiv m 256=m/256:=Int.tdiv_eq_ediv_of_nonneg m1
    have em:Int.tmod m 256=m%256:=Int.tmod_eq_emod_of_nonneg m1
    obtain ⟨r,r1,r2,r3⟩:=ih (j+1) m (out++[(m/256)%256,m%256]) (by omega) (by simp;omega) ⟨m1,m2⟩
    have z0:bt zT ((2*j:Nat):Int)=0:=QA _ (by omega)
    have z1:bt zT (((2*j:Nat):Int)+1)=0:=by
      have:=QA (2*j+1) (by omega)
      simpa using this
    have hw:wrap64 (((2*j:Nat):Int)+1)=((2*j:Nat):Int)+1:=fI (by omega) (by omega)
    have hw2:wrap64 (((2*j:Nat):Int)+2)=((2*(j+1):Nat):Int):=by rw [fI (by omega) (by omega)];omega
    have w0:wrap64 0=0:=fI (by omega) (by omega)
    have sK:(zT.size:Int)=24:=by rw [wz];rfl
    refine ⟨r,r1,aQ (fun k=>by rw [cY.l0]) ?_,aQ (fun k=>by rw [di.l0]) ?_⟩
    · rw [hw,hw2,sK,z0,z1,w0,Int.mul_zero,w0,Int.zero_add,w0,WQ st hs]
      refine ay (by omega) (ay (by omega) (ay (by omega) (ay (by omega) (bI m3 ?_))))
      rw [fI (x:=Int.tdiv m 256) (by omega) (by omega),ed,em,show m%256%256=m%256 by omega]
      exact jl rfl (ay (by simp;omega) r2)
    · rw [hw,hw2,sK,z0,z1,w0,Int.zero_mul,w0,show Go.bits .or .i64 (0:Int) 0=0 by decide,WQ st hs]
      exact ay (by omega) (ay (by omega) (ay (by omega) (ay (by omega) (bI m4 (jl rfl (ay (by simp;omega) r3))))))
theorem Pb (key:Int) (hk:0≤key∧key≤65535):Ev (fun k=>fY.f k [key,key,key] key zT) true:=by
  have Mn:bD.f key 0 65535=some true:=by unfold bD.f;rw [if_pos (by omega),decide_eq_true hk.2]
  have tY:∀(d i:Nat),i+d=3→Ev (fun k=>bR.l0 k 0 65535 [key,key,key] ((3:Nat):Int) (i:Int)) true:=by
    intro d
    induction d with
    |zero=>intro i hi;exact aQ (fun k=>by rw [bR.l0]) (bG (by omega) (bY rfl))
    | succ d ih =>
      intro i hi
      refine aQ (fun k=>by rw [bR.l0]) (ay (by omega) (ay (by omega) (ay (by simp;omega) ?_)))
      have e:rd [key,key,key] (i:Int)=key:=by
        have:i=0∨i=1∨i=2:=by omega
        rcases this with rfl|rfl|rfl<;>rfl
      rw [e]
      refine jl Mn (ay rfl ?_)
      rw [fI (x:=(i:Int)+1) (by omega) (by omega)]
      exact ih (i+1) (by omega)
  unfold fY.f
  refine bI (a:=true) ?_ (ay rfl ?_)
  · unfold iF.f
    refine ay (by simp) (bI (a:=true) ?_ (bY rfl))
    exact tY 3 0 rfl
  · have e:fS.f key=some true:=by unfold fS.f;rw [Mn];rfl
    refine jl e (ay rfl (ay ?_ (bY ?_)))
    · rw [wz];decide
    · rw [wz];decide
theorem Lo (key:Int) (hk:0≤key∧key≤65535):∃p:ByteArray,p.size=24∧Ev (fun k=>iO.f k key 24) p∧Ev (fun k=>kL.f k key 24) p:=by
  obtain ⟨r,r1,r2,r3⟩:=Sw key hk 12 0 key [] rfl rfl hk
  refine ⟨strOfNums r,by simp [strOfNums,ByteArray.size,r1],?_,?_⟩
  · unfold iO.f
    refine ay (by omega) (ay (by decide) (bI (a:=(strOfNums r,true)) ?_ (bY rfl)))
    unfold cY.f
    exact bI (Pb key hk) (ay rfl r2)
  · unfold kL.f
    refine bI (a:=zT) ?_ (bI (a:=strOfNums r) ?_ (bY rfl))
    · unfold strings_Repeat.f
      exact ay (by omega) (ay (by decide) (ay (by decide) (bY (by decide))))
    · unfold di.f
      exact r3
theorem mG {α:Type} {g:Nat→Option α} {r:α} (h:∀k,g k=some r):Ev g r:=⟨0,fun k _=>h k⟩
def td (L:List UInt8):List UInt8:=match L.dropWhile (· ==0) with
  |[]=>[]
  |b::r=>if b=128 then r.reverse else []
def QG (s:ByteArray):ByteArray:=⟨(td s.data.toList.reverse).toArray⟩
theorem rj (s:ByteArray) (n:Nat):s.extract 0 n=⟨(s.data.toList.take n).toArray⟩:=by
  apply ByteArray.ext
  rw [ByteArray.data_extract]
  apply Array.ext'
  simp
theorem uf (s:ByteArray) (n:Nat) (h:n<s.data.toList.length):bt s (n:Int)=(s.data.toList[n].toNat:Int):=by
  have h':n<s.size:=by rw [Array.length_toList] at h;exact h
  rw [←kD s n h']
  simp [ByteArray.getElem_eq_getElem_data]
theorem KF {b:UInt8} {n:Nat} (hn:n<256):((b.toNat:Int)=(n:Int))↔b=UInt8.ofNat n:=by
  constructor
  · intro h
    apply UInt8.toNat_inj.1
    rw [UInt8.toNat_ofNat',Nat.mod_eq_of_lt hn]
    omega
  · rintro rfl
    rw [UInt8.toNat_ofNat',Nat.mod_eq_of_lt hn]
theorem Xa (s:ByteArray) (hs:s.size=16):∀n:Nat,n≤15→∃q,Ev (fun k=>cT.l0 k s (n:Int)) (⟨(td (s.data.toList.reverse.drop (15-n))).toArray⟩,q):=by
  have hl:s.data.toList.length=16:=by rw [Array.length_toList];exact hs
  have hd:∀n:Nat,(h:n≤15)→s.data.toList.reverse.drop (15-n)=s.data.toList[n]'(by omega)::(s.data.toList.take n).reverse:=by
    intro n h
    rw [List.drop_eq_getElem_cons (by simp;omega),List.getElem_reverse]
    congr 1
    · congr 1;simp at hl⊢;omega
    · rw [List.drop_reverse];congr 2;omega
  intro n
  induction n with
  | zero =>
    intro _
    have e:=uf s 0 (by omega)
    rw [hd 0 (by omega)]
    generalize s.data.toList[0]'(by omega)=b at e⊢
    by_cases hb:b=128
    · refine ⟨true,aQ (fun k=>by rw [cT.l0]) (bG (by omega) (ay (by omega) (ay (by rw [hs];omega) (ay ?_ (ay (by rw [hs];omega) (bY ?_))))))⟩
      · rw [show ((0:Nat):Int)=0 from rfl] at e⊢;rw [e,hb];decide
      · rw [hb,show (((0:Nat):Int)).toNat=0 from rfl,rj];simp [td]
    · refine ⟨false,aQ (fun k=>by rw [cT.l0]) (bG (by omega) (ay (by omega) (ay (by rw [hs];omega) (bG ?_ (bY ?_)))))⟩
      · rw [e];intro h;exact hb ((KF (n:=128) (by omega)).1 h)
      · by_cases h0:b=0
        · subst h0;simp [td]
        · simp [td,h0,hb]
  | succ n ih =>
    intro hn
    have e:=uf s (n+1) (by omega)
    obtain ⟨q,hq⟩:=ih (by omega)
    rw [hd (n+1) hn]
    rw [hd n (by omega)] at hq
    have adq:(s.data.toList.take (n+1)).reverse=s.data.toList[n]'(by omega)::(s.data.toList.take n).reverse:=by
      rw [List.take_succ_eq_append_getElem (by omega)];simp
    generalize s.data.toList[n+1]'(by omega)=b at e⊢
    by_cases h0:b=0
    · refine ⟨q,aQ (fun k=>by rw [cT.l0]) (ay (by omega) (ay (by omega) (ay (by rw [hs];omega) (ay (by rw [e,h0];rfl) ?_))))⟩
      rw [fI (x:=((n+1:Nat):Int)-1) (by omega) (by omega),show ((n+1:Nat):Int)-1=(n:Int) by omega,adq]
      have:td (b::s.data.toList[n]'(by omega)::(s.data.toList.take n).reverse)=td (s.data.toList[n]'(by omega)::(s.data.toList.take n).reverse):=by
        subst h0;unfold td;rw [List.dropWhile_cons_of_pos (by rfl)]
      rw [this]
      exact hq
    · have uH:¬bt s ((n+1:Nat):Int)=0:=by rw [e];intro h;exact h0 ((KF (n:=0) (by omega)).1 h)
      have hu:td (b::(s.data.toList.take (n+1)).reverse)=if b=128 then s.data.toList.take (n+1) else []:=by
        unfold td;rw [List.dropWhile_cons_of_neg (by simpa using h0)];simp
      rw [hu]
      by_cases hb:b=128
      · refine ⟨true,aQ (fun k=>by rw [cT.l0]) (ay (by omega) (ay (by omega) (ay (by rw [hs];omega) (bG uH (ay (by rw [e,hb];decide) (ay (by rw [hs];omega) (bY ?_)))))))⟩
        rw [if_pos hb,show (((n+1:Nat):Int)).toNat=n+1 from rfl,rj]
      · refine ⟨false,aQ (fun k=>by rw [cT.l0]) (ay (by omega) (ay (by omega) (ay (by rw [hs];omega) (bG uH (bG ?_ (bY ?_))))))⟩
        · rw [e];intro h;exact hb ((KF (n:=128) (by omega)).1 h)
        · rw [if_neg hb]
theorem St (s:ByteArray) (hs:s.size=16):∃q,Ev (fun k=>cT.f k s) (QG s,q):=by
  obtain ⟨q,h⟩:=Xa s hs 15 (by omega)
  refine ⟨q,?_⟩
  unfold cT.f
  refine ay (by rw [hs];rfl) ?_
  rw [hs,fI (by omega) (by omega)]
  exact h
theorem Su (s:ByteArray) (hs:s.size=16):∃q,Ev (fun k=>je.f k s) (QG s,q):=by
  have hT:∀k,fj.f k s (⟨#[0]⟩:ByteArray)=some ⟨(Lib.trimRightB s.data.toList 0).toArray⟩:=by
    intro k
    show (if (0:UInt8).toNat<128 then (if s.size≤9223372036854775807 then some _ else none) else none)=_
    rw [if_pos (by decide),if_pos (by omega)]
  have hlen:∀L:List UInt8,(L.dropWhile (· ==0)).length≤L.length:=fun L=>(List.dropWhile_suffix _).length_le
  have hl:s.data.toList.length=16:=by rw [Array.length_toList];exact hs
  have h1:=hlen s.data.toList.reverse
  rw [List.length_reverse,hl] at h1
  unfold je.f
  have hz:Lib.trimRightB s.data.toList 0=(s.data.toList.reverse.dropWhile (· ==0)).reverse:=rfl
  unfold QG td
  rw [hz] at hT
  generalize hD:s.data.toList.reverse.dropWhile (· ==0)=D at hT h1
  have hS:∀k,strings_HasSuffix.f k (⟨D.reverse.toArray⟩:ByteArray) (⟨#[128]⟩:ByteArray)=some ([128].isPrefixOf D):=by
    intro k
    unfold strings_HasSuffix.f
    rw [if_pos (by simp [ByteArray.size];omega)]
    simp [Lib.hasSuffix,List.isSuffixOf]
  cases D with
  | nil =>
    refine ⟨false,bI (mG hT) (ay (by rw [hs];rfl) (bI (mG hS) (bG (by simp) (bY rfl))))⟩
  | cons b r =>
    by_cases hb:b=128
    · subst hb
      have sK:(⟨(128::r:List UInt8).reverse.toArray⟩:ByteArray).size=r.length+1:=by simp [ByteArray.size]
      have hr:r.length≤15:=by simpa using h1
      have hw:wrap64 (((r.length+1:Nat):Int)-1)=(r.length:Int):=by rw [fI (by omega) (by omega)];omega
      refine ⟨true,bI (mG hT) (ay (by rw [hs];rfl) (bI (mG hS) (ay (by simp) ?_)))⟩
      rw [sK,hw]
      refine ay (by omega) (ay (by omega) (bY ?_))
      rw [Int.toNat_natCast,rj]
      simp
    · refine ⟨false,bI (mG hT) (ay (by rw [hs];rfl) (bI (mG hS) (bG (by simp;exact fun h=>hb h.symm) (bY ?_))))⟩
      simp [hb]
theorem Za (s:ByteArray) (hs:s.size≤64):∀(d i:Nat) (a:Int),i+d=s.size→0≤a→a≤20000*i→∃r,0≤r∧r≤250∧Ev (fun k=>dU.l0 k s a (i:Int)) r∧Ev (fun k=>fh.l0 k s a (s.size:Int) (i:Int)) r:=by
  intro d
  induction d with
  | zero =>
    intro i a hi h0 h1
    have h2:=o4 a 251 h0 (by omega)
    exact ⟨_,h2.1,h2.2,aQ (fun k=>by rw [dU.l0]) (bG (by omega) (bY rfl)),aQ (fun k=>by rw [fh.l0]) (bG (by omega) (bY rfl))⟩
  | succ d ih =>
    intro i a hi h0 h1
    have hb:=nw s (i:Int)
    have hm:=Fc (a:=bt s (i:Int)) (b:=(i:Int)+1) (A:=255) (B:=64) hb (by omega)
    obtain ⟨r,r1,r2,r3,r4⟩:=ih (i+1) (a+bt s (i:Int)*((i:Int)+1)) (by omega) (by omega) (by omega)
    refine ⟨r,r1,r2,aQ (fun k=>by rw [dU.l0]) (ay (by omega) (ay (by omega) ?_)),aQ (fun k=>by rw [fh.l0]) (ay (by omega) (ay (by omega) (ay (by omega) ?_)))⟩
    all_goals
      rw [fI (x:=bt s (i:Int)) (by omega) (by omega),fI (x:=(i:Int)+1) (by omega) (by omega),fI (x:=bt s (i:Int)*((i:Int)+1)) (by omega) (by omega),fI (x:=a+bt s (i:Int)*((i:Int)+1)) (by omega) (by omega)]
    · exact r3
    · exact r4
theorem MO (s:ByteArray) (hs:s.size≤64):∃r,0≤r∧r≤250∧Ev (fun k=>dU.f k s) r∧Ev (fun k=>fh.f k s) r:=Za s hs s.size 0 0 (by omega) (by omega) (by omega)
open Classical in
noncomputable def ou (key:Int):ByteArray:=if h:0≤key∧key≤65535 then Classical.choose (Lo key h) else ⟨#[]⟩
theorem xE (key:Int) (hk:0≤key∧key≤65535):(ou key).size=24∧Ev (fun k=>iO.f k key 24) (ou key)∧Ev (fun k=>kL.f k key 24) (ou key):=by
  unfold ou
  rw [dif_pos hk]
  exact Classical.choose_spec (Lo key hk)
open Classical in
noncomputable def FW (s:ByteArray):Int:=if h:s.size≤64 then Classical.choose (MO s h) else 0
theorem Dz (s:ByteArray) (hs:s.size≤64):0≤FW s∧FW s≤250∧Ev (fun k=>dU.f k s) (FW s)∧Ev (fun k=>fh.f k s) (FW s):=by
  unfold FW
  rw [dif_pos hs]
  exact Classical.choose_spec (MO s hs)
theorem oA (a b:ByteArray):(ot a b).size=a.size:=by
  unfold ot strOfNums
  show (List.toArray _).size=_
  rw [List.size_toArray]
  simp
noncomputable def nj (key:Int) (s:ByteArray):Option (Int×ByteArray×ByteArray):=
  let t:=ot s (ou key)
  if 1≤bt t 0∧bt t 0≤250∧bt t 1=FW (t.extract 2 18) then some (bt t 0,t.extract 2 t.size++(⟨#[0,0]⟩:ByteArray),QG ((t.extract 2 t.size++(⟨#[0,0]⟩:ByteArray)).extract 0 16)) else none
def GL:Option (Int×ByteArray×ByteArray)→Int×ByteArray×ByteArray×Bool
  |some (x,y,b)=>(x,y,b,true)
  |none=>(0,⟨#[]⟩,⟨#[]⟩,false)
theorem uU (key:Int) (s:ByteArray) (hs:s.size=24) {x:Int} {y b:ByteArray} (h:nj key s=some (x,y,b)):y.size=24∧1≤x∧x≤250∧b.size≤15:=by
  unfold nj at h
  dsimp only at h
  split at h
  · rename_i hc
    simp only [Option.some.injEq,Prod.mk.injEq] at h
    obtain ⟨rfl,rfl,rfl⟩:=h
    have ht:(ot s (ou key)).size=24:=by rw [oA,hs]
    have h2:((ot s (ou key)).extract 2 (ot s (ou key)).size++(⟨#[0,0]⟩:ByteArray)).size=24:=by rw [ByteArray.size_append,ByteArray.size_extract,ht];rfl
    refine ⟨h2,hc.1,hc.2.1,?_⟩
    generalize (ot s (ou key)).extract 2 (ot s (ou key)).size++(⟨#[0,0]⟩:ByteArray)=u at h2
    have h3:(u.extract 0 16).size=16:=by rw [ByteArray.size_extract,h2];rfl
    generalize u.extract 0 16=v at h3
    unfold QG td
    have hl:v.data.toList.length=16:=by rw [Array.length_toList];exact h3
    have hlen:(v.data.toList.reverse.dropWhile (· ==0)).length≤16:=by
      have:=(List.dropWhile_suffix (l:=v.data.toList.reverse) (· ==(0:UInt8))).length_le
      rw [List.length_reverse,hl] at this
      exact this
    show (List.toArray _).size≤15
    rw [List.size_toArray]
    split
    · simp
    · rename_i b r hr
      rw [hr] at hlen
      split
      · simp at hlen⊢;omega
      · simp
  · cases h
theorem OP (key:Int) (s:ByteArray) (hk:0≤key∧key≤65535) (hs:s.size=24):Ev (fun k=>dJ.f k key s) (GL (nj key s)):=by
  obtain ⟨p1,p2,p3⟩:=xE key hk
  have Mn:bD.f key 0 65535=some true:=by unfold bD.f;rw [if_pos (by omega),decide_eq_true hk.2]
  have e:fS.f key=some true:=by unfold fS.f;rw [Mn];rfl
  have hx:∀k,gW.f k s (ou key)=some (ot s (ou key)):=by intro k;unfold gW.f;rw [if_pos (by omega),if_pos (by omega)]
  have ht:(ot s (ou key)).size=24:=by rw [oA,hs]
  unfold dJ.f nj
  refine jl e (ay ⟨rfl,hs⟩ (bI p2 (bI (mG hx) (ay ht ?_))))
  dsimp only
  generalize ot s (ou key)=t at ht⊢
  have b0:=nw t 0
  have b1:=nw t 1
  have hc:=Dz (t.extract 2 18) (by rw [ByteArray.size_extract,ht];decide)
  have hu:((t.extract 2 t.size++(⟨#[0,0]⟩:ByteArray)).extract 0 16).size=16:=by rw [ByteArray.size_extract,ByteArray.size_append,ByteArray.size_extract,ht];rfl
  obtain ⟨q,hq⟩:=St _ hu
  rw [fI (x:=bt t 0) (by omega) (by omega),fI (x:=bt t 1) (by omega) (by omega)]
  by_cases h0:1≤bt t 0
  · have hi:bD.f (bt t 0) 1 250=some (decide (bt t 0≤250)):=by unfold bD.f;rw [if_pos (by omega)]
    refine jl hi ?_
    by_cases h1:bt t 0≤250
    · refine ay (decide_eq_true h1) (bI hc.2.2.1 ?_)
      by_cases h2:bt t 1=FW (t.extract 2 18)
      · refine ay h2 (bI hq (bY ?_))
        rw [if_pos ⟨h0,h1,h2⟩];rfl
      · refine bG h2 (bY ?_)
        rw [if_neg (fun z=>h2 z.2.2)];rfl
    · refine bG (by simp;omega) (bY ?_)
      rw [if_neg (fun z=>h1 z.2.1)];rfl
  · have hi:bD.f (bt t 0) 1 250=some false:=by unfold bD.f;rw [if_neg (by omega)]
    refine jl hi (bG (by simp) (bY ?_))
    rw [if_neg (fun z=>h0 z.1)];rfl
theorem OQ (key:Int) (s:ByteArray) (hk:0≤key∧key≤65535) (hs:s.size=24):Ev (fun k=>dK.f k key s) (GL (nj key s)):=by
  obtain ⟨p1,p2,p3⟩:=xE key hk
  have Mn:aM.f key 0 65535=some true:=by unfold aM.f;rw [if_pos (by omega),decide_eq_true hk.2]
  have e:l6.f key=some true:=by unfold l6.f;rw [Mn];rfl
  have hx:∀k,jP.f k s (ou key)=some (ot s (ou key)):=by intro k;unfold jP.f;rw [if_pos (by omega),if_pos (by omega)]
  have ht:(ot s (ou key)).size=24:=by rw [oA,hs]
  unfold dK.f nj
  refine jl e (ay ⟨rfl,hs⟩ (bI p3 (bI (mG hx) (ay ht ?_))))
  dsimp only
  generalize ot s (ou key)=t at ht⊢
  have b0:=nw t 0
  have b1:=nw t 1
  have hc:=Dz (t.extract 2 18) (by rw [ByteArray.size_extract,ht];decide)
  have hu:((t.extract 2 t.size++(⟨#[0,0]⟩:ByteArray)).extract 0 16).size=16:=by rw [ByteArray.size_extract,ByteArray.size_append,ByteArray.size_extract,ht];rfl
  obtain ⟨q,hq⟩:=Su _ hu
  rw [fI (x:=bt t 0) (by omega) (by omega),fI (x:=bt t 1) (by omega) (by omega)]
  by_cases h0:1≤bt t 0
  · have hi:jQ.f (bt t 0)=some (decide (bt t 0≤250)):=by unfold jQ.f aM.f;rw [if_pos (by omega)];rfl
    refine jl hi ?_
    by_cases h1:bt t 0≤250
    · refine ay (decide_eq_true h1) (bI hc.2.2.2 ?_)
      by_cases h2:bt t 1=FW (t.extract 2 18)
      · refine ay h2 (bI hq (bY ?_))
        rw [if_pos ⟨h0,h1,h2⟩];rfl
      · refine bG h2 (bY ?_)
        rw [if_neg (fun z=>h2 z.2.2)];rfl
    · refine bG (by simp;omega) (bY ?_)
      rw [if_neg (fun z=>h1 z.2.1)];rfl
  · have hi:jQ.f (bt t 0)=some false:=by unfold jQ.f aM.f;rw [if_neg (by omega)];rfl
    refine jl hi (bG (by simp) (bY ?_))
    rw [if_neg (fun z=>h0 z.1)];rfl
theorem Sv (a:UInt8):¬a<a:=fun z=>by have:=UInt8.lt_iff_toNat_lt.1 z;omega
theorem M4:∀x:List UInt8,Op.bytesLess x x=false
  |[]=>rfl
  | a :: x => by
    have h:=M4 x
    have:=Sv a
    simp [Op.bytesLess,this,h]
theorem DU:∀x y z:List UInt8,Op.bytesLess x y=true→Op.bytesLess y z=true→Op.bytesLess x z=true
  |x,[],z=>fun h _=>by cases x<;>simp [Op.bytesLess] at h
  |x,_::_,[]=>fun _ h=>by simp [Op.bytesLess] at h
  |[],_::_,_::_=>fun _ _=>rfl
  | a :: x, b :: y, c :: z => fun h1 h2 => by
    have ih:=DU x y z
    simp only [Op.bytesLess,Bool.or_eq_true,decide_eq_true_eq,Bool.and_eq_true,beq_iff_eq] at h1 h2⊢
    rcases h1 with h1|⟨rfl,h1⟩
    · rcases h2 with h2|⟨rfl,h2⟩
      · left
        have:=UInt8.lt_iff_toNat_lt.1 h1
        have:=UInt8.lt_iff_toNat_lt.1 h2
        exact UInt8.lt_iff_toNat_lt.2 (by omega)
      · exact Or.inl h1
    · rcases h2 with h2|⟨rfl,h2⟩
      · exact Or.inl h2
      · exact Or.inr ⟨rfl,ih h1 h2⟩
def pg (a b:ByteArray):Bool:=Op.bytesLess a.toList b.toList
theorem G0 (a:ByteArray):pg a a=false:=M4 _
theorem uW {a b c:ByteArray} (h1:pg a b=true) (h2:pg b c=true):pg a c=true:=DU _ _ _ h1 h2
theorem tu {a b:ByteArray} (h:pg a b=true):pg b a=false:=by
  rw [Bool.eq_false_iff]
  intro h2
  have:=uW h h2
  rw [G0] at this
  cases this
theorem wE {a b:ByteArray} (h1:pg a b=false) (h2:pg b a=false):a=b:=by
  have h:=mc a.toList b.toList
  unfold pg at h1 h2
  rw [h1,h2] at h
  have e:a.toList=b.toList:=by simpa using h
  rw [ByteArray.toList_eq,ByteArray.toList_eq] at e
  exact ByteArray.ext (Array.toList_inj.1 e)
theorem uX {a b c:ByteArray} (h1:pg b a=false) (h2:pg c b=false):pg c a=false:=by
  rw [Bool.eq_false_iff]
  intro h
  cases h3:pg a b with
  | true =>
    have:=uW h h3
    rw [h2] at this
    cases this
  | false =>
    have:=wE h3 h1
    subst this
    rw [h2] at h
    cases h
def rm:List ByteArray→Bool
  |a::b::r=> !pg b a&&rm (b::r)
  |_=>true
theorem ud:∀l:List ByteArray,rm l=true→l.Pairwise (fun a b=>pg b a=false)
  |[],_=>List.Pairwise.nil
  |[_],_=>List.pairwise_singleton _ _
  | a :: b :: r, h => by
    simp only [rm,Bool.and_eq_true,Bool.not_eq_true'] at h
    have ih:=ud (b::r) h.2
    refine List.Pairwise.cons (fun c hc=> ?_) ih
    rcases List.mem_cons.1 hc with rfl|hc
    · exact h.1
    · exact uX h.1 ((List.pairwise_cons.1 ih).1 c hc)
def gE (x:ByteArray):List ByteArray→List ByteArray
  |[]=>[x]
  |y::r=>if pg x y=true then x::y::r else y::gE x r
theorem xC (x:ByteArray):∀l,(gE x l).length=l.length+1
  |[]=>rfl
  | y :: r => by
    unfold gE
    split
    · simp
    · simp [xC x r]
theorem zB (x:ByteArray):∀l:List ByteArray,l.Pairwise (fun a b=>pg b a=false)→l.takeWhile (fun y=>pg y x)++x::l.dropWhile (fun y=>pg y x)=gE x l
  |[],_=>rfl
  | y :: r, h => by
    obtain ⟨h1,h2⟩:=List.pairwise_cons.1 h
    have ih:=zB x r h2
    unfold gE
    by_cases c:pg x y=true
    · rw [if_pos c]
      have:=tu c
      simp [this]
    · rw [if_neg c]
      cases c2:pg y x with
      |true=>simp [c2,ih]
      | false =>
        have e:=wE (by simpa using c) c2
        subst e
        have hr:∀r:List ByteArray,(∀z∈r,pg z x=false)→gE x r=x::r:=by
          intro r
          induction r with
          |nil=>intro _;rfl
          | cons z r ih2 =>
            intro hz
            unfold gE
            by_cases c3:pg x z=true
            · rw [if_pos c3]
            · rw [if_neg c3,ih2 (fun q hq=>hz q (by simp [hq]))]
              rw [wE (by simpa using c3) (hz z (by simp))]
        rw [hr r h1]
        simp [c2]
theorem zX {α:Type} (p:α→Bool):∀(l:List α) (t:Nat),t≤l.length→(∀q (h:q<l.length),q<t→p l[q]=true)→(∀q (h:q<l.length),t≤q→p l[q]=false)→l.take t=l.takeWhile p∧l.drop t=l.dropWhile p
  |[],t,_,_,_=>by simp
  | y :: r, 0, _, _, h2 => by
    have:=h2 0 (by simp) (Nat.le_refl _)
    simp at this
    simp [this]
  | y :: r, t + 1, ht, h1, h2 => by
    have h0:=h1 0 (by simp) (by omega)
    simp at h0
    obtain ⟨e1,e2⟩:=zX p r t (by simpa using ht) (fun q hq hl=>by have h:=h1 (q+1) (by simpa using hq) (by omega);rw [List.getElem_cons_succ] at h;exact h) (fun q hq hl=>by have h:=h2 (q+1) (by simpa using hq) (by omega);rw [List.getElem_cons_succ] at h;exact h)
    simp [h0,e1,e2]
theorem ZE (xs:List ByteArray) (a:ByteArray) (p:ByteArray→Bool) (hp:∀y,fq.f y a=some (p y)) (hn:xs.length≤4194304) (mono:∀q r (hr:r<xs.length) (hq:q≤r),p xs[r]=true→p xs[q]=true):∀(d i j:Nat),j-i≤d→i≤j→j≤xs.length→(∀q (h:q<xs.length),q<i→p xs[q]=true)→(∀q (h:q<xs.length),j≤q→p xs[q]=false)→
    ∃(t:Nat) (b:Bool),t≤xs.length∧Ev (fun k=>az.l0 k xs a (xs.length:Int) (i:Int) (j:Int)) ((t:Int),b)∧(∀q (h:q<xs.length),q<t→p xs[q]=true)∧(∀q (h:q<xs.length),t≤q→p xs[q]=false):=by
  intro d
  induction d with
  | zero =>
    intro i j hd Ku hj h1 h2
    have e:i=j:=by omega
    subst e
    by_cases hi:i<xs.length
    · by_cases c:(fun u v:ByteArray=>u.toList=v.toList) ((aV ByteArray.empty) xs (i:Int)) a
      · exact ⟨i,true,hj,aQ (fun k=>by rw [az.l0]) (bG (by omega) (ay (by omega) (ay (by omega) (ay (by omega) (ay c (bY rfl)))))),h1,h2⟩
      · refine ⟨i,false,hj,aQ (fun k=>by rw [az.l0]) (bG (by omega) (ay (by omega) (ay (by omega) (ay (by omega) (bG c (jl (a:=false) (by unfold dY.f;simp) (bG Bool.false_ne_true (bY rfl)))))))),h1,h2⟩
    · exact ⟨i,false,hj,aQ (fun k=>by rw [az.l0]) (bG (by omega) (bG (by omega) (bY rfl))),h1,h2⟩
  | succ d ih =>
    intro i j hd Ku hj h1 h2
    by_cases c:i<j
    · have hm:wrap64 (IntKind.u64.wrap (wrap64 ((i:Int)+(j:Int)))/2)=(((i+j)/2:Nat):Int):=by
        rw [fI (x:=(i:Int)+j) (by omega) (by omega),ng ((i:Int)+j) (by omega) (by omega),fI (by omega) (by omega)]
        omega
      have eO:(i+j)/2<xs.length:=by omega
      have hr:(aV ByteArray.empty) xs (((i+j)/2:Nat):Int)=xs[(i+j)/2]:=(dP xs _ _ eO)
      cases hb:p xs[(i+j)/2] with
      | true =>
        obtain ⟨t,b,t1,t2,t3,t4⟩:=ih ((i+j)/2+1) j (by omega) (by omega) hj (fun q hq hl=>mono q _ eO (by omega) hb) h2
        refine ⟨t,b,t1,aQ (fun k=>by rw [az.l0]) (ay (by omega) ?_),t3,t4⟩
        rw [hm,hr]
        refine ay (by omega) (ay (by omega) (jl (hp _) ?_))
        refine ay hb ?_
        rw [fI (by omega) (by omega)]
        exact t2
      | false =>
        obtain ⟨t,b,t1,t2,t3,t4⟩:=ih i ((i+j)/2) (by omega) (by omega) (by omega) h1 (fun q hq hl=>by
          rw [Bool.eq_false_iff]
          intro z
          rw [mono _ q hq hl z] at hb
          cases hb)
        refine ⟨t,b,t1,aQ (fun k=>by rw [az.l0]) (ay (by omega) ?_),t3,t4⟩
        rw [hm,hr]
        refine ay (by omega) (ay (by omega) (jl (hp _) ?_))
        exact bG (by rw [hb];decide) t2
    · exact by
        have e:i=j:=by omega
        subst e
        by_cases hi:i<xs.length
        · by_cases c:(fun u v:ByteArray=>u.toList=v.toList) ((aV ByteArray.empty) xs (i:Int)) a
          · exact ⟨i,true,hj,aQ (fun k=>by rw [az.l0]) (bG (by omega) (ay (by omega) (ay (by omega) (ay (by omega) (ay c (bY rfl)))))),h1,h2⟩
          · refine ⟨i,false,hj,aQ (fun k=>by rw [az.l0]) (bG (by omega) (ay (by omega) (ay (by omega) (ay (by omega) (bG c (jl (a:=false) (by unfold dY.f;simp) (bG Bool.false_ne_true (bY rfl)))))))),h1,h2⟩
        · exact ⟨i,false,hj,aQ (fun k=>by rw [az.l0]) (bG (by omega) (bG (by omega) (bY rfl))),h1,h2⟩
theorem ZF (xs:List ByteArray) (a:ByteArray) (p:ByteArray→Bool) (hp:∀y,fq.f y a=some (p y)) (hn:xs.length≤4194304) (mono:∀q r (hr:r<xs.length) (hq:q≤r),p xs[r]=true→p xs[q]=true):
    Ev (fun k=>eC.f k xs a) (xs.takeWhile p++a::xs.dropWhile p):=by
  obtain ⟨t,b,t1,t2,t3,t4⟩:=ZE xs a p hp hn mono xs.length 0 xs.length (by omega) (by omega) (Nat.le_refl _) (fun q h hl=>by omega) (fun q h hl=>by omega)
  obtain ⟨e1,e2⟩:=zX p xs t t1 t3 t4
  unfold eC.f az.f
  refine bI t2 ?_
  refine jl (a:=xs) (by unfold bq.f;simp;omega) ?_
  refine ay (by omega) (ay (by omega) (ay (by omega) (bY ?_)))
  rw [Int.toNat_natCast,e1,e2]
theorem Tq (a b:ByteArray):fq.f a b=some (pg a b):=by
  unfold fq.f dQ.f
  simp [pg]
theorem zA (xs:List ByteArray) (x:ByteArray) (hn:xs.length≤4194304) (hc:rm xs=true):Ev (fun k=>eC.f k xs x) (gE x xs):=by
  have hp:=ud xs hc
  have:=ZF xs x (fun y=>pg y x) (fun y=>Tq y x) hn (fun q r hr hq h=>by
    rcases Nat.lt_or_eq_of_le hq with hq|rfl
    · have h2:=List.pairwise_iff_getElem.1 hp q r (by omega) hr hq
      cases h3:pg xs[q] x with
      |true=>rfl
      | false =>
        have:=uX h3 h2
        rw [h] at this
        cases this
    · exact h)
  rwa [zB x xs hp] at this
theorem OO (xs:List ByteArray) (x:ByteArray) (hn:xs.length≤1048576):∀(d i:Nat),i+d=xs.length→Ev (fun k=>ek.l0 k xs x (i:Int)) (xs.take i++gE x (xs.drop i)):=by
  intro d
  induction d with
  | zero =>
    intro i hi
    have e1:xs.take i=xs:=List.take_of_length_le (by omega)
    have e2:xs.drop i=[]:=List.drop_eq_nil_of_le (by omega)
    refine aQ (fun k=>by rw [ek.l0]) ?_
    refine bG (by omega) (jl rfl (ay (by omega) (ay (by omega) ?_)))
    rw [Int.toNat_natCast,e1,e2]
    refine ay (by simp;omega) (jl rfl (ay (by simp;omega) (jl rfl (ay (by simp;omega) (bY ?_)))))
    simp [gE]
  | succ d ih =>
    intro i hi
    have eO:i<xs.length:=by omega
    refine aQ (fun k=>by rw [ek.l0]) ?_
    refine ay (by omega) (ay (by omega) ?_)
    rw [show aV ByteArray.empty xs (i:Int)=xs[i] from dP xs i _ eO]
    have e3:xs.drop i=xs[i]::xs.drop (i+1):=List.drop_eq_getElem_cons eO
    by_cases c:pg x xs[i]=true
    · refine ay c (jl rfl (ay (by omega) ?_))
      rw [Int.toNat_natCast]
      refine ay (by simp;omega) (jl rfl (ay (by simp;omega) (jl rfl (ay (by simp;omega) (bY ?_)))))
      rw [e3,gE,if_pos c,←e3]
      simp
    · refine bG c ?_
      rw [fI (by omega) (by omega),e3,gE,if_neg c,show (i:Int)+1=((i+1:Nat):Int) by omega]
      have:=ih (i+1) (by omega)
      rw [List.take_succ_eq_append_getElem eO,List.append_assoc] at this
      exact this
theorem GK (xs:List ByteArray) (x:ByteArray) (hn:xs.length≤1048576):Ev (fun k=>ek.f k xs x) (gE x xs):=by
  have:=OO xs x hn xs.length 0 (by omega)
  rw [List.take_zero,List.nil_append,List.drop_zero] at this
  exact this
theorem jO (x:ByteArray):∀l,(gE x l).Perm (x::l)
  |[]=>List.Perm.refl _
  | y :: r => by
    unfold gE
    split
    · exact List.Perm.refl _
    · exact ((jO x r).cons y).trans (List.Perm.swap x y r)
theorem o8:∀l:List ByteArray,l.Pairwise (fun a b=>pg b a=false)→rm l=true
  |[],_=>rfl
  |[_],_=>rfl
  | a :: b :: r, h => by
    obtain ⟨h1,h2⟩:=List.pairwise_cons.1 h
    simp only [rm,Bool.and_eq_true,Bool.not_eq_true']
    exact ⟨h1 b (by simp),o8 (b::r) h2⟩
theorem vC (x:ByteArray):∀l:List ByteArray,l.Pairwise (fun a b=>pg b a=false)→(gE x l).Pairwise (fun a b=>pg b a=false)
  |[],_=>List.pairwise_singleton _ _
  | y :: r, h => by
    obtain ⟨h1,h2⟩:=List.pairwise_cons.1 h
    unfold gE
    by_cases c:pg x y=true
    · rw [if_pos c]
      refine List.Pairwise.cons (fun z hz=> ?_) h
      rcases List.mem_cons.1 hz with rfl|hz
      · exact tu c
      · exact uX (tu c) (h1 z hz)
    · rw [if_neg c]
      refine List.Pairwise.cons (fun z hz=> ?_) (vC x r h2)
      rcases List.mem_cons.1 ((jO x r).mem_iff.1 hz) with rfl|hz
      · simpa using c
      · exact h1 z hz
def ku (lo hi x:Int):Bool:=decide (x≥lo)&&decide (x≤hi)
theorem fD {lo hi x:Int} :ku lo hi x=true↔lo≤x∧x≤hi:=by simp [ku]
def allI {α:Type} (p:Nat→α→Bool):Nat→List α→Bool
  |_,[]=>true
  |i,x::xs=>p i x&&allI p (i+1) xs
def zc (xs:List ByteArray) (i:Nat) (x:ByteArray):Bool:=decide ((x.size:Int)=24)&&(decide (i=0)||Op.bytesLess (xs.getD (i-1) ByteArray.empty).toList x.toList)
def Jp (xs:List ByteArray):Bool:=allI (zc xs) 0 xs&&decide ((xs.length:Int)≤100)
def ox (ys:List ByteArray) (x:ByteArray):Bool:=ys.any fun y=>decide (y.toList=x.toList)
def sO (b:List ByteArray):Bool:=b.all (fun x=>ku 1 15 (x.size:Int))&&decide (b.length≤60)
def lZ (outs:List (List ByteArray)) (i:Nat) (x:List ByteArray):Bool:=Jp x&&(Jp (outs.getD i [])&&x.all (ox (outs.getD i [])))
def kM (K:List Int) (ins outs boxes:List (List ByteArray)) (t:Int):Bool:=ku 1 4 (K.length:Int)&&(K.all (ku 0 65535)&&(decide ((ins.length:Int)=(K.length:Int))&&(decide ((outs.length:Int)=(K.length:Int))&&(decide ((boxes.length:Int)=4)&&(ku 0 60 t&&(allI (lZ outs) 0 ins&&boxes.all sO))))))
def dw (ps:List (List ByteArray)):Prop:=ps.length≤1048576∧∀p∈ps,p.length≤1048576
theorem pq (a lo hi:Int):bD.f a lo hi=some (ku lo hi a):=by
  unfold bD.f ku
  by_cases h:a≥lo<;>simp [h]
theorem O8 (xs:List Int) (lo up:Int) (hn:xs.length≤9223372036854775807):∀(d i:Nat),i+d=xs.length→Ev (fun k=>bR.l0 k lo up xs (xs.length:Int) (i:Int)) ((xs.drop i).all (ku lo up)):=by
  intro d
  induction d with
  | zero =>
    intro i hi
    refine aQ (fun k=>by rw [bR.l0]) ?_
    refine bG (by omega) (bY ?_)
    rw [List.drop_eq_nil_of_le (by omega)];rfl
  | succ d ih =>
    intro i hi
    have eO:i<xs.length:=by omega
    refine aQ (fun k=>by rw [bR.l0]) ?_
    refine ay (by omega) (ay (by omega) (ay (by omega) ?_))
    rw [o7 xs i eO,List.drop_eq_getElem_cons eO,List.all_cons]
    refine jl (pq _ _ _) ?_
    cases h:ku lo up xs[i] with
    | true =>
      refine ay rfl ?_
      rw [fI (by omega) (by omega)]
      simpa using ih (i+1) (by omega)
    |false=>exact bG (by simp) (bY (by simp))
theorem AR (xs:List Int) (lo up:Int) (hn:xs.length≤9223372036854775807):Ev (fun k=>bR.f k xs lo up) (xs.all (ku lo up)):=
  O8 xs lo up hn xs.length 0 (by omega)
theorem Lb (xs:List ByteArray) (hn:xs.length≤1048576):∀(d i:Nat),i+d=xs.length→Ev (fun k=>cM.l0 k xs xs (xs.length:Int) (i:Int)) (allI (zc xs) i (xs.drop i)&&decide ((xs.length:Int)≤100)):=by
  intro d
  induction d with
  | zero =>
    intro i hi
    refine aQ (fun k=>by rw [cM.l0]) (bG (by omega) (bY ?_))
    rw [List.drop_eq_nil_of_le (by omega)];rfl
  | succ d ih =>
    intro i hi
    have eO:i<xs.length:=by omega
    refine aQ (fun k=>by rw [cM.l0]) (ay (by omega) (ay (by omega) (ay (by omega) ?_)))
    rw [show aV ByteArray.empty xs (i:Int)=xs[i] from dP xs i _ eO,List.drop_eq_getElem_cons eO,fI (x:=(i:Int)+1) (by omega) (by omega)]
    simp only [allI]
    by_cases h:(xs[i].size:Int)=24
    · refine ay h ?_
      by_cases h0:(i:Int)>0
      · refine ay h0 ?_
        rw [fI (x:=(i:Int)-1) (by omega) (by omega)]
        refine ay (by omega) (ay (by omega) ?_)
        have e:aV ByteArray.empty xs ((i:Int)-1)=xs.getD (i-1) ByteArray.empty:=by
          unfold aV
          rw [show ((i:Int)-1).toNat=i-1 by omega]
        rw [e]
        have we:¬i=0:=by omega
        cases hb:Op.bytesLess (xs.getD (i-1) ByteArray.empty).toList xs[i].toList with
        | true =>
          refine ay rfl ?_
          have hp:zc xs i xs[i]=true:=by unfold zc;rw [hb];simp [h]
          rw [hp,Bool.true_and]
          exact ih (i+1) (by omega)
        | false =>
          have hp:zc xs i xs[i]=false:=by unfold zc;rw [hb];simp [we]
          exact bG (by simp) (bY (by rw [hp];rfl))
      · refine bG h0 ?_
        have we:i=0:=by omega
        have hp:zc xs i xs[i]=true:=by unfold zc;rw [decide_eq_true h,decide_eq_true we];rfl
        rw [hp,Bool.true_and]
        exact ih (i+1) (by omega)
    · have hp:zc xs i xs[i]=false:=by unfold zc;simp [h]
      exact bG h (bY (by rw [hp];rfl))
theorem CT (xs:List ByteArray) (hn:xs.length≤1048576):Ev (fun k=>cM.f k xs) (Jp xs):=Lb xs hn xs.length 0 (by omega)
theorem Jg (ys:List ByteArray) (x:ByteArray) (hn:ys.length≤1048576):∀(d i:Nat),i+d=ys.length→Ev (fun k=>ep.l0 k x ys (ys.length:Int) (i:Int)) (ox (ys.drop i) x):=by
  intro d
  induction d with
  | zero =>
    intro i hi
    refine aQ (fun k=>by rw [ep.l0]) (bG (by omega) (bY ?_))
    rw [List.drop_eq_nil_of_le (by omega)];rfl
  | succ d ih =>
    intro i hi
    have eO:i<ys.length:=by omega
    refine aQ (fun k=>by rw [ep.l0]) (ay (by omega) (ay (by omega) (ay (by omega) ?_)))
    rw [show aV ByteArray.empty ys (i:Int)=ys[i] from dP ys i _ eO,List.drop_eq_getElem_cons eO,fI (by omega) (by omega)]
    unfold ox
    rw [List.any_cons]
    by_cases h:ys[i].toList=x.toList
    · exact ay h (bY (by simp [h]))
    · refine bG h ?_
      rw [decide_eq_false h,Bool.false_or]
      exact ih (i+1) (by omega)
theorem zu (ys:List ByteArray) (x:ByteArray) (hn:ys.length≤1048576):Ev (fun k=>ep.f k ys x) (ox ys x):=Jg ys x hn ys.length 0 (by omega)
theorem Jb (bs:List (List ByteArray)) (i:Nat) (b:List ByteArray) (hx:b.length≤1048576) (R:Bool) (H:Ev (fun k=>av.l2 k bs (bs.length:Int) (wrap64 ((i:Int)+1))) R):∀(d j:Nat),j+d=b.length→Ev (fun k=>av.l3 k b bs (bs.length:Int) (i:Int) b (b.length:Int) (j:Int)) ((b.drop j).all (fun x=>ku 1 15 (x.size:Int))&&(decide (b.length≤60)&&R)):=by
  intro d
  induction d with
  | zero =>
    intro j hj
    refine aQ (fun k=>by rw [av.l3]) (bG (by omega) ?_)
    rw [List.drop_eq_nil_of_le (by omega)]
    by_cases h:(b.length:Int)>60
    · exact ay h (bY (by
     have:¬b.length≤60:=by omega
     simp [this]))
    · have h':b.length≤60:=by omega
      refine bG h ?_
      simpa [h'] using H
  | succ d ih =>
    intro j hj
    have eO:j<b.length:=by omega
    refine aQ (fun k=>by rw [av.l3]) (ay (by omega) (ay (by omega) (ay (by omega) ?_)))
    rw [show aV ByteArray.empty b (j:Int)=b[j] from dP b j _ eO,List.drop_eq_getElem_cons eO,List.all_cons]
    refine jl (pq _ _ _) ?_
    cases h:ku 1 15 (b[j].size:Int) with
    | true =>
      refine ay rfl ?_
      rw [fI (x:=(j:Int)+1) (by omega) (by omega)]
      exact ih (j+1) (by omega)
    |false=>exact bG (by simp) (bY (by simp))
theorem Jc (bs:List (List ByteArray)) (hb:dw bs):∀(d i:Nat),i+d=bs.length→Ev (fun k=>av.l2 k bs (bs.length:Int) (i:Int)) ((bs.drop i).all sO):=by
  have hn:=hb.1
  intro d
  induction d with
  | zero =>
    intro i hi
    refine aQ (fun k=>by rw [av.l2]) (bG (by omega) (bY ?_))
    rw [List.drop_eq_nil_of_le (by omega)];rfl
  | succ d ih =>
    intro i hi
    have eO:i<bs.length:=by omega
    refine aQ (fun k=>by rw [av.l2]) (ay (by omega) (ay (by omega) (ay (by omega) ?_)))
    rw [show bK bs (i:Int)=bs[i] from dP bs i _ eO,List.drop_eq_getElem_cons eO,List.all_cons]
    have hx:=hb.2 _ (List.getElem_mem eO)
    have:=Jb bs i bs[i] hx _ (by rw [fI (by omega) (by omega)];exact ih (i+1) (by omega)) bs[i].length 0 (by omega)
    unfold sO
    rw [Bool.and_assoc]
    exact this
theorem Jd (K:List Int) (ins outs boxes:List (List ByteArray)) (t:Int) (i:Nat) (hi:i<ins.length) (hn:ins.length≤1048576) (ho:i<outs.length) (PA:(outs.getD i []).length≤1048576) (x:List ByteArray) (hx:x.length≤1048576) (R:Bool) (H:Ev (fun k=>av.l0 k ins (ins.length:Int) (wrap64 ((i:Int)+1)) K ins outs boxes t) R):
    ∀(d j:Nat),j+d=x.length→Ev (fun k=>av.l1 k (i:Int) ins (ins.length:Int) (i:Int) x (x.length:Int) (j:Int) K ins outs boxes t) ((x.drop j).all (ox (outs.getD i []))&&R):=by
  intro d
  induction d with
  | zero =>
    intro j hj
    refine aQ (fun k=>by rw [av.l1]) (bG (by omega) ?_)
    rw [List.drop_eq_nil_of_le (by omega)]
    exact H
  | succ d ih =>
    intro j hj
    have eO:j<x.length:=by omega
    refine aQ (fun k=>by rw [av.l1]) (ay (by omega) (ay (by omega) (ay (by omega) (ay (by omega) (ay (by omega) ?_)))))
    rw [show aV ByteArray.empty x (j:Int)=x[j] from dP x j _ eO,List.drop_eq_getElem_cons eO,List.all_cons,fI (x:=(j:Int)+1) (by omega) (by omega),show bK outs (i:Int)=outs.getD i [] from by unfold bK;rw [Int.toNat_natCast]]
    refine bI (zu _ _ PA) ?_
    cases ox (outs.getD i []) x[j] with
    |true=>exact ay rfl (by simpa using ih (j+1) (by omega))
    |false=>exact bG (by simp) (bY (by simp))
theorem Je (K:List Int) (ins outs boxes:List (List ByteArray)) (t:Int) (hi:dw ins) (ho:dw outs) (hb:dw boxes) (hl:outs.length=ins.length):∀(d i:Nat),i+d=ins.length→Ev (fun k=>av.l0 k ins (ins.length:Int) (i:Int) K ins outs boxes t) (allI (lZ outs) i (ins.drop i)&&boxes.all sO):=by
  have hn:=hi.1
  intro d
  induction d with
  | zero =>
    intro i hd
    refine aQ (fun k=>by rw [av.l0]) (bG (by omega) ?_)
    rw [List.drop_eq_nil_of_le (by omega)]
    exact Jc boxes hb boxes.length 0 (by omega)
  | succ d ih =>
    intro i hd
    have eO:i<ins.length:=by omega
    refine aQ (fun k=>by rw [av.l0]) (ay (by omega) (ay (by omega) (ay (by omega) ?_)))
    rw [show bK ins (i:Int)=ins[i] from dP ins i _ eO,show bK outs (i:Int)=outs.getD i [] from by unfold bK;rw [Int.toNat_natCast],List.drop_eq_getElem_cons eO]
    have hx:=hi.2 _ (List.getElem_mem eO)
    generalize ins[i]=x at hx
    have PA:(outs.getD i []).length≤1048576:=by
      rw [List.getD_eq_getElem?_getD,List.getElem?_eq_getElem (by omega)]
      exact ho.2 _ (List.getElem_mem _)
    have J:∀b,Ev (fun k=>av.j2 k (i:Int) x ins (ins.length:Int) (i:Int) b K ins outs boxes t) (!b&&(x.all (ox (outs.getD i []))&&(allI (lZ outs) (i+1) (ins.drop (i+1))&&boxes.all sO))):=by
      intro b
      refine aQ (fun k=>by rw [av.j2]) ?_
      cases b with
      |true=>exact ay rfl (bY rfl)
      | false =>
        refine bG (by simp) ?_
        have:=Jd K ins outs boxes t i eO hn (by omega) PA x hx _ (by rw [fI (by omega) (by omega)];exact ih (i+1) (by omega)) x.length 0 (by omega)
        exact this
    simp only [allI,lZ]
    refine bI (CT x hx) ?_
    cases h1:Jp x with
    |false=>refine bG (by simp) ?_;simpa using J true
    | true =>
      refine ay rfl (ay (by omega) (bI (CT _ PA) ?_))
      have:=J (!Jp (outs.getD i []))
      rw [Bool.not_not] at this
      rw [Bool.true_and,Bool.and_assoc,Bool.and_assoc]
      exact this
theorem Jf (K:List Int) (ins outs boxes:List (List ByteArray)) (t:Int) (hi:dw ins) (ho:dw outs) (hb:dw boxes) (b:Bool) (hl:b=false→outs.length=ins.length):Ev (fun k=>av.j0 k b K ins outs boxes t) (!b&&(allI (lZ outs) 0 ins&&boxes.all sO)):=by
  refine aQ (fun k=>by rw [av.j0]) ?_
  cases b with
  |true=>exact ay rfl (bY rfl)
  |false=>exact bG (by simp) (Je K ins outs boxes t hi ho hb (hl rfl) ins.length 0 (by omega))
theorem Lc (K:List Int) (ins outs boxes:List (List ByteArray)) (t:Int) (hK:K.length≤1048576) (hi:dw ins) (ho:dw outs) (hb:dw boxes):Ev (fun k=>av.f k K ins outs boxes t) (kM K ins outs boxes t):=by
  have J:=Jf K ins outs boxes t hi ho hb
  unfold av.f kM
  refine jl (pq _ _ _) ?_
  cases h1:ku 1 4 (K.length:Int) with
  |false=>refine bG (by simp) ?_;simpa using J true (by simp)
  | true =>
    have h1':=fD.1 h1
    refine ay rfl (bI (AR K 0 65535 (by omega)) ?_)
    cases h2:K.all (ku 0 65535) with
    |false=>refine bG (by simp) ?_;simpa using J true (by simp)
    | true =>
      refine ay rfl ?_
      by_cases h3:(ins.length:Int)=(K.length:Int)
      · refine ay h3 ?_
        by_cases h4:(outs.length:Int)=(K.length:Int)
        · refine ay h4 ?_
          by_cases h5:(boxes.length:Int)=4
          · refine ay h5 (jl (pq _ _ _) ?_)
            have:=J (!ku 0 60 t) (fun _=>by omega)
            simpa [h3,h4,h5] using this
          · refine bG h5 ?_;simpa [h5] using J true (by simp)
        · refine bG h4 ?_;simpa [h4] using J true (by simp)
      · refine bG h3 ?_;simpa [h3] using J true (by simp)
theorem XT (ys:List ByteArray) (x:ByteArray) (hn:ys.length≤1048576):∀(d i:Nat),i+d=ys.length→∃r:Int,Ev (fun k=>bE.l0 k ys x (ys.length:Int) (i:Int)) r∧(r≥0↔ox (ys.drop i) x=true):=by
  intro d
  induction d with
  | zero =>
    intro i hi
    refine ⟨-1,aQ (fun k=>by rw [bE.l0]) (bG (by omega) (bY rfl)),?_⟩
    rw [List.drop_eq_nil_of_le (by omega)];simp [ox]
  | succ d ih =>
    intro i hi
    have eO:i<ys.length:=by omega
    obtain ⟨r,h1,h3⟩:=ih (i+1) (by omega)
    unfold ox at h3⊢
    rw [List.drop_eq_getElem_cons eO,List.any_cons]
    by_cases h:x.toList=ys[i].toList
    · refine ⟨(i:Int),aQ (fun k=>by rw [bE.l0]) (ay (by omega) (ay (by omega) (ay (by omega) ?_))),by simp [h]⟩
      rw [show aV ByteArray.empty ys (i:Int)=ys[i] from dP ys i _ eO]
      exact ay h (bY rfl)
    · refine ⟨r,aQ (fun k=>by rw [bE.l0]) (ay (by omega) (ay (by omega) (ay (by omega) ?_))),by rw [decide_eq_false (fun z=>h z.symm),Bool.false_or];exact h3⟩
      rw [show aV ByteArray.empty ys (i:Int)=ys[i] from dP ys i _ eO]
      refine bG h ?_
      rw [fI (by omega) (by omega)]
      exact h1
theorem zO (ys:List ByteArray) (x:ByteArray) (hn:ys.length≤1048576):Ev (fun k=>cI.f k ys x) (ox ys x):=by
  obtain ⟨r,h1,h3⟩:=XT ys x hn ys.length 0 (by omega)
  refine bI (f:=fun _ t=>some (decide (t≥0))) h1 (bY ?_)
  rw [List.drop_zero] at h3
  cases e:ox ys x with
  |true=>rw [e] at h3;simpa using h3
  |false=>rw [e] at h3;simpa using h3
def Kz (l:List ByteArray):Prop:=l.length≤100∧(∀x∈l,x.size=24)∧l.Pairwise (fun a b=>pg b a=false)∧l.Nodup
structure GN (n:Nt):Prop where
  k1:1≤n.ks.length
  k4:n.ks.length≤4
  kr:∀x∈n.ks,0≤x∧x≤65535
  pl:n.ps.length=n.ks.length
  sl:n.ss.length=n.ks.length
  il:n.ib.length=4
  sd:0≤n.sd∧n.sd≤60
  po:∀i,Kz (n.ps.getD i [])
  so:∀i,Kz (n.ss.getD i [])
  sub:∀i x,x∈n.ps.getD i []→x∈n.ss.getD i []
  bx:∀b∈n.ib,b.length≤60∧∀x∈b,1≤x.size∧x.size≤15
theorem Ci:Kz []:=⟨by simp,by simp,List.Pairwise.nil,List.nodup_nil⟩
theorem oN (l:List ByteArray) (x:ByteArray):ox l x=true↔x∈l:=by
  unfold ox
  rw [List.any_eq_true]
  constructor
  · rintro ⟨y,h1,h2⟩
    have h3:y.toList=x.toList:=of_decide_eq_true h2
    have:y=x:=by
      rw [ByteArray.toList_eq,ByteArray.toList_eq] at h3
      exact ByteArray.ext (Array.toList_inj.1 h3)
    rwa [←this]
  · intro h
    exact ⟨x,h,decide_eq_true rfl⟩
open Classical in
theorem xI {α:Type} :∀(l m:List α),l.Nodup→(∀x∈l,x∈m)→l.length≤m.length
  |[],_,_,_=>Nat.zero_le _
  | x :: r, m, hn, hs => by
    obtain ⟨h1,h2⟩:=List.nodup_cons.1 hn
    have hx:=hs x (by simp)
    have ih:=xI r (m.erase x) h2 (fun y hy=>(List.mem_erase_of_ne (fun e=>h1 (by rw [←e];exact hy))).2 (hs y (by simp [hy])))
    have hp:=List.length_pos_of_mem hx
    rw [List.length_erase_of_mem hx] at ih
    simp only [List.length_cons]
    omega
theorem z6 {l:List ByteArray} {x:ByteArray} (h:Kz l) (hx:x.size=24) (hn:x∉l) (hl:l.length<100):Kz (gE x l):=by
  obtain ⟨h1,h2,h3,h4⟩:=h
  have hp:=jO x l
  refine ⟨by rw [xC];omega,fun y hy=> ?_,vC x l h3,(hp.nodup_iff).2 (List.nodup_cons.2 ⟨hn,h4⟩)⟩
  rcases List.mem_cons.1 (hp.mem_iff.1 hy) with rfl|hy
  · exact hx
  · exact h2 y hy
def kz (n:Nt) (i:Nat) (s:ByteArray):Nt:=if ox (n.ss.getD i []) s=true∨(n.ss.getD i []).length=100 then n else ⟨n.ks,n.ps.set i (gE s (n.ps.getD i [])),n.ss.set i (gE s (n.ss.getD i [])),n.ib,n.sd⟩
theorem Ic (n:Nt) (i:Nat) (s:ByteArray) (h1:i<n.ps.length) (h2:i<n.ss.length) (h3:(n.ps.getD i []).length≤1048576) (h4:(n.ss.getD i []).length≤1048576):Ev (fun k=>bJ.f k n (i:Int) s) (kz n i s):=by
  unfold bJ.f kz
  rw [Int.toNat_natCast]
  refine ay ⟨by omega,by omega,by omega⟩ (bI (zu _ s h4) ?_)
  by_cases c:ox (n.ss.getD i []) s=true∨(n.ss.getD i []).length=100
  · rw [if_pos c]
    exact ay c (bY rfl)
  · rw [if_neg c]
    exact bG c (bI (GK _ s h4) (bI (GK _ s h3) (bY rfl)))
theorem Ie (n:Nt) (i:Nat) (s:ByteArray) (h1:i<n.ps.length) (h2:i<n.ss.length) (h3:Kz (n.ps.getD i [])) (h4:Kz (n.ss.getD i [])):Ev (fun k=>bV.f k n (i:Int) s) (kz n i s):=by
  obtain ⟨p1,p2,p3,p4⟩:=h3
  obtain ⟨q1,q2,q3,q4⟩:=h4
  unfold bV.f kz
  rw [Int.toNat_natCast]
  refine ay ⟨by omega,by omega,by omega⟩ (bI (zO _ s (by omega)) ?_)
  by_cases c:ox (n.ss.getD i []) s=true∨(n.ss.getD i []).length=100
  · rw [if_pos c]
    exact ay c (bY rfl)
  · rw [if_neg c]
    exact bG c (bI (zA _ s (by omega) (o8 _ q3)) (bI (zA _ s (by omega) (o8 _ p3)) (bY rfl)))
theorem gT {α:Type} (z:α) (l:List α) (i j:Nat) (x:α):(l.set i x).getD j z=if i=j∧j<l.length then x else l.getD j z:=mh l i j x
theorem Ct {n:Nt} (g:GN n) {i:Nat} {s:ByteArray} (hi:i<n.ks.length) (hs:s.size=24):GN (kz n i s):=by
  unfold kz
  by_cases c:ox (n.ss.getD i []) s=true∨(n.ss.getD i []).length=100
  · rw [if_pos c];exact g
  · rw [if_neg c]
    obtain ⟨c1,c2⟩:=not_or.1 c
    have c1':s∉n.ss.getD i []:=fun h=>c1 ((oN _ _).2 h)
    have hss:=g.so i
    have hps:=g.po i
    have eO:(n.ss.getD i []).length<100:=by have:=hss.1;omega
    have hpl:(n.ps.getD i []).length≤(n.ss.getD i []).length:=xI _ _ hps.2.2.2 (g.sub i)
    refine ⟨g.k1,g.k4,g.kr,by rw [List.length_set];exact g.pl,by rw [List.length_set];exact g.sl,g.il,g.sd,fun j=> ?_,fun j=> ?_,fun j x hx=> ?_,g.bx⟩
    · rw [gT]
      split
      · exact z6 hps hs (fun h=>c1' (g.sub i s h)) (by omega)
      · exact g.po j
    · rw [gT]
      split
      · exact z6 hss hs c1' eO
      · exact g.so j
    · rw [gT] at hx⊢
      have e1:=g.pl
      have e2:=g.sl
      by_cases Ku:i=j
      · subst Ku
        rw [if_pos ⟨rfl,by omega⟩] at hx⊢
        rcases List.mem_cons.1 ((jO s _).mem_iff.1 hx) with rfl|hx
        · exact (jO x _).mem_iff.2 (by simp)
        · exact (jO s _).mem_iff.2 (List.mem_cons_of_mem _ (g.sub i x hx))
      · rw [if_neg (fun h=>Ku h.1)] at hx⊢
        exact g.sub j x hx
theorem pM (n:Nt) (i:Nat) (s:ByteArray):(kz n i s).ks=n.ks∧(kz n i s).ib=n.ib∧(kz n i s).sd=n.sd:=by
  unfold kz
  split<;>exact ⟨rfl,rfl,rfl⟩
noncomputable def kj (z:Bool) (i:Nat) (n:Nt) (s:ByteArray):Nt:=match nj (rd n.ks (i:Int)) s with
  |none=>n
  |some (x,y,b)=>if z=false then (if x=1 then kz n (i+1) y else n) else if (2≤x∧x≤5)∧¬b=(⟨#[]⟩:ByteArray)∧(n.ib.getD (x-2).toNat []).length<60 then ⟨n.ks,n.ps,n.ss,n.ib.set (x-2).toNat (n.ib.getD (x-2).toNat []++[b]),n.sd⟩ else n
noncomputable def qj (n:Nt) (i:Nat):Nt:=(n.ps.getD i []).foldl (kj (decide (i+1=n.ks.length)) i) ⟨n.ks,n.ps.set i [],n.ss,n.ib,n.sd⟩
theorem ux {n:Nt} (g:GN n) {z:Bool} {i:Nat} {s:ByteArray} (hz:z=decide (i+1=n.ks.length)) (hi:i<n.ks.length) (hs:s.size=24):GN (kj z i n s)∧(kj z i n s).ks=n.ks∧(kj z i n s).sd=n.sd:=by
  unfold kj
  split
  · exact ⟨g,rfl,rfl⟩
  · rename_i x y b hp
    obtain ⟨p1,p2,p3,p4⟩:=uU _ _ hs hp
    split
    · rename_i h0
      split
      · have Bo:i+1<n.ks.length:=by
          rw [hz] at h0
          have:=of_decide_eq_false h0
          omega
        exact ⟨Ct g Bo p1,(pM _ _ _).1,(pM _ _ _).2.2⟩
      · exact ⟨g,rfl,rfl⟩
    · split
      · rename_i c
        obtain ⟨⟨c1,c2⟩,c3,c4⟩:=c
        refine ⟨⟨g.k1,g.k4,g.kr,g.pl,g.sl,by rw [List.length_set];exact g.il,g.sd,g.po,g.so,g.sub,fun q hq=> ?_⟩,rfl,rfl⟩
        rcases List.mem_or_eq_of_mem_set hq with hq|rfl
        · exact g.bx q hq
        · have uH:1≤b.size:=by
            rcases Nat.eq_zero_or_pos b.size with h|h
            · exact absurd (ByteArray.ext (Array.eq_empty_of_size_eq_zero h)) c3
            · exact h
          refine ⟨by rw [List.length_append];simp only [List.length_cons,List.length_nil];omega,fun w hw=> ?_⟩
          rcases List.mem_append.1 hw with hw|hw
          · have Ft:=g.il
            have eO:(x-2).toNat<n.ib.length:=by omega
            rw [List.getD_eq_getElem?_getD,List.getElem?_eq_getElem eO] at hw
            exact (g.bx _ (List.getElem_mem eO)).2 w hw
          · rw [List.mem_singleton.1 hw]
            exact ⟨uH,p4⟩
      · exact ⟨g,rfl,rfl⟩
theorem IK {z:Bool} {i:Nat} :∀(P:List ByteArray) {n:Nt},GN n→z=decide (i+1=n.ks.length)→i<n.ks.length→(∀s∈P,s.size=24)→GN (P.foldl (kj z i) n)∧(P.foldl (kj z i) n).ks=n.ks∧(P.foldl (kj z i) n).sd=n.sd
  |[],n,g,_,_,_=>⟨g,rfl,rfl⟩
  | s :: P, n, g, hz, hi, hs => by
    obtain ⟨h1,h2,h3⟩:=ux g hz hi (hs s (by simp))
    obtain ⟨h4,h5,h6⟩:=IK (z:=z) (i:=i) P h1 (by rw [h2];exact hz) (by rw [h2];exact hi) (fun q hq=>hs q (by simp [hq]))
    exact ⟨h4,h5.trans h2,h6.trans h3⟩
theorem uz {n:Nt} (g:GN n) (i:Nat):GN ⟨n.ks,n.ps.set i [],n.ss,n.ib,n.sd⟩:=by
  refine ⟨g.k1,g.k4,g.kr,by rw [List.length_set];exact g.pl,g.sl,g.il,g.sd,fun j=> ?_,g.so,fun j x hx=> ?_,g.bx⟩
  · rw [gT]
    split
    · exact Ci
    · exact g.po j
  · rw [gT] at hx
    split at hx
    · cases hx
    · exact g.sub j x hx
theorem xe {n:Nt} (g:GN n) {i:Nat} (hi:i<n.ks.length):GN (qj n i)∧(qj n i).ks=n.ks∧(qj n i).sd=n.sd:=
  IK _ (uz g i) rfl hi (g.po i).2.1
theorem sj {n:Nt} (g:GN n) {i:Nat} (s:ByteArray) (hi:i<n.ks.length):Ev (fun k=>bJ.f k n (i:Int) s) (kz n i s):=by
  have h1:=g.po i
  have h2:=g.so i
  have e1:=g.pl
  have e2:=g.sl
  first
  |exact Ic n i s (by omega) (by omega) (by have:=h1.1;omega) (by have:=h2.1;omega)
  |exact Ie n i s (by omega) (by omega) h1 h2
theorem Gx (i:Nat) (z:Bool):∀(P:List ByteArray) (n:Nt),GN n→z=decide (i+1=n.ks.length)→i<n.ks.length→(∀s∈P,s.size=24)→Ev (fun k=>bw.l0 k (i:Int) z P n) (P.foldl (kj z i) n)
  | [], n, _, _, _, _ => by
    simp only [bw.l0]
    exact bY rfl
  | s :: P, n, g, hz, hi, hs => by
    simp only [bw.l0]
    have eO:(i:Int)<(n.ks.length:Int):=by omega
    have hk:0≤rd n.ks (i:Int)∧rd n.ks (i:Int)≤65535:=by
      rw [o7 _ i hi]
      exact g.kr _ (List.getElem_mem hi)
    have sK:=hs s (by simp)
    obtain ⟨g1,g2,g3⟩:=ux g hz hi sK
    have ih:=Gx i z P (kj z i n s) g1 (by rw [g2];exact hz) (by rw [g2];exact hi) (fun q hq=>hs q (by simp [hq]))
    rw [List.foldl_cons]
    refine ay eO (bI (OP _ s hk sK) ?_)
    unfold kj at ih⊢
    cases hp:nj (rd n.ks (i:Int)) s with
    | none =>
      rw [hp] at ih
      exact ay rfl ih
    | some p =>
      obtain ⟨x,y,b⟩:=p
      rw [hp] at ih
      obtain ⟨p1,p2,p3,p4⟩:=uU _ _ sK hp
      dsimp only [GL] at ih⊢
      refine bG (by decide) ?_
      by_cases h0:z=false
      · rw [if_pos h0] at ih⊢
        refine ay h0 ?_
        by_cases hx:x=1
        · rw [if_pos hx] at ih⊢
          have Bo:i+1<n.ks.length:=by
            rw [hz] at h0
            have:=of_decide_eq_false h0
            omega
          refine ay hx (bI (a:=kz n (i+1) y) ?_ ih)
          rw [show wrap64 ((i:Int)+1)=((i+1:Nat):Int) by rw [fI (by have:=g.k4;omega) (by have:=g.k4;omega)];omega]
          exact sj g y Bo
        · rw [if_neg hx] at ih⊢
          exact bG hx ih
      · rw [if_neg h0] at ih⊢
        refine bG h0 ?_
        have hw:=fI (x:=x-2) (by omega) (by omega)
        simp only [hw]
        have Mn:bD.f (x-2) 0 3=some (decide (2≤x∧x≤5)):=by
          unfold bD.f
          by_cases h2:2≤x
          · rw [if_pos (by omega)]
            congr 1
            by_cases h3:x≤5
            · rw [decide_eq_true (show x-2≤3 by omega),decide_eq_true ⟨h2,h3⟩]
            · rw [decide_eq_false (show¬x-2≤3 by omega),decide_eq_false (fun h=>h3 h.2)]
          · rw [if_neg (by omega),decide_eq_false (fun h=>h2 h.1)]
        refine jl Mn ?_
        by_cases hx:2≤x∧x≤5
        · refine bG (by rw [decide_eq_true hx];decide) ?_
          by_cases hb:b=(⟨#[]⟩:ByteArray)
          · rw [if_neg (fun h=>h.2.1 hb)] at ih⊢
            exact ay hb ih
          · refine bG hb (ay (by have:=g.il;omega) ?_)
            by_cases hl:(n.ib.getD (x-2).toNat []).length<60
            · rw [if_pos ⟨hx,hb,hl⟩] at ih⊢
              exact ay hl ih
            · rw [if_neg (fun h=>hl h.2.2)] at ih⊢
              exact bG hl ih
        · rw [if_neg (fun h=>hx h.1)] at ih⊢
          exact ay (decide_eq_false hx) ih
theorem Od {n:Nt} (g:GN n) {i:Nat} (hi:i<n.ks.length):Ev (fun k=>bw.f k n (i:Int)) (qj n i):=by
  have e1:=g.pl
  have e2:=g.il
  have e3:=(g.po i).1
  have e4:=g.k4
  unfold bw.f qj
  rw [Int.toNat_natCast]
  refine ay ⟨by omega,by omega,by omega,by omega,by omega⟩ ?_
  have hz:((i:Int)==wrap64 ((n.ks.length:Int)-1))=decide (i+1=n.ks.length):=by
    rw [fI (by omega) (by omega)]
    by_cases h:i+1=n.ks.length
    · rw [decide_eq_true h,beq_iff_eq];omega
    · rw [decide_eq_false h,beq_eq_false_iff_ne];omega
  rw [hz]
  exact Gx i _ _ _ (uz g i) rfl hi (g.po i).2.1
theorem sk {n:Nt} (g:GN n) {i:Nat} (s:ByteArray) (hi:i<n.ks.length):Ev (fun k=>bV.f k n (i:Int) s) (kz n i s):=by
  have h1:=g.po i
  have h2:=g.so i
  have e1:=g.pl
  have e2:=g.sl
  first
  |exact Ic n i s (by omega) (by omega) (by have:=h1.1;omega) (by have:=h2.1;omega)
  |exact Ie n i s (by omega) (by omega) h1 h2
theorem Gy (i:Nat) (z:Bool):∀(P:List ByteArray) (n:Nt),GN n→z=decide (i+1=n.ks.length)→i<n.ks.length→(∀s∈P,s.size=24)→Ev (fun k=>aI.l0 k (i:Int) z P n) (P.foldl (kj z i) n)
  | [], n, _, _, _, _ => by
    simp only [aI.l0]
    exact bY rfl
  | s :: P, n, g, hz, hi, hs => by
    simp only [aI.l0]
    have eO:(i:Int)<(n.ks.length:Int):=by omega
    have hk:0≤rd n.ks (i:Int)∧rd n.ks (i:Int)≤65535:=by
      rw [o7 _ i hi]
      exact g.kr _ (List.getElem_mem hi)
    have sK:=hs s (by simp)
    obtain ⟨g1,g2,g3⟩:=ux g hz hi sK
    have ih:=Gy i z P (kj z i n s) g1 (by rw [g2];exact hz) (by rw [g2];exact hi) (fun q hq=>hs q (by simp [hq]))
    rw [List.foldl_cons]
    refine ay eO (bI (OQ _ s hk sK) ?_)
    unfold kj at ih⊢
    cases hp:nj (rd n.ks (i:Int)) s with
    | none =>
      rw [hp] at ih
      exact ay rfl ih
    | some p =>
      obtain ⟨x,y,b⟩:=p
      rw [hp] at ih
      obtain ⟨p1,p2,p3,p4⟩:=uU _ _ sK hp
      dsimp only [GL] at ih⊢
      refine bG (by decide) ?_
      by_cases h0:z=false
      · rw [if_pos h0] at ih⊢
        refine ay h0 ?_
        by_cases hx:x=1
        · rw [if_pos hx] at ih⊢
          have Bo:i+1<n.ks.length:=by
            rw [hz] at h0
            have:=of_decide_eq_false h0
            omega
          refine ay hx (bI (a:=kz n (i+1) y) ?_ ih)
          rw [show wrap64 ((i:Int)+1)=((i+1:Nat):Int) by rw [fI (by have:=g.k4;omega) (by have:=g.k4;omega)];omega]
          exact sk g y Bo
        · rw [if_neg hx] at ih⊢
          exact bG hx ih
      · rw [if_neg h0] at ih⊢
        refine bG h0 ?_
        have hw:=fI (x:=x-2) (by omega) (by omega)
        simp only [hw]
        have Mn:aM.f (x-2) 0 3=some (decide (2≤x∧x≤5)):=by
          unfold aM.f
          by_cases h2:2≤x
          · rw [if_pos (by omega)]
            congr 1
            by_cases h3:x≤5
            · rw [decide_eq_true (show x-2≤3 by omega),decide_eq_true ⟨h2,h3⟩]
            · rw [decide_eq_false (show¬x-2≤3 by omega),decide_eq_false (fun h=>h3 h.2)]
          · rw [if_neg (by omega),decide_eq_false (fun h=>h2 h.1)]
        refine jl Mn ?_
        by_cases hx:2≤x∧x≤5
        · refine bG (by rw [decide_eq_true hx];decide) ?_
          by_cases hb:b=(⟨#[]⟩:ByteArray)
          · rw [if_neg (fun h=>h.2.1 hb)] at ih⊢
            exact ay hb ih
          · refine bG hb (ay (by have:=g.il;omega) ?_)
            by_cases hl:(n.ib.getD (x-2).toNat []).length<60
            · rw [if_pos ⟨hx,hb,hl⟩] at ih⊢
              exact ay hl ih
            · rw [if_neg (fun h=>hl h.2.2)] at ih⊢
              exact bG hl ih
        · rw [if_neg (fun h=>hx h.1)] at ih⊢
          exact ay (decide_eq_false hx) ih
theorem Gz {n:Nt} (g:GN n) {i:Nat} (hi:i<n.ks.length):Ev (fun k=>aI.f k n (i:Int)) (qj n i):=by
  have e1:=g.pl
  have e2:=g.il
  have e3:=(g.po i).1
  have e4:=g.k4
  unfold aI.f qj
  rw [Int.toNat_natCast]
  refine ay ⟨by omega,by omega,by omega,by omega,by omega⟩ ?_
  have hz:((i:Int)==wrap64 ((n.ks.length:Int)-1))=decide (i+1=n.ks.length):=by
    rw [fI (by omega) (by omega)]
    by_cases h:i+1=n.ks.length
    · rw [decide_eq_true h,beq_iff_eq];omega
    · rw [decide_eq_false h,beq_eq_false_iff_ne];omega
  rw [hz]
  exact Gy i _ _ _ (uz g i) rfl hi (g.po i).2.1
theorem yC {α:Type} {p:Nat→α→Bool} :∀(xs:List α) (i:Nat),allI p i xs=true→∀j (h:j<xs.length),p (i+j) xs[j]=true
  |[],_,_,j,h=>absurd h (Nat.not_lt_zero _)
  | x :: xs, i, ha, j, h => by
    simp only [allI,Bool.and_eq_true] at ha
    cases j with
    |zero=>exact ha.1
    | succ j =>
      have:=yC xs (i+1) ha.2 j (by simpa using h)
      rw [show i+(j+1)=i+1+j by omega]
      exact this
theorem GO {xs:List ByteArray} (h:Jp xs=true):Kz xs:=by
  unfold Jp at h
  rw [Bool.and_eq_true] at h
  have ha:=yC xs 0 h.1
  have hl:(xs.length:Int)≤100:=of_decide_eq_true h.2
  have hp:∀j (hj:j<xs.length),(xs[j].size:Int)=24∧(j=0∨pg (xs.getD (j-1) ByteArray.empty) xs[j]=true):=by
    intro j hj
    have:=ha j hj
    rw [Nat.zero_add] at this
    simpa [zc,pg] using this
  have eO:∀d i (hi:i+(d+1)<xs.length),pg (xs[i]'(by omega)) xs[i+(d+1)]=true:=by
    intro d
    induction d with
    | zero =>
      intro i hi
      rcases (hp (i+1) (by omega)).2 with h0|h0
      · omega
      · rw [Nat.add_sub_cancel,List.getD_eq_getElem?_getD,List.getElem?_eq_getElem (by omega)] at h0
        exact h0
    | succ d ih =>
      intro i hi
      refine uW (ih i (by omega)) ?_
      rcases (hp (i+(d+1+1)) (by omega)).2 with h0|h0
      · omega
      · rw [show i+(d+1+1)-1=i+(d+1) by omega,List.getD_eq_getElem?_getD,List.getElem?_eq_getElem (by omega)] at h0
        exact h0
  have zg:∀i j (hi:i<xs.length) (hj:j<xs.length),i<j→pg xs[i] xs[j]=true:=by
    intro i j hi hj Ku
    have:=eO (j-i-1) i (by omega)
    simpa [show i+(j-i-1+1)=j by omega] using this
  refine ⟨by omega,fun x hx=> ?_,List.pairwise_iff_getElem.2 (fun i j hi hj Ku=>tu (zg i j hi hj Ku)),List.pairwise_iff_getElem.2 (fun i j hi hj Ku e=> ?_)⟩
  · obtain ⟨j,hj,rfl⟩:=List.getElem_of_mem hx
    have:=(hp j hj).1
    omega
  · have h1:=zg i j hi hj Ku
    rw [e,G0] at h1
    cases h1
theorem Dq {n:Nt} (h:kM n.ks n.ps n.ss n.ib n.sd=true):GN n:=by
  unfold kM at h
  simp only [Bool.and_eq_true,decide_eq_true_eq] at h
  obtain ⟨h1,h2,h3,h4,h5,h6,h7,h8⟩:=h
  have h1:=fD.1 h1
  have h6:=fD.1 h6
  have hr:=yC _ 0 h7
  have hp:∀i,Kz (n.ps.getD i [])∧Kz (n.ss.getD i [])∧∀x,x∈n.ps.getD i []→x∈n.ss.getD i []:=by
    intro i
    by_cases hi:i<n.ps.length
    · have:=hr i hi
      rw [Nat.zero_add] at this
      simp only [lZ,Bool.and_eq_true] at this
      obtain ⟨a1,a2,a3⟩:=this
      have e:n.ps.getD i []=n.ps[i]:=by rw [List.getD_eq_getElem?_getD,List.getElem?_eq_getElem hi];rfl
      rw [e]
      exact ⟨GO a1,GO a2,fun x hx=>(oN _ _).1 (List.all_eq_true.1 a3 x hx)⟩
    · have e1:n.ps.getD i []=[]:=by rw [List.getD_eq_getElem?_getD,List.getElem?_eq_none (by omega)];rfl
      have e2:n.ss.getD i []=[]:=by rw [List.getD_eq_getElem?_getD,List.getElem?_eq_none (by omega)];rfl
      rw [e1,e2]
      exact ⟨Ci,Ci,fun x hx=>hx⟩
  refine ⟨by omega,by omega,fun x hx=>fD.1 (List.all_eq_true.1 h2 x hx),by omega,by omega,by omega,h6,fun i=>(hp i).1,fun i=>(hp i).2.1,fun i=>(hp i).2.2,fun b hb=> ?_⟩
  have:=List.all_eq_true.1 h8 b hb
  simp only [sO,Bool.and_eq_true,decide_eq_true_eq] at this
  refine ⟨this.2,fun x hx=> ?_⟩
  have:=fD.1 (List.all_eq_true.1 this.1 x hx)
  omega
theorem oU {n:Nt} (g:GN n):n.ks.length≤1048576∧dw n.ps∧dw n.ss∧dw n.ib:=by
  have e1:=g.k4
  have e2:=g.pl
  have e3:=g.sl
  have e4:=g.il
  have hx:∀(L:List (List ByteArray)),(∀i,Kz (L.getD i []))→∀p∈L,p.length≤1048576:=by
    intro L h p hp
    obtain ⟨j,hj,rfl⟩:=List.getElem_of_mem hp
    have:=(h j).1
    rw [List.getD_eq_getElem?_getD,List.getElem?_eq_getElem hj] at this
    exact Nat.le_trans this (by decide)
  exact ⟨by omega,⟨by omega,hx _ g.po⟩,⟨by omega,hx _ g.so⟩,⟨by omega,fun p hp=>Nat.le_trans (g.bx p hp).1 (by decide)⟩⟩
theorem SO (l:List (List ByteArray)) (hl:dw l):∀(d i:Nat) (acc:List (List ByteArray)),i+d=l.length→acc.length≤i→Ev (fun k=>cX.l0 k acc l (l.length:Int) (i:Int)) (acc++l.drop i):=by
  obtain ⟨l1,l2⟩:=hl
  intro d
  induction d with
  | zero =>
    intro i acc hi ha
    rw [List.drop_eq_nil_of_le (by omega),List.append_nil]
    exact aQ (fun k=>by rw [cX.l0]) (bG (by omega) (bY rfl))
  | succ d ih =>
    intro i acc hi ha
    have eO:i<l.length:=by omega
    have hz:=l2 _ (List.getElem_mem eO)
    have e:bK l (i:Int)=l[i]:=dP l i _ eO
    have:=ih (i+1) (acc++[l[i]]) (by omega) (by simp;omega)
    rw [List.append_assoc,List.singleton_append,←List.drop_eq_getElem_cons eO] at this
    refine aQ (fun k=>by rw [cX.l0]) (ay (by omega) (ay (by omega) (ay (by omega) ?_)))
    rw [e,fI (x:=(i:Int)+1) (by omega) (by omega)]
    exact jl rfl (ay (by simp;omega) (ay (by omega) this))
theorem Aw (l:List (List ByteArray)) (hl:dw l):Ev (fun k=>cX.f k l) l:=SO l hl l.length 0 [] (by omega) (by simp)
theorem Ls (n:Nt) (h1:n.ks.length≤1048576) (h2:dw n.ps) (h3:dw n.ss) (h4:dw n.ib):Ev (fun k=>en.f k n) n:=by
  unfold en.f
  exact ay h1 (bI (Aw _ h2) (bI (Aw _ h3) (bI (Aw _ h4) (bY rfl))))
theorem jF (a lo hi:Int):aM.f a lo hi=some (ku lo hi a):=by
  unfold aM.f ku
  by_cases h:a≥lo<;>simp [h]
theorem adh:∀n:Nat,1≤n→n≤6→bits_Mul.f 1 (n:Int)=some (0,(n:Int)):=by
  intro n h1 h6
  obtain rfl|rfl|rfl|rfl|rfl|rfl:n=1∨n=2∨n=3∨n=4∨n=5∨n=6:=by omega
  all_goals decide
theorem Lj:∀n:Nat,(⟨(Lib.repeatL [0] n).toArray⟩:ByteArray)=strOfNums (List.replicate n 0):=by
  have h:∀n:Nat,Lib.repeatL [0] n=List.replicate n (0:UInt8):=by
    intro n
    induction n with
    |zero=>rfl
    |succ n ih=>rw [List.replicate_succ,←ih];rfl
  intro n
  unfold strOfNums
  rw [h,List.map_replicate]
  rfl
theorem fG (l:List Int):(strOfNums l).size=l.length:=by
  unfold strOfNums
  show (List.toArray _).size=_
  rw [List.size_toArray,List.length_map]
theorem ad8 (s:ByteArray):(s.extract 0 22).extract 0 16=s.extract 0 16:=by
  rw [rj,rj,rj]
  show (⟨((List.take 22 s.data.toList).take 16).toArray⟩:ByteArray)=_
  rw [List.take_take]
  rfl
noncomputable def pT (k h:Int) (s:ByteArray):ByteArray:=ot (strOfNums [h%256,FW (s.extract 0 16)%256]++s.extract 0 22) (ou k)
noncomputable def V1 (ks hs:List Int):Nat→ByteArray→ByteArray
  |0,s=>s
  |i+1,s=>V1 ks hs i (pT (rd ks (i:Int)) (rd hs (i:Int)) s)
def ql (b:ByteArray):ByteArray:=((b++(⟨#[128]⟩:ByteArray))++strOfNums (List.replicate (15-b.size) 0))++strOfNums (List.replicate 8 0)
noncomputable def vD (ks hs:List Int) (b:ByteArray):ByteArray:=V1 ks hs ks.length (ql b)
theorem pn (k h:Int) (s:ByteArray) (hs:s.size=24):(pT k h s).size=24:=by
  unfold pT
  rw [oA,ByteArray.size_append,fG,ByteArray.size_extract,hs]
  rfl
theorem C5 (ks hs:List Int):∀(i:Nat) (s:ByteArray),s.size=24→(V1 ks hs i s).size=24
  |0,s,h=>h
  |i+1,s,h=>C5 ks hs i _ (pn _ _ _ h)
theorem nP (b:ByteArray) (hb:b.size≤15):(ql b).size=24:=by
  unfold ql
  rw [ByteArray.size_append,ByteArray.size_append,ByteArray.size_append,fG,fG,List.length_replicate,List.length_replicate]
  show b.size+1+(15-b.size)+8=24
  omega
theorem DO (ks hs:List Int) (hn:ks.length≤4) (hl:hs.length=ks.length) (hk:∀x∈ks,0≤x∧x≤65535):∀(i:Nat) (s:ByteArray),i≤ks.length→s.size=24→Ev (fun k=>aG.l0 k ks hs s ((i:Int)-1)) (V1 ks hs i s,true)
  | 0, s, hi, hq => by
    refine aQ (fun k=>by rw [aG.l0]) ?_
    exact bG (by omega) (bY rfl)
  | i + 1, s, hi, hq => by
    have eO:i<ks.length:=by omega
    have e:(((i+1:Nat):Int)-1)=(i:Int):=by omega
    have hc:=Dz (s.extract 0 16) (by rw [ByteArray.size_extract,hq];decide)
    have TP:0≤rd ks (i:Int)∧rd ks (i:Int)≤65535:=by rw [o7 ks i eO];exact hk _ (List.getElem_mem eO)
    obtain ⟨p1,p2,p3⟩:=xE _ TP
    have h22:(s.extract 0 22).size=22:=by rw [ByteArray.size_extract,hq];rfl
    have ih:=DO ks hs hn hl hk i (pT (rd ks (i:Int)) (rd hs (i:Int)) s) (by omega) (pn _ _ _ hq)
    refine aQ (fun k=>by rw [aG.l0]) ?_
    rw [e]
    refine ay (by omega) (ay (by omega) (ay (by omega) (ay (by omega) (ay (by omega) (ay (by omega) (ay (by omega) ?_))))))
    rw [ad8]
    refine bI hc.2.2.1 (jl rfl (ay (by rw [fG];simp;omega) (ay (by omega) (bI p2 (bI (a:=pT (rd ks (i:Int)) (rd hs (i:Int)) s) (mG fun k=> ?_) ?_)))))
    · unfold gW.f pT
      have hz:(strOfNums [rd hs (i:Int)%256,FW (s.extract 0 16)%256]++s.extract 0 22).size=24:=by rw [ByteArray.size_append,fG,h22];rfl
      rw [if_pos (by omega),if_pos (by omega)]
    · rw [fI (x:=(i:Int)-1) (by omega) (by omega)]
      exact ih
theorem DP (ks hs:List Int) (hn:ks.length≤4) (hl:hs.length=ks.length) (hk:∀x∈ks,0≤x∧x≤65535):∀(i:Nat) (s:ByteArray),i≤ks.length→s.size=24→Ev (fun k=>dy.l0 k ks hs s ((i:Int)-1)) (V1 ks hs i s)
  | 0, s, hi, hq => by
    refine aQ (fun k=>by rw [dy.l0]) ?_
    exact bG (by omega) (bY rfl)
  | i + 1, s, hi, hq => by
    have eO:i<ks.length:=by omega
    have e:(((i+1:Nat):Int)-1)=(i:Int):=by omega
    have hc:=Dz (s.extract 0 16) (by rw [ByteArray.size_extract,hq];decide)
    have TP:0≤rd ks (i:Int)∧rd ks (i:Int)≤65535:=by rw [o7 ks i eO];exact hk _ (List.getElem_mem eO)
    obtain ⟨p1,p2,p3⟩:=xE _ TP
    have h22:(s.extract 0 22).size=22:=by rw [ByteArray.size_extract,hq];rfl
    have ih:=DP ks hs hn hl hk i (pT (rd ks (i:Int)) (rd hs (i:Int)) s) (by omega) (pn _ _ _ hq)
    refine aQ (fun k=>by rw [dy.l0]) ?_
    rw [e]
    refine ay (by omega) (ay (by omega) (ay (by omega) (ay (by omega) (ay (by omega) ?_))))
    refine bI hc.2.2.2 (jl rfl (ay (by omega) (ay (by omega) (ay (by rw [fG];simp;omega) (ay (by omega) (bI p3 (bI (a:=pT (rd ks (i:Int)) (rd hs (i:Int)) s) (mG fun k=> ?_) ?_)))))))
    · unfold jP.f pT
      have hz:(strOfNums [rd hs (i:Int)%256,FW (s.extract 0 16)%256]++s.extract 0 22).size=24:=by rw [ByteArray.size_append,fG,h22];rfl
      rw [if_pos (by omega),if_pos (by omega)]
    · rw [fI (x:=(i:Int)-1) (by omega) (by omega)]
      exact ih
theorem Lu (ks hs:List Int) (b:ByteArray) (hn:ks.length≤4) (hl:hs.length=ks.length) (hk:∀x∈ks,0≤x∧x≤65535) (hb:b.size≤15):Ev (fun k=>dy.f k ks hs b) (vD ks hs b):=by
  unfold dy.f vD
  have z1:(b++(⟨#[128]⟩:ByteArray)).size=b.size+1:=by rw [ByteArray.size_append];rfl
  have hr:∀(n:Nat) (k:Nat),n≤15→strings_Repeat.f k (⟨#[0]⟩:ByteArray) (n:Int)=some (strOfNums (List.replicate n 0)):=by
    intro n k hn
    unfold strings_Repeat.f
    have h1:(⟨#[0]⟩:ByteArray).size*((n:Int)).toNat≤140737488355328:=by show 1*_≤_;omega
    rw [if_pos (by omega),if_pos h1,if_pos (by omega)]
    show some (⟨(Lib.repeatL [0] ((n:Int)).toNat).toArray⟩:ByteArray)=_
    rw [Int.toNat_natCast,Lj]
  refine bI (a:=(b++(⟨#[128]⟩:ByteArray))++strOfNums (List.replicate (15-b.size) 0)) ?_ (bI (a:=strOfNums (List.replicate 8 0)) (mG fun k=>hr 8 k (by omega)) ?_)
  · unfold kZ.f
    refine ay (by omega) (bI (a:=strOfNums (List.replicate (15-b.size) 0)) (mG fun k=> ?_) (ay (by rw [z1,fG,List.length_replicate];omega) (bY rfl)))
    rw [show (15:Int)-(b.size:Int)=((15-b.size:Nat):Int) by omega]
    exact hr _ k (by omega)
  · refine ay (by rw [ByteArray.size_append,z1,fG,fG,List.length_replicate,List.length_replicate];omega) ?_
    rw [fI (x:=(ks.length:Int)-1) (by omega) (by omega)]
    exact DP ks hs hn hl hk ks.length _ (Nat.le_refl _) (nP b hb)
theorem Lt (ks hs:List Int) (b:ByteArray) (h1:1≤ks.length) (hn:ks.length≤4) (hl:hs.length=ks.length) (hk:∀x∈ks,0≤x∧x≤65535) (hh:∀x∈hs,1≤x∧x≤250) (hb:b.size≤15):Ev (fun k=>aG.f k ks hs b) (vD ks hs b,true):=by
  unfold aG.f vD
  have z1:(b++(⟨#[128]⟩:ByteArray)).size=b.size+1:=by rw [ByteArray.size_append];rfl
  have a1:ku 1 4 (ks.length:Int)=true:=fD.2 ⟨by omega,by omega⟩
  have a2:ks.all (ku 0 65535)=true:=List.all_eq_true.2 fun x hx=>fD.2 (hk x hx)
  have a3:hs.all (ku 1 250)=true:=List.all_eq_true.2 fun x hx=>fD.2 (hh x hx)
  have a4:gR.f b=some true:=by unfold gR.f;rw [decide_eq_true (by omega)]
  refine jl (by rw [pq,a1]) (ay rfl (bI (by have:=AR ks 0 65535 (by omega);rw [a2] at this;exact this) (ay rfl (ay (by omega) (bI (by have:=AR hs 1 250 (by omega);rw [a3] at this;exact this) (ay rfl (jl a4 ?_)))))))
  have hp:fR.f b=some ((b++(⟨#[128]⟩:ByteArray))++strOfNums (List.replicate (15-b.size) 0)):=by
    unfold fR.f
    rw [fI (x:=15-(b.size:Int)) (by omega) (by omega),show (15:Int)-(b.size:Int)=((15-b.size:Nat):Int) by omega,Int.toNat_natCast]
    rw [if_pos (by omega),if_pos (by omega),if_pos (by omega)]
    show (if (b++(⟨#[128]⟩:ByteArray)).size+(strOfNums (List.replicate (15-b.size) 0)).size≤9223372036854775807 then _ else none)=_
    rw [if_pos (by rw [z1,fG,List.length_replicate];omega)]
  refine aQ (fun k=>by rw [aG.j0]) ?_
  refine bG (by decide) ?_
  refine jl hp ?_
  refine ay (by decide) ?_
  refine jl rfl ?_
  refine ay (by rw [ByteArray.size_append,z1,fG,fG,List.length_replicate,List.length_replicate];omega) ?_
  rw [fI (x:=(ks.length:Int)-1) (by omega) (by omega)]
  exact DO ks hs hn hl hk ks.length _ (Nat.le_refl _) (nP b hb)
def oM (m:Nat) (u:Int):List Int:=(List.replicate m 1).set (m-1) (u+2)
theorem l7 (m:Nat) (u:Int):(oM m u).length=m:=by unfold oM;rw [List.length_set,List.length_replicate]
theorem tK (m:Nat) (u:Int) (hu:0≤u∧u≤3):∀x∈oM m u,1≤x∧x≤250:=by
  intro x hx
  unfold oM at hx
  rcases List.mem_or_eq_of_mem_set hx with h|h
  · have:=(List.mem_replicate.1 h).2
    omega
  · omega
noncomputable def o9 (n:Nt) (u:Int) (t:ByteArray):ByteArray:=vD n.ks (oM n.ks.length u) (strOfNums [n.sd+1]++t)
noncomputable def p7 (n:Nt) (u:Int) (t:ByteArray):Nt×Bool:=if (0≤u∧u≤3)∧t.size≤14∧¬n.sd=60 then (kz ⟨n.ks,n.ps,n.ss,n.ib,n.sd+1⟩ 0 (o9 n u t),true) else (n,false)
theorem C4 (n:Nt) (u:Int) (t:ByteArray) (ht:t.size≤14):(o9 n u t).size=24:=C5 _ _ _ _ (nP _ (by rw [ByteArray.size_append,fG];show 1+t.size≤15;omega))
theorem Cs {n:Nt} (g:GN n) (h:¬n.sd=60):GN ⟨n.ks,n.ps,n.ss,n.ib,n.sd+1⟩:=⟨g.k1,g.k4,g.kr,g.pl,g.sl,g.il,by have:=g.sd;show 0≤n.sd+1∧n.sd+1≤60;omega,g.po,g.so,g.sub,g.bx⟩
theorem NQ {n:Nt} (g:GN n) (u:Int) (t:ByteArray):GN (p7 n u t).1:=by
  unfold p7
  split
  · rename_i c
    exact Ct (Cs g c.2.2) (by have:=g.k1;exact this) (C4 n u t c.2.1)
  · exact g
theorem Hg (m:Nat) (u:Int) (h1:1≤m) (h4:m≤4) (hu:0≤u∧u≤3):wrap64 (((List.replicate m (1:Int)).length:Int)-1)=((m-1:Nat):Int)∧(List.replicate m (1:Int)).set (wrap64 (((List.replicate m (1:Int)).length:Int)-1)).toNat (wrap64 (u+2))=oM m u:=by
  have e:wrap64 (((List.replicate m (1:Int)).length:Int)-1)=((m-1:Nat):Int):=by rw [List.length_replicate,fI (by omega) (by omega)];omega
  rw [e,Int.toNat_natCast,fI (x:=u+2) (by omega) (by omega)]
  exact ⟨rfl,rfl⟩
theorem SL {n:Nt} (g:GN n) (u:Int) (t:ByteArray):Ev (fun k=>gp.f k n u t) (p7 n u t):=by
  have k1:=g.k1
  have k4:=g.k4
  have gs:=g.sd
  unfold gp.f p7
  refine jl (pq _ _ _) ?_
  by_cases hu:0≤u∧u≤3
  · refine bG (by rw [fD.2 hu];decide) ?_
    by_cases h2:t.size≤14
    · refine bG (by omega) ?_
      by_cases h3:n.sd=60
      · rw [if_neg (fun h=>h.2.2 h3)]
        exact ay h3 (bY rfl)
      · rw [if_pos ⟨hu,h2,h3⟩]
        refine bG h3 (ay (by omega) ?_)
        obtain ⟨q1,q2⟩:=Hg n.ks.length u k1 k4 hu
        unfold gp.g
        have hsd:wrap64 (n.sd+1)=n.sd+1:=fI (by omega) (by omega)
        rw [q2,q1,hsd,show (n.sd+1)%256=n.sd+1 by omega]
        have gs2:=Cs g h3
        exact ay ⟨by omega,by rw [List.length_replicate];omega⟩ (bI (Lt n.ks (oM n.ks.length u) _ k1 k4 (l7 _ _) g.kr (tK _ _ hu) (by rw [ByteArray.size_append,fG];show 1+t.size≤15;omega)) (ay rfl (bI (sj gs2 (i:=0) (o9 n u t) (by show 0<n.ks.length;omega)) (bY rfl))))
    · rw [if_neg (fun h=>h2 h.2.1)]
      exact ay (by omega) (bY rfl)
  · rw [if_neg (fun h=>hu h.1)]
    refine ay ?_ (bY rfl)
    rw [Bool.eq_false_iff]
    intro h
    exact hu (fD.1 h)
theorem SM {n:Nt} (g:GN n) (u:Int) (t:ByteArray):Ev (fun k=>dG.f k n u t) (p7 n u t):=by
  have k1:=g.k1
  have k4:=g.k4
  have gs:=g.sd
  unfold dG.f p7
  refine jl (jF _ _ _) ?_
  by_cases hu:0≤u∧u≤3
  · refine bG (by rw [fD.2 hu];decide) ?_
    by_cases h2:t.size≤14
    · refine bG (by omega) ?_
      by_cases h3:n.sd=60
      · rw [if_neg (fun h=>h.2.2 h3)]
        exact ay h3 (bY rfl)
      · rw [if_pos ⟨hu,h2,h3⟩]
        have hr:ff.f [1] (n.ks.length:Int)=some (List.replicate n.ks.length 1):=by
          unfold ff.f
          rw [if_pos (by omega),if_pos (by omega),if_pos (by rfl),adh _ k1 (by omega)]
          simp [rd]
        refine bG h3 (jl hr ?_)
        obtain ⟨q1,q2⟩:=Hg n.ks.length u k1 k4 hu
        unfold dG.g
        have hsd:wrap64 (n.sd+1)=n.sd+1:=fI (by omega) (by omega)
        rw [q2,q1,hsd,show (n.sd+1)%256=n.sd+1 by omega]
        have gs2:=Cs g h3
        exact ay ⟨by omega,by rw [List.length_replicate];omega⟩ (bI (Lu n.ks (oM n.ks.length u) _ k4 (l7 _ _) g.kr (by rw [ByteArray.size_append,fG];show 1+t.size≤15;omega)) (bI (sk gs2 (i:=0) (o9 n u t) (by show 0<n.ks.length;omega)) (bY rfl)))
    · rw [if_neg (fun h=>h2 h.2.1)]
      exact ay (by omega) (bY rfl)
  · rw [if_neg (fun h=>hu h.1)]
    refine ay ?_ (bY rfl)
    rw [Bool.eq_false_iff]
    intro h
    exact hu (fD.1 h)
noncomputable def iE (n:Nt) (a b:Int) (x:ByteArray):Nt×Bool:=
  if a=1 then p7 n b x else if x=(⟨#[]⟩:ByteArray) then
    (if a = 2 then (if 0 ≤ b ∧ b < (n.ks.length : Int) then (qj n b.toNat, true) else (n, false))
     else if a=3 then (if 0≤b∧b<((n.ss.getD 0 []).length:Int) then (kz n 0 (aV ByteArray.empty (n.ss.getD 0 []) b),true) else (n,false)) else (n,false))
  else (n,false)
theorem Ji {n:Nt} (g:GN n) {b:Int} (h0:0≤b) (h1:b<((n.ss.getD 0 []).length:Int)):(aV ByteArray.empty (n.ss.getD 0 []) b).size=24:=by
  obtain ⟨j,rfl⟩:=Int.eq_ofNat_of_zero_le h0
  have hj:j<(n.ss.getD 0 []).length:=by omega
  rw [show aV ByteArray.empty (n.ss.getD 0 []) (j:Int)=(n.ss.getD 0 [])[j] from dP _ j _ hj]
  exact (g.so 0).2.1 _ (List.getElem_mem hj)
theorem xg {n:Nt} (g:GN n) (a b:Int) (x:ByteArray):GN (iE n a b x).1:=by
  have k1:=g.k1
  unfold iE
  split
  · exact NQ g b x
  · split
    · split
      · split
        · rename_i h
          exact (xe g (by omega)).1
        · exact g
      · split
        · split
          · rename_i h
            exact Ct g (by omega) (Ji g h.1 h.2)
          · exact g
        · exact g
    · exact g
theorem OB {n:Nt} (g:GN n) (a b:Int) (x:ByteArray):Ev (fun k=>bP.f k n a b x) (iE n a b x):=by
  have k1:=g.k1
  have k4:=g.k4
  have sl:=g.sl
  unfold bP.f iE
  by_cases a1:a=1
  · rw [if_pos a1]
    exact ay a1 (SL g b x)
  rw [if_neg a1]
  refine bG a1 ?_
  by_cases e:x=(⟨#[]⟩:ByteArray)
  · rw [if_pos e]
    refine ay e ?_
    by_cases hb:b<0
    · have n1:¬(0≤b∧b<(n.ks.length:Int)):=fun h=>by omega
      have n2:¬(0≤b∧b<((n.ss.getD 0 []).length:Int)):=fun h=>by omega
      rw [if_neg n1,if_neg n2,ite_self,ite_self]
      exact ay hb (bY rfl)
    · refine bG hb ?_
      by_cases a2:a=2
      · rw [if_pos a2]
        refine ay a2 ?_
        by_cases hl:b<(n.ks.length:Int)
        · rw [if_pos ⟨by omega,hl⟩]
          obtain ⟨j,rfl⟩:=Int.eq_ofNat_of_zero_le (show 0≤b by omega)
          rw [Int.toNat_natCast]
          exact ay hl (bI (Od g (by omega)) (bY rfl))
        · rw [if_neg (fun h=>hl h.2)]
          exact bG hl (bY rfl)
      · rw [if_neg a2]
        refine bG a2 ?_
        by_cases a3:a=3
        · rw [if_pos a3]
          refine ay a3 (ay (by omega) ?_)
          by_cases hl:b<((n.ss.getD 0 []).length:Int)
          · rw [if_pos ⟨by omega,hl⟩]
            exact ay hl (bI (sj g (i:=0) _ (by omega)) (bY rfl))
          · rw [if_neg (fun h=>hl h.2)]
            exact bG hl (bY rfl)
        · rw [if_neg a3]
          exact bG a3 (bY rfl)
  · rw [if_neg e]
    exact bG e (bY rfl)
theorem OC {n:Nt} (g:GN n) (a b:Int) (x:ByteArray):Ev (fun k=>aW.f k n a b x) (iE n a b x):=by
  have k1:=g.k1
  have k4:=g.k4
  have sl:=g.sl
  have hs:=(g.so 0).1
  unfold aW.f iE
  by_cases a1:a=1
  · rw [if_pos a1]
    exact ay a1 (SM g b x)
  rw [if_neg a1]
  refine bG a1 ?_
  by_cases e:x=(⟨#[]⟩:ByteArray)
  · rw [if_pos e]
    refine ay e ?_
    by_cases a2:a=2
    · rw [if_pos a2]
      refine ay a2 (jl (jF _ _ _) ?_)
      rw [fI (x:=(n.ks.length:Int)-1) (by omega) (by omega)]
      by_cases hl:0≤b∧b<(n.ks.length:Int)
      · rw [if_pos hl]
        obtain ⟨j,rfl⟩:=Int.eq_ofNat_of_zero_le hl.1
        rw [Int.toNat_natCast]
        exact ay (fD.2 ⟨by omega,by omega⟩) (bI (Gz g (by omega)) (bY rfl))
      · rw [if_neg hl]
        exact bG (fun h=>hl (by have:=fD.1 h;omega)) (bY rfl)
    · rw [if_neg a2]
      refine bG a2 ?_
      by_cases a3:a=3
      · rw [if_pos a3]
        refine ay a3 (ay (by omega) (jl (jF _ _ _) ?_))
        rw [fI (x:=((n.ss.getD 0 []).length:Int)-1) (by omega) (by omega)]
        by_cases hl:0≤b∧b<((n.ss.getD 0 []).length:Int)
        · rw [if_pos hl]
          exact ay (fD.2 ⟨by omega,by omega⟩) (ay hl (bI (sk g (i:=0) _ (by omega)) (bY rfl)))
        · rw [if_neg hl]
          exact bG (fun h=>hl (by have:=fD.1 h;omega)) (bY rfl)
      · rw [if_neg a3]
        exact bG a3 (bY rfl)
  · rw [if_neg e]
    exact bG e (bY rfl)
theorem DW (xs:List Int) (lo up:Int) (hn:xs.length≤9223372036854775807):∀(d i:Nat),i+d=xs.length→Ev (fun k=>dz.l0 k lo up xs (xs.length:Int) (i:Int)) ((xs.drop i).all (ku lo up)):=by
  intro d
  induction d with
  | zero =>
    intro i hi
    refine aQ (fun k=>by rw [dz.l0]) ?_
    refine bG (by omega) (bY ?_)
    rw [List.drop_eq_nil_of_le (by omega)];rfl
  | succ d ih =>
    intro i hi
    have eO:i<xs.length:=by omega
    refine aQ (fun k=>by rw [dz.l0]) ?_
    refine ay (by omega) (ay (by omega) (ay (by omega) ?_))
    rw [o7 xs i eO,List.drop_eq_getElem_cons eO,List.all_cons]
    refine jl (jF _ _ _) ?_
    cases h:ku lo up xs[i] with
    | true =>
      refine ay rfl ?_
      rw [fI (by omega) (by omega)]
      simpa using ih (i+1) (by omega)
    |false=>exact bG (by simp) (bY (by simp))
theorem DX (xs:List Int) (lo up:Int) (hn:xs.length≤9223372036854775807):Ev (fun k=>dz.f k xs lo up) (xs.all (ku lo up)):=
  DW xs lo up hn xs.length 0 (by omega)
theorem LK (K:List Int) (h:K.length≤8):Ev (fun k=>eR.f k K) (K.all (ku 0 65535)):=by
  unfold eR.f
  exact ay (by omega) (bI (DX K 0 65535 (by omega)) (bY rfl))
def zE (K:List Int):List Int×List (List ByteArray)×List (List ByteArray)×List (List ByteArray)×Int×Bool:=if (ku 1 4 (K.length:Int)&&K.all (ku 0 65535))=true then (K,List.replicate K.length [],List.replicate K.length [],List.replicate 4 [],0,true) else ([],[],[],[],0,false)
theorem sq (n:Nat) (hn:n≤1048576):dw (List.replicate n []):=⟨by rw [List.length_replicate];exact hn,fun p hp=>by rw [(List.mem_replicate.1 hp).2];simp⟩
theorem OW:Jp []=true:=rfl
theorem zy (n:Nat):∀(m i:Nat),allI (lZ (List.replicate n [])) i (List.replicate m [])=true
  |0,_=>rfl
  | m + 1, i => by
    have e:(List.replicate n ([]:List ByteArray)).getD i []=[]:=by
      rw [List.getD_eq_getElem?_getD,List.getElem?_replicate]
      split<;>rfl
    rw [List.replicate_succ,allI,zy n m (i+1),lZ,e,OW]
    rfl
theorem zR (K:List Int):kM K (List.replicate K.length []) (List.replicate K.length []) (List.replicate 4 []) 0=(ku 1 4 (K.length:Int)&&K.all (ku 0 65535)):=by
  unfold kM
  rw [zy,List.length_replicate,List.length_replicate,show ku 0 60 0=true from by decide,show (List.replicate 4 ([]:List ByteArray)).all sO=true from rfl]
  simp
theorem Ld (K:List Int) (hn:K.length≤1048576):Ev (fun k=>dV.f k K) (zE K):=by
  unfold dV.f zE
  refine ay hn (bI (Lc K _ _ _ 0 hn (sq _ hn) (sq _ hn) (sq 4 (by decide))) ?_)
  rw [zR]
  cases (ku 1 4 (K.length:Int)&&K.all (ku 0 65535)) with
  |true=>exact bY rfl
  |false=>exact bY rfl
theorem LX (K:List Int) (hn:K.length≤1048576):Ev (fun k=>dW.f k K) (zE K):=by
  unfold dW.f zE
  refine jl (jF _ _ _) ?_
  cases h:ku 1 4 (K.length:Int) with
  |false=>exact bG (by decide) (bY rfl)
  | true =>
    have h':=fD.1 h
    refine ay rfl (bI (LK K (by omega)) ?_)
    cases K.all (ku 0 65535) with
    |false=>exact bG (by decide) (bY rfl)
    |true=>exact ay rfl (ay hn (bY rfl))
noncomputable def fZ:List iK→Nt→List Bool→Nt×List Bool
  |[],n,d=>(n,d)
  |s::r,n,d=>fZ r (iE n s.f0 s.f1 s.f2).1 (d++[(iE n s.f0 s.f1 s.f2).2])
theorem Oz {n:Nt} {a b:Int} {x:ByteArray} (h:(iE n a b x).2=false):(iE n a b x).1=n:=by
  have hs:∀(u:Int) (t:ByteArray),(p7 n u t).2=false→(p7 n u t).1=n:=by
    intro u t h
    unfold p7 at h⊢
    split at h
    · cases h
    · rename_i c
      rw [if_neg c]
  unfold iE at h⊢
  split at h
  · rename_i c
    rw [if_pos c]
    exact hs b x h
  · rename_i c
    rw [if_neg c]
    split at h
    · rename_i c
      rw [if_pos c]
      split at h
      · rename_i c
        rw [if_pos c]
        split at h
        · cases h
        · rename_i c
          rw [if_neg c]
      · rename_i c
        rw [if_neg c]
        split at h
        · rename_i c
          rw [if_pos c]
          split at h
          · cases h
          · rename_i c
            rw [if_neg c]
        · rename_i c
          rw [if_neg c]
    · rename_i c
      rw [if_neg c]
theorem uy:∀(l:List iK) (n:Nt) (d:List Bool),GN n→GN (fZ l n d).1∧(fZ l n d).2.length=d.length+l.length
  |[],n,d,g=>⟨g,rfl⟩
  | s :: r, n, d, g => by
    obtain ⟨h1,h2⟩:=uy r (iE n s.f0 s.f1 s.f2).1 (d++[(iE n s.f0 s.f1 s.f2).2]) (xg g _ _ _)
    refine ⟨h1,?_⟩
    simp only [fZ]
    rw [h2,List.length_append,List.length_cons]
    simp only [List.length_cons,List.length_nil]
    omega
theorem GG:∀(l:List iK) (n:Nt) (d:List Bool),GN n→Ev (fun k=>cC.l0 k l n d) (fZ l n d)
  | [], n, d, g => by
    simp only [cC.l0]
    exact bY rfl
  | s :: r, n, d, g => by
    simp only [cC.l0]
    obtain ⟨s1,s2,s3,s4⟩:=oU g
    have ih:=GG r (iE n s.f0 s.f1 s.f2).1 (d++[(iE n s.f0 s.f1 s.f2).2]) (xg g _ _ _)
    refine bI (Ls n s1 s2 s3 s4) (bI (OB g s.f0 s.f1 s.f2) ?_)
    have hn:=Oz (n:=n) (a:=s.f0) (b:=s.f1) (x:=s.f2)
    simp only [fZ]
    generalize iE n s.f0 s.f1 s.f2=p at*
    obtain ⟨m,q⟩:=p
    cases q with
    | false =>
      have e:m=n:=hn rfl
      subst e
      exact ih
    |true=>exact ih
theorem GJ:∀(l:List iK) (n:Nt) (d:List Bool),GN n→Ev (fun k=>eH.l0 k l n d) (fZ l n d)
  | [], n, d, g => by
    simp only [eH.l0]
    exact bY rfl
  | s :: r, n, d, g => by
    simp only [eH.l0]
    exact bI (OC g s.f0 s.f1 s.f2) (GJ r (iE n s.f0 s.f1 s.f2).1 (d++[(iE n s.f0 s.f1 s.f2).2]) (xg g _ _ _))
def fT (K:List Int):Nt:=⟨K,List.replicate K.length [],List.replicate K.length [],List.replicate 4 [],0⟩
theorem qQ {K:List Int} (h1:ku 1 4 (K.length:Int)=true) (h2:K.all (ku 0 65535)=true):GN (fT K):=by
  apply Dq
  show kM K (List.replicate K.length []) (List.replicate K.length []) (List.replicate 4 []) 0=true
  rw [zR,h1,h2]
  rfl
noncomputable def mJ (K:List Int) (l:List iK):Nt×List Bool×Bool:=if (ku 1 4 (K.length:Int)&&K.all (ku 0 65535))=true∧l.length≤60 then ((fZ l (fT K) []).1,(fZ l (fT K) []).2,true) else (⟨[],[],[],[],0⟩,[],false)
theorem GH (K:List Int) (l:List iK) (hK:K.length≤1048576):Ev (fun k=>cC.f k K l) (mJ K l):=by
  unfold cC.f mJ
  have e:=Ld K hK
  unfold zE at e
  by_cases hg:(ku 1 4 (K.length:Int)&&K.all (ku 0 65535))=true
  · rw [if_pos hg] at e
    have My:=hg
    rw [Bool.and_eq_true] at My
    have g:=qQ My.1 My.2
    refine bI e (bG (by decide) ?_)
    by_cases hl:l.length≤60
    · rw [if_pos ⟨hg,hl⟩]
      obtain ⟨g2,_⟩:=uy l (fT K) [] g
      obtain ⟨s1,s2,s3,s4⟩:=oU g2
      exact bG (by omega) (bI (GG l (fT K) [] g) (bI (Ls _ s1 s2 s3 s4) (bY rfl)))
    · rw [if_neg (fun h=>hl h.2)]
      exact ay (by omega) (bY rfl)
  · rw [if_neg hg] at e
    rw [if_neg (fun h=>hg h.1)]
    exact bI e (ay rfl (bY rfl))
theorem ON (K:List Int) (l:List iK) (hK:K.length≤1048576):Ev (fun k=>eH.f k K l) (mJ K l):=by
  unfold eH.f mJ
  have e:=LX K hK
  unfold zE at e
  by_cases hg:(ku 1 4 (K.length:Int)&&K.all (ku 0 65535))=true
  · rw [if_pos hg] at e
    have My:=hg
    rw [Bool.and_eq_true] at My
    have g:=qQ My.1 My.2
    refine bI e (bG (by decide) ?_)
    by_cases hl:l.length≤60
    · rw [if_pos ⟨hg,hl⟩]
      exact bG (by omega) (bI (GJ l (fT K) [] g) (bY rfl))
    · rw [if_neg (fun h=>hl h.2)]
      exact ay (by omega) (bY rfl)
  · rw [if_neg hg] at e
    rw [if_neg (fun h=>hg h.1)]
    exact bI e (ay rfl (bY rfl))
theorem vA (K:List Int) (l:List iK):((mJ K l).1.ks.length≤1048576∧dw (mJ K l).1.ps∧dw (mJ K l).1.ss∧dw (mJ K l).1.ib)∧(mJ K l).2.1.length≤1048576:=by
  unfold mJ
  split
  · rename_i h
    have My:=h.1
    rw [Bool.and_eq_true] at My
    obtain ⟨g2,g3⟩:=uy l (fT K) [] (qQ My.1 My.2)
    refine ⟨oU g2,?_⟩
    show (fZ l (fT K) []).2.length≤1048576
    rw [g3]
    have:=h.2
    simp only [List.length_nil]
    omega
  · have h0:dw []:=⟨by simp,fun _ h=>by cases h⟩
    exact ⟨⟨by simp,h0,h0,h0⟩,by simp⟩
theorem LW (xs:List ByteArray) (hn:xs.length≤1048576):∀(d i:Nat),i+d=xs.length→Ev (fun k=>cN.l0 k xs xs (xs.length:Int) (i:Int)) (allI (zc xs) i (xs.drop i)&&decide ((xs.length:Int)≤100)):=by
  intro d
  induction d with
  | zero =>
    intro i hi
    refine aQ (fun k=>by rw [cN.l0]) (bG (by omega) (bY ?_))
    rw [List.drop_eq_nil_of_le (by omega)];rfl
  | succ d ih =>
    intro i hi
    have eO:i<xs.length:=by omega
    refine aQ (fun k=>by rw [cN.l0]) (ay (by omega) (ay (by omega) (ay (by omega) ?_)))
    rw [show aV ByteArray.empty xs (i:Int)=xs[i] from dP xs i _ eO,List.drop_eq_getElem_cons eO,fI (x:=(i:Int)+1) (by omega) (by omega)]
    simp only [allI]
    by_cases h:(xs[i].size:Int)=24
    · refine ay h ?_
      by_cases h0:(i:Int)>0
      · refine ay h0 ?_
        rw [fI (x:=(i:Int)-1) (by omega) (by omega)]
        refine ay (by omega) (ay (by omega) ?_)
        have e:aV ByteArray.empty xs ((i:Int)-1)=xs.getD (i-1) ByteArray.empty:=by
          unfold aV
          rw [show ((i:Int)-1).toNat=i-1 by omega]
        rw [e]
        have we:¬i=0:=by omega
        cases hb:Op.bytesLess (xs.getD (i-1) ByteArray.empty).toList xs[i].toList with
        | true =>
          refine ay rfl ?_
          have hp:zc xs i xs[i]=true:=by unfold zc;rw [hb];simp [h]
          rw [hp,Bool.true_and]
          exact ih (i+1) (by omega)
        | false =>
          have hp:zc xs i xs[i]=false:=by unfold zc;rw [hb];simp [we]
          exact bG (by simp) (bY (by rw [hp];rfl))
      · refine bG h0 ?_
        have we:i=0:=by omega
        have hp:zc xs i xs[i]=true:=by unfold zc;rw [decide_eq_true h,decide_eq_true we];rfl
        rw [hp,Bool.true_and]
        exact ih (i+1) (by omega)
    · have hp:zc xs i xs[i]=false:=by unfold zc;simp [h]
      exact bG h (bY (by rw [hp];rfl))
theorem Dh (xs:List ByteArray) (hn:xs.length≤1048576):Ev (fun k=>cN.f k xs) (Jp xs):=LW xs hn xs.length 0 (by omega)
theorem MA (x:ByteArray):hJ.f x=some (!ku 1 15 (x.size:Int)):=by
  unfold hJ.f
  rw [jF];rfl
theorem XU (xs:List ByteArray) (hn:xs.length≤1048576):∀(d i:Nat),i+d=xs.length→∃r:Int,Ev (fun k=>bp.l0 k xs (xs.length:Int) (i:Int)) r∧(r≥0↔(xs.drop i).all (fun x=>ku 1 15 (x.size:Int))=false):=by
  intro d
  induction d with
  | zero =>
    intro i hi
    refine ⟨-1,aQ (fun k=>by rw [bp.l0]) (bG (by omega) (bY rfl)),?_⟩
    rw [List.drop_eq_nil_of_le (by omega)];simp
  | succ d ih =>
    intro i hi
    have eO:i<xs.length:=by omega
    obtain ⟨r,h1,h3⟩:=ih (i+1) (by omega)
    rw [List.drop_eq_getElem_cons eO,List.all_cons]
    cases h:ku 1 15 (xs[i].size:Int) with
    | false =>
      refine ⟨(i:Int),aQ (fun k=>by rw [bp.l0]) (ay (by omega) (ay (by omega) (ay (by omega) ?_))),by simp⟩
      rw [show aV ByteArray.empty xs (i:Int)=xs[i] from dP xs i _ eO]
      exact jl (MA _) (ay (by rw [h];rfl) (bY rfl))
    | true =>
      refine ⟨r,aQ (fun k=>by rw [bp.l0]) (ay (by omega) (ay (by omega) (ay (by omega) ?_))),by rw [Bool.true_and];exact h3⟩
      rw [show aV ByteArray.empty xs (i:Int)=xs[i] from dP xs i _ eO]
      refine jl (MA _) (bG (by rw [h];decide) ?_)
      rw [fI (by omega) (by omega)]
      exact h1
theorem YZ (xs:List ByteArray) (hn:xs.length≤1048576):Ev (fun k=>eg.f k xs) (!xs.all (fun x=>ku 1 15 (x.size:Int))):=by
  obtain ⟨r,h1,h3⟩:=XU xs hn xs.length 0 (by omega)
  refine bI (f:=fun _ t=>some (decide (t≥0))) h1 (bY ?_)
  rw [List.drop_zero] at h3
  cases e:xs.all (fun x=>ku 1 15 (x.size:Int)) with
  |true=>rw [e] at h3;simpa using h3
  |false=>rw [e] at h3;simpa using h3
theorem Jy (bs:List (List ByteArray)) (hb:dw bs):∀(d i:Nat),i+d=bs.length→Ev (fun k=>aq.l2 k bs (bs.length:Int) (i:Int)) ((bs.drop i).all sO):=by
  have hn:=hb.1
  intro d
  induction d with
  | zero =>
    intro i hi
    refine aQ (fun k=>by rw [aq.l2]) (bG (by omega) (bY ?_))
    rw [List.drop_eq_nil_of_le (by omega)];rfl
  | succ d ih =>
    intro i hi
    have eO:i<bs.length:=by omega
    refine aQ (fun k=>by rw [aq.l2]) (ay (by omega) (ay (by omega) (ay (by omega) ?_)))
    rw [show bK bs (i:Int)=bs[i] from dP bs i _ eO,List.drop_eq_getElem_cons eO,List.all_cons,fI (by omega) (by omega)]
    have hx:=hb.2 _ (List.getElem_mem eO)
    generalize bs[i]=b at hx
    unfold sO
    by_cases h:(b.length:Int)>60
    · exact ay h (bY (by
     have:¬b.length≤60:=by omega
     simp [this]))
    · refine bG h (bI (YZ b hx) ?_)
      have h':b.length≤60:=by omega
      cases hh:b.all (fun x=>ku 1 15 (x.size:Int)) with
      |false=>exact ay rfl (bY (by simp))
      | true =>
        refine bG (by simp) ?_
        rw [decide_eq_true h',Bool.true_and,Bool.true_and]
        exact ih (i+1) (by omega)
theorem Jz (K:List Int) (ins outs boxes:List (List ByteArray)) (t:Int) (i:Nat) (hi:i<ins.length) (hn:ins.length≤1048576) (ho:i<outs.length) (PA:(outs.getD i []).length≤1048576) (x:List ByteArray) (hx:x.length≤1048576) (R:Bool) (H:Ev (fun k=>aq.l0 k ins (ins.length:Int) (wrap64 ((i:Int)+1)) K ins outs boxes t) R):
    ∀(d j:Nat),j+d=x.length→Ev (fun k=>aq.l1 k (i:Int) ins (ins.length:Int) (i:Int) x (x.length:Int) (j:Int) K ins outs boxes t) ((x.drop j).all (ox (outs.getD i []))&&R):=by
  intro d
  induction d with
  | zero =>
    intro j hj
    refine aQ (fun k=>by rw [aq.l1]) (bG (by omega) ?_)
    rw [List.drop_eq_nil_of_le (by omega)]
    exact H
  | succ d ih =>
    intro j hj
    have eO:j<x.length:=by omega
    refine aQ (fun k=>by rw [aq.l1]) (ay (by omega) (ay (by omega) (ay (by omega) (ay (by omega) (ay (by omega) ?_)))))
    rw [show aV ByteArray.empty x (j:Int)=x[j] from dP x j _ eO,List.drop_eq_getElem_cons eO,List.all_cons,fI (x:=(j:Int)+1) (by omega) (by omega),show bK outs (i:Int)=outs.getD i [] from by unfold bK;rw [Int.toNat_natCast]]
    refine bI (zO _ _ PA) ?_
    cases ox (outs.getD i []) x[j] with
    |true=>exact ay rfl (by simpa using ih (j+1) (by omega))
    |false=>exact bG (by simp) (bY (by simp))
theorem JA (K:List Int) (ins outs boxes:List (List ByteArray)) (t:Int) (hi:dw ins) (ho:dw outs) (hb:dw boxes) (hl:outs.length=ins.length):∀(d i:Nat),i+d=ins.length→Ev (fun k=>aq.l0 k ins (ins.length:Int) (i:Int) K ins outs boxes t) (allI (lZ outs) i (ins.drop i)&&boxes.all sO):=by
  have hn:=hi.1
  intro d
  induction d with
  | zero =>
    intro i hd
    refine aQ (fun k=>by rw [aq.l0]) (bG (by omega) ?_)
    rw [List.drop_eq_nil_of_le (by omega)]
    exact Jy boxes hb boxes.length 0 (by omega)
  | succ d ih =>
    intro i hd
    have eO:i<ins.length:=by omega
    refine aQ (fun k=>by rw [aq.l0]) (ay (by omega) (ay (by omega) (ay (by omega) ?_)))
    rw [show bK ins (i:Int)=ins[i] from dP ins i _ eO,show bK outs (i:Int)=outs.getD i [] from by unfold bK;rw [Int.toNat_natCast],List.drop_eq_getElem_cons eO]
    have hx:=hi.2 _ (List.getElem_mem eO)
    generalize ins[i]=x at hx
    have PA:(outs.getD i []).length≤1048576:=by
      rw [List.getD_eq_getElem?_getD,List.getElem?_eq_getElem (by omega)]
      exact ho.2 _ (List.getElem_mem _)
    have J:∀b,Ev (fun k=>aq.j2 k (i:Int) x ins (ins.length:Int) (i:Int) b K ins outs boxes t) (!b&&(x.all (ox (outs.getD i []))&&(allI (lZ outs) (i+1) (ins.drop (i+1))&&boxes.all sO))):=by
      intro b
      refine aQ (fun k=>by rw [aq.j2]) ?_
      cases b with
      |true=>exact ay rfl (bY rfl)
      | false =>
        refine bG (by simp) ?_
        have:=Jz K ins outs boxes t i eO hn (by omega) PA x hx _ (by rw [fI (by omega) (by omega)];exact ih (i+1) (by omega)) x.length 0 (by omega)
        exact this
    simp only [allI,lZ]
    refine bI (Dh x hx) ?_
    cases h1:Jp x with
    |false=>refine bG (by simp) ?_;simpa using J true
    | true =>
      refine ay rfl (ay (by omega) (bI (Dh _ PA) ?_))
      have:=J (!Jp (outs.getD i []))
      rw [Bool.not_not] at this
      rw [Bool.true_and,Bool.and_assoc,Bool.and_assoc]
      exact this
theorem JB (K:List Int) (ins outs boxes:List (List ByteArray)) (t:Int) (hi:dw ins) (ho:dw outs) (hb:dw boxes) (b:Bool) (hl:b=false→outs.length=ins.length):Ev (fun k=>aq.j0 k b K ins outs boxes t) (!b&&(allI (lZ outs) 0 ins&&boxes.all sO)):=by
  refine aQ (fun k=>by rw [aq.j0]) ?_
  cases b with
  |true=>exact ay rfl (bY rfl)
  |false=>exact bG (by simp) (JA K ins outs boxes t hi ho hb (hl rfl) ins.length 0 (by omega))
theorem qv (K:List Int) (ins outs boxes:List (List ByteArray)) (t:Int) (hK:K.length≤1048576) (hi:dw ins) (ho:dw outs) (hb:dw boxes):Ev (fun k=>aq.f k K ins outs boxes t) (kM K ins outs boxes t):=by
  have J:=JB K ins outs boxes t hi ho hb
  unfold aq.f kM
  refine jl (jF _ _ _) ?_
  cases h1:ku 1 4 (K.length:Int) with
  |false=>refine bG (by simp) ?_;simpa using J true (by simp)
  | true =>
    have h1':=fD.1 h1
    refine ay rfl (bI (LK K (by omega)) ?_)
    cases h2:K.all (ku 0 65535) with
    |false=>refine bG (by simp) ?_;simpa using J true (by simp)
    | true =>
      refine ay rfl ?_
      by_cases h3:(ins.length:Int)=(K.length:Int)
      · refine ay h3 ?_
        by_cases h4:(outs.length:Int)=(K.length:Int)
        · refine ay h4 ?_
          by_cases h5:(boxes.length:Int)=4
          · refine ay h5 (jl (jF _ _ _) ?_)
            have:=J (!ku 0 60 t) (fun _=>by omega)
            simpa [h3,h4,h5] using this
          · refine bG h5 ?_;simpa [h5] using J true (by simp)
        · refine bG h4 ?_;simpa [h4] using J true (by simp)
      · refine bG h3 ?_;simpa [h3] using J true (by simp)
theorem MM (l:List ByteArray) (hl:l.length≤1048576):bq.f l=some l:=by
  unfold bq.f
  show (if ([]:List ByteArray).length+l.length<_ then some ([]++l) else none)=_
  rw [if_pos (by simp;omega),List.nil_append]
theorem MN (l:List Int) (hl:l.length≤1048576):cP.f l=some l:=by
  unfold cP.f
  show (if ([]:List Int).length+l.length<_ then some ([]++l) else none)=_
  rw [if_pos (by simp;omega),List.nil_append]
theorem Tj (l:List (List ByteArray)) (hl:dw l):∀(d i:Nat) (acc:List (List ByteArray)),i+d=l.length→acc.length≤i→Ev (fun k=>cS.l0 k acc l (l.length:Int) (i:Int)) (acc++l.drop i):=by
  obtain ⟨l1,l2⟩:=hl
  intro d
  induction d with
  | zero =>
    intro i acc hi ha
    rw [List.drop_eq_nil_of_le (by omega),List.append_nil]
    exact aQ (fun k=>by rw [cS.l0]) (bG (by omega) (bY rfl))
  | succ d ih =>
    intro i acc hi ha
    have eO:i<l.length:=by omega
    have hz:=l2 _ (List.getElem_mem eO)
    have e:bK l (i:Int)=l[i]:=dP l i _ eO
    have:=ih (i+1) (acc++[l[i]]) (by omega) (by simp;omega)
    rw [List.append_assoc,List.singleton_append,←List.drop_eq_getElem_cons eO] at this
    refine aQ (fun k=>by rw [cS.l0]) (ay (by omega) (ay (by omega) (ay (by omega) ?_)))
    rw [e,fI (x:=(i:Int)+1) (by omega) (by omega)]
    exact jl (MM _ hz) (ay (by omega) this)
theorem sG (l:List (List ByteArray)) (hl:dw l):Ev (fun k=>cS.f k l) l:=Tj l hl l.length 0 [] (by omega) (by simp)
theorem Tl (n:Nt) (h1:n.ks.length≤1048576) (h2:dw n.ps) (h3:dw n.ss) (h4:dw n.ib):Ev (fun k=>eI.f k n) n:=by
  unfold eI.f
  exact jl (MN _ h1) (bI (sG _ h2) (bI (sG _ h3) (bI (sG _ h4) (bY rfl))))
noncomputable def nQ:Nat→Nat→Nt→Nt
  |0,_,n=>n
  |d+1,j,n=>nQ d (j+1) (qj n j)
noncomputable def jK (n:Nt):Nt:=nQ n.ks.length 0 n
theorem sR:∀(d j:Nat) {n:Nt},GN n→j+d=n.ks.length→GN (nQ d j n)∧(nQ d j n).ks=n.ks∧(nQ d j n).sd=n.sd
  |0,_,n,g,_=>⟨g,rfl,rfl⟩
  | d + 1, j, n, g, h => by
    obtain ⟨h1,h2,h3⟩:=xe g (show j<n.ks.length by omega)
    obtain ⟨h4,h5,h6⟩:=sR d (j+1) h1 (by rw [h2];omega)
    exact ⟨h4,h5.trans h2,h6.trans h3⟩
theorem Af {n:Nt} (g:GN n):GN (jK n):=(sR n.ks.length 0 g (by omega)).1
theorem GC:∀(d j:Nat) {n:Nt},GN n→j+d=n.ks.length→Ev (fun k=>bT.l0 k d j n) (nQ d j n)
  | 0, _, n, g, _ => by
    simp only [bT.l0]
    exact bY rfl
  | d + 1, j, n, g, h => by
    obtain ⟨h1,h2,h3⟩:=xe g (show j<n.ks.length by omega)
    simp only [bT.l0]
    exact bI (Gz g (by omega)) (GC d (j+1) h1 (by rw [h2];omega))
def Sm:Nt:=⟨[],[],[],[],0⟩
open Classical in
noncomputable def Av (n:Nt):Nt×Bool:=if kM n.ks n.ps n.ss n.ib n.sd=true then (jK n,true) else (Sm,false)
theorem Jh (n:Nt) (h1:n.ks.length≤1048576) (h2:dw n.ps) (h3:dw n.ss) (h4:dw n.ib):Ev (fun k=>gY.f k n) (Av n):=by
  unfold gY.f Av
  refine bI (qv n.ks n.ps n.ss n.ib n.sd h1 h2 h3 h4) ?_
  by_cases hg:kM n.ks n.ps n.ss n.ib n.sd=true
  · rw [if_pos hg,hg]
    have g:=Dq hg
    refine bG (by decide) (bI (Tl n h1 h2 h3 h4) (bI (a:=jK n) ?_ (bY rfl)))
    unfold bT.f
    exact ay h1 (GC _ 0 g (by omega))
  · rw [if_neg hg]
    exact ay (by simpa using hg) (bY rfl)
theorem ZC (a b:Nat) (ha:a<256) (hb:b<256):Go.bits .xor .u8 (a:Int) (b:Int)=((a^^^b:Nat):Int):=by
  have hp:(256:Nat)=2^IntKind.u8.bits:=by decide
  have ha':a%2^IntKind.u8.bits=a:=Nat.mod_eq_of_lt (by omega)
  have xV:b%2^IntKind.u8.bits=b:=Nat.mod_eq_of_lt (by omega)
  simp only [Go.bits,BitVec.ofInt_natCast,BitVec.toNat_xor,BitVec.toNat_ofNat,ha',xV]
  have:=Nat.xor_lt_two_pow (n:=8) (show a<2^8 by omega) (show b<2^8 by omega)
  rw [IntKind.wrap_u8]
  omega
abbrev bl (s:ByteArray):List UInt8:=s.data.toList
theorem oy (s:ByteArray):(bl s).length=s.size:=Array.length_toList
theorem Cc {a b:ByteArray} (h:bl a=bl b):a=b:=ByteArray.ext (Array.toList_inj.1 h)
theorem u9 (l:List Int):bl (strOfNums l)=l.map fun n=>UInt8.ofNat n.toNat:=rfl
theorem sP (a b:ByteArray):bl (a++b)=bl a++bl b:=by simp [bl]
theorem qL (a:ByteArray) (i j:Nat):bl (a.extract i j)=((bl a).take j).drop i:=by
  simp only [bl,ByteArray.data_extract,Array.toList_extract,List.extract,List.drop_take]
theorem M3 (a b:ByteArray) (h:a.size≤b.size):bl (ot a b)=List.zipWith (· ^^^ ·) (bl a) (bl b):=by
  unfold ot
  rw [u9,List.map_map]
  refine List.ext_getElem (by simp [oy];omega) (fun j h1 h2=> ?_)
  have hj:j<a.size:=by simpa using h1
  have ha:j<(bl a).length:=by rw [oy];exact hj
  have hb:j<(bl b).length:=by rw [oy];omega
  rw [List.getElem_map,List.getElem_range,List.getElem_zipWith,Function.comp,uf a j ha,uf b j hb,ZC _ _ (UInt8.toNat_lt _) (UInt8.toNat_lt _),Int.toNat_natCast,←UInt8.toNat_xor,UInt8.ofNat_toNat]
def Up (n:Nat) (a b:List UInt8):Prop:=∀j,j<n→a[j]? =b[j]?
theorem KC (A B P:List UInt8) (n:Nat) (ha:A.length=24) (hb:B.length=24) (hp:P.length=24) (h:Up n B (List.zipWith (· ^^^ ·) A P)):Up n (List.zipWith (· ^^^ ·) B P) A:=by
  intro j hj
  have h1:=h j hj
  by_cases c:j<24
  · rw [List.getElem?_eq_getElem (by omega),List.getElem?_eq_getElem (by simp;omega),List.getElem_zipWith] at h1
    rw [List.getElem?_eq_getElem (by simp;omega),List.getElem?_eq_getElem (by omega),List.getElem_zipWith,Option.some.inj h1,UInt8.xor_assoc,UInt8.xor_self,UInt8.xor_zero]
  · rw [List.getElem?_eq_none (by simp;omega),List.getElem?_eq_none (by omega)]
theorem Gt {a b:List UInt8} {n:Nat} (h:Up n a b):a.take n=b.take n:=List.ext_getElem? (fun j=>by
  by_cases c:j<n
  · rw [List.getElem?_take_of_lt c,List.getElem?_take_of_lt c];exact h j c
  · rw [List.getElem?_eq_none (by simp;omega),List.getElem?_eq_none (by simp;omega)])
theorem Gu {a b:List UInt8} {n m:Nat} (h:Up n a b) (hm:m≤n):Up m a b:=fun j hj=>h j (by omega)
theorem Ob {a b:List UInt8} {n m:Nat} (h:Up n a b):Up (n-m) (a.drop m) (b.drop m):=fun j hj=>by
  rw [List.getElem?_drop,List.getElem?_drop];exact h _ (by omega)
theorem Sr {a b c:List UInt8} {n:Nat} (h:Up n a b) (hn:n≤a.length):Up n (a++c) b:=fun j hj=>by
  rw [List.getElem?_append_left (by omega)];exact h j hj
theorem Gw {h:Int} (h0:0≤h) (h1:h≤255):((UInt8.ofNat (h%256).toNat).toNat:Int)=h:=by
  obtain ⟨m,rfl⟩:=Int.eq_ofNat_of_zero_le h0
  rw [show ((m:Int)%256).toNat=m by omega,UInt8.toNat_ofNat']
  omega
theorem Cb {s:ByteArray} {j:Nat} {b:UInt8} (h:(bl s)[j]? =some b):bt s (j:Int)=(b.toNat:Int):=by
  obtain ⟨hj,e⟩:=List.getElem?_eq_some_iff.1 h
  rw [uf s j hj,e]
theorem xD (k h:Int) (s a:ByteArray) (n:Nat) (hk:0≤k∧k≤65535) (hh:1≤h∧h≤250) (hs:s.size=24) (ha:a.size=24) (hn:18≤n) (hn4:n≤24) (hu:Up n (bl a) (bl (pT k h s))):∃y,y.size=24∧nj k a=some (h,y,QG (s.extract 0 16))∧Up (n-2) (bl y) (bl s):=by
  have hP:=(xE k hk).1
  have hc:=Dz (s.extract 0 16) (by rw [ByteArray.size_extract];omega)
  have hM:(strOfNums [h%256,FW (s.extract 0 16)%256]++s.extract 0 22).size=24:=by rw [ByteArray.size_append,fG,ByteArray.size_extract,hs];rfl
  have eM:bl (strOfNums [h%256,FW (s.extract 0 16)%256]++s.extract 0 22)=UInt8.ofNat (h%256).toNat::UInt8.ofNat (FW (s.extract 0 16)%256).toNat::(bl s).take 22:=by
    rw [sP,u9,qL];rfl
  unfold pT at hu
  rw [M3 _ _ (by omega)] at hu
  have ht:(ot a (ou k)).size=24:=by rw [oA,ha]
  have U:=KC _ _ _ n (by rw [oy,hM]) (by rw [oy,ha]) (by rw [oy,hP]) hu
  rw [←M3 _ _ (by omega),eM] at U
  unfold nj
  generalize ot a (ou k)=t at ht U⊢
  have b0:bt t 0=h:=(Cb (U 0 (by omega))).trans (Gw (by omega) (by omega))
  have b1:bt t 1=FW (s.extract 0 16):=(Cb (U 1 (by omega))).trans (Gw (by omega) (by omega))
  have e18:t.extract 2 18=s.extract 0 16:=Cc (by
    rw [qL,qL,Gt (Gu U hn)]
    simp [List.take_take])
  have V:Up (n-2) (bl (t.extract 2 t.size++(⟨#[0,0]⟩:ByteArray))) (bl s):=by
    have hl:(bl t).length=24:=by rw [oy,ht]
    rw [sP,qL,ht,List.take_of_length_le (by omega)]
    refine Sr (fun j hj=> ?_) (by rw [List.length_drop];omega)
    rw [Ob (m:=2) U j hj,List.drop_succ_cons,List.drop_succ_cons,List.drop_zero,List.getElem?_take_of_lt (by omega)]
  have e16:(t.extract 2 t.size++(⟨#[0,0]⟩:ByteArray)).extract 0 16=s.extract 0 16:=Cc (by rw [qL,qL,Gt (Gu V (by omega))])
  refine ⟨t.extract 2 t.size++(⟨#[0,0]⟩:ByteArray),by rw [ByteArray.size_append,ByteArray.size_extract,ht];rfl,?_,V⟩
  dsimp only
  rw [b0,b1,e18,e16,if_pos ⟨hh.1,hh.2,rfl⟩]
theorem zW (r:List UInt8):∀m:Nat,(List.replicate m (0:UInt8)++r).dropWhile (· ==0)=r.dropWhile (· ==0)
  |0=>rfl
  |m+1=>by rw [List.replicate_succ,List.cons_append,List.dropWhile_cons_of_pos (by rfl)];exact zW r m
theorem IU (b:ByteArray) (hb:b.size≤15):QG ((ql b).extract 0 16)=b:=by
  have e:bl ((ql b).extract 0 16)=bl b++(128:UInt8)::List.replicate (15-b.size) 0:=by
    unfold ql
    rw [qL,sP,sP,sP,u9,u9,List.map_replicate,List.map_replicate,List.drop_zero,List.take_append_of_le_length (by simp [oy];show 16≤b.size+(1+(15-b.size));omega),List.take_of_length_le (by simp [oy];show b.size+(1+(15-b.size))≤16;omega),List.append_assoc]
    rfl
  apply Cc
  show (td (bl ((ql b).extract 0 16)).reverse).toArray.toList=bl b
  rw [e,List.reverse_append,List.reverse_cons,List.reverse_replicate,List.append_assoc]
  unfold td
  rw [zW]
  rw [List.cons_append,List.nil_append,List.dropWhile_cons_of_neg (by decide)]
  simp
noncomputable def Jx (ks hs:List Int) (b:ByteArray):Nat→ByteArray
  |0=>ql b
  |d+1=>pT (rd ks ((ks.length-(d+1):Nat):Int)) (rd hs ((ks.length-(d+1):Nat):Int)) (Jx ks hs b d)
theorem tv (ks hs:List Int) (b:ByteArray) (hb:b.size≤15):∀d,(Jx ks hs b d).size=24
  |0=>nP b hb
  |d+1=>pn _ _ _ (tv ks hs b hb d)
theorem LU (ks hs:List Int) (b:ByteArray):∀d,d≤ks.length→V1 ks hs (ks.length-d) (Jx ks hs b d)=vD ks hs b
  |0,_=>rfl
  | d + 1, h => by
    rw [←LU ks hs b d (by omega),show ks.length-d=(ks.length-(d+1))+1 by omega]
    rfl
noncomputable def xy (k:Int) (s:ByteArray):ByteArray:=match nj k s with
  |some (_,y,_)=>y
  |none=>s
noncomputable def arr (ks:List Int):Nat→ByteArray→ByteArray
  |0,s=>s
  |j+1,s=>xy (rd ks (j:Int)) (arr ks j s)
theorem GF {l:List Int} {a b:Int} (h:∀x∈l,a≤x∧x≤b) {j:Nat} (hj:j<l.length):a≤rd l (j:Int)∧rd l (j:Int)≤b:=by
  rw [show rd l (j:Int)=l[j] from dP _ j _ hj]
  exact h _ (List.getElem_mem hj)
theorem Vk (ks hs:List Int) (b:ByteArray) (h4:ks.length≤4) (hk:∀x∈ks,0≤x∧x≤65535) (hl:hs.length=ks.length) (hh:∀x∈hs,1≤x∧x≤250) (hb:b.size≤15):∀j,j<ks.length→
    (arr ks j (vD ks hs b)).size=24∧Up (24-2*j) (bl (arr ks j (vD ks hs b))) (bl (Jx ks hs b (ks.length-j)))∧nj (rd ks (j:Int)) (arr ks j (vD ks hs b))=some (rd hs (j:Int),arr ks (j+1) (vD ks hs b),QG ((Jx ks hs b (ks.length-(j+1))).extract 0 16))∧(arr ks (j+1) (vD ks hs b)).size=24∧Up (24-2*(j+1)) (bl (arr ks (j+1) (vD ks hs b))) (bl (Jx ks hs b (ks.length-(j+1)))):=by
  intro j
  induction j with
  | zero =>
    intro hj
    have e:=LU ks hs b ks.length (Nat.le_refl _)
    rw [Nat.sub_self] at e
    have e:Jx ks hs b ks.length=vD ks hs b:=e
    have oX:(arr ks 0 (vD ks hs b)).size=24:=by rw [←e];exact tv ks hs b hb _
    have u0:Up (24-2*0) (bl (arr ks 0 (vD ks hs b))) (bl (Jx ks hs b (ks.length-0))):=by
      show Up 24 (bl (arr ks 0 (vD ks hs b))) (bl (Jx ks hs b ks.length))
      rw [e];exact fun _ _=>rfl
    obtain ⟨y,y1,y2,y3⟩:=xD (rd ks ((0:Nat):Int)) (rd hs ((0:Nat):Int)) (Jx ks hs b (ks.length-(0+1))) (arr ks 0 (vD ks hs b)) 24 (GF hk hj) (GF hh (by omega)) (tv ks hs b hb _) oX (by omega) (by omega) (by
      have:=u0
      rw [show ks.length-0=(ks.length-(0+1))+1 by omega] at this
      unfold Jx at this
      rw [show ks.length-(ks.length-(0+1)+1)=0 by omega] at this
      exact this)
    have ea:arr ks (0+1) (vD ks hs b)=y:=by show xy _ _=y;unfold xy;rw [y2]
    exact ⟨oX,u0,by rw [y2,ea],by rw [ea];exact y1,by rw [ea];exact y3⟩
  | succ j ih =>
    intro hj
    obtain ⟨_,_,_,i1,i2⟩:=ih (by omega)
    obtain ⟨y,y1,y2,y3⟩:=xD (rd ks ((j+1:Nat):Int)) (rd hs ((j+1:Nat):Int)) (Jx ks hs b (ks.length-(j+1+1))) (arr ks (j+1) (vD ks hs b)) (24-2*(j+1)) (GF hk hj) (GF hh (by omega)) (tv ks hs b hb _) i1 (by omega) (by omega) (by
      have:=i2
      rw [show ks.length-(j+1)=(ks.length-(j+1+1))+1 by omega] at this
      unfold Jx at this
      rw [show ks.length-(ks.length-(j+1+1)+1)=j+1 by omega] at this
      exact this)
    have ea:arr ks (j+1+1) (vD ks hs b)=y:=by show xy _ _=y;unfold xy;rw [y2]
    exact ⟨i1,i2,by rw [y2,ea],by rw [ea];exact y1,by rw [ea,show 24-2*(j+1+1)=24-2*(j+1)-2 by omega];exact y3⟩
theorem yB {ks hs:List Int} {b:ByteArray} (h4:ks.length≤4) (hk:∀x∈ks,0≤x∧x≤65535) (hl:hs.length=ks.length) (hh:∀x∈hs,1≤x∧x≤250) (hb:b.size≤15) {j:Nat} (hj:j<ks.length):(arr ks j (vD ks hs b)).size=24∧∃x,nj (rd ks (j:Int)) (arr ks j (vD ks hs b))=some (rd hs (j:Int),arr ks (j+1) (vD ks hs b),x)∧(j+1=ks.length→x=b):=by
  obtain ⟨h1,_,h3,_⟩:=Vk ks hs b h4 hk hl hh hb j hj
  refine ⟨h1,_,h3,fun e=> ?_⟩
  rw [e,Nat.sub_self]
  exact IU b hb
theorem Ip {ks:List Int} {s t:ByteArray} {j:Nat} (h:arr ks j s=arr ks j t):∀m,arr ks (j+m) s=arr ks (j+m) t
  |0=>h
  |m+1=>by show xy _ (arr ks (j+m) s)=xy _ (arr ks (j+m) t);rw [Ip h m]
theorem P8 {ks hs X6:List Int} {b b':ByteArray} (h4:ks.length≤4) (hk:∀x∈ks,0≤x∧x≤65535) (hl:hs.length=ks.length) (hh:∀x∈hs,1≤x∧x≤250) (Yd:X6.length=ks.length) (hh':∀x∈X6,1≤x∧x≤250) (hb:b.size≤15) (xV:b'.size≤15) {j:Nat} (hj:j<ks.length) (h:arr ks j (vD ks hs b)=arr ks j (vD ks X6 b')):b=b':=by
  have e:=Ip h (ks.length-1-j)
  rw [show j+(ks.length-1-j)=ks.length-1 by omega] at e
  obtain ⟨_,x,p1,p2⟩:=yB h4 hk hl hh hb (show ks.length-1<ks.length by omega)
  obtain ⟨_,x',q1,q2⟩:=yB h4 hk Yd hh' xV (show ks.length-1<ks.length by omega)
  rw [e,q1] at p1
  rw [←p2 (by omega),←q2 (by omega)]
  exact ((Prod.mk.injEq _ _ _ _).mp ((Prod.mk.injEq _ _ _ _).mp (Option.some.inj p1)).2).2.symm
def xM (ls:List (Int×ByteArray)) (i:Nat):Int:=(ls.getD i (0,⟨#[]⟩)).1
def sS (ls:List (Int×ByteArray)) (i:Nat):ByteArray:=strOfNums [(i:Int)+1]++(ls.getD i (0,⟨#[]⟩)).2
noncomputable def vY (ks:List Int) (ls:List (Int×ByteArray)) (j i:Nat):ByteArray:=arr ks j (vD ks (oM ks.length (xM ls i)) (sS ls i))
def zm (ls:List (Int×ByteArray)):Prop:=ls.length≤60∧∀x∈ls,(0≤x.1∧x.1≤3)∧x.2.size≤14
theorem sI {ls:List (Int×ByteArray)} (h:zm ls) {i:Nat} (hi:i<ls.length):(0≤xM ls i∧xM ls i≤3)∧(sS ls i).size≤15∧(bl (sS ls i))[0]? =some (UInt8.ofNat (i+1)):=by
  have e:ls.getD i (0,⟨#[]⟩)=ls[i]:=dP _ i _ hi
  obtain ⟨h1,h2⟩:=h.2 _ (List.getElem_mem hi)
  unfold xM sS
  rw [e]
  refine ⟨h1,?_,?_⟩
  · rw [ByteArray.size_append,fG];show 1+_≤15;omega
  · rw [sP,u9];rfl
theorem Tp {ls:List (Int×ByteArray)} (h:zm ls) {i i':Nat} (hi:i<ls.length) (hi':i'<ls.length) (e:sS ls i=sS ls i'):i=i':=by
  have a:=(sI h hi).2.2
  rw [e,(sI h hi').2.2] at a
  have b:=congrArg UInt8.toNat (Option.some.inj a)
  rw [UInt8.toNat_ofNat',UInt8.toNat_ofNat'] at b
  have:=h.1
  omega
structure Vx (ks:List Int):Prop where
  k1:1≤ks.length
  k4:ks.length≤4
  kr:∀x∈ks,0≤x∧x≤65535
theorem AH {ks:List Int} (K:Vx ks) {ls:List (Int×ByteArray)} (h:zm ls) {j i i':Nat} (hj:j<ks.length) (hi:i<ls.length) (hi':i'<ls.length) (e:vY ks ls j i=vY ks ls j i'):i=i':=by
  obtain ⟨a1,a2,_⟩:=sI h hi
  obtain ⟨b1,b2,_⟩:=sI h hi'
  exact Tp h hi hi' (P8 K.k4 K.kr (l7 _ _) (tK _ _ a1) (l7 _ _) (tK _ _ b1) a2 b2 hj e)
theorem L7 (m:Nat) (u:Int) {j:Nat} (hj:j<m):rd (oM m u) (j:Int)=if j+1=m then u+2 else 1:=by
  rw [show rd (oM m u) (j:Int)=(oM m u)[j]'(by rw [l7];exact hj) from dP _ j _ (by rw [l7];exact hj)]
  unfold oM
  rw [List.getElem_set]
  by_cases c:j+1=m
  · rw [if_pos (by omega),if_pos c]
  · rw [if_neg (by omega),if_neg c,List.getElem_replicate]
theorem Lw {ks:List Int} (K:Vx ks) {ls:List (Int×ByteArray)} (h:zm ls) {j i:Nat} (hj:j<ks.length) (hi:i<ls.length):(vY ks ls j i).size=24∧∃x,nj (rd ks (j:Int)) (vY ks ls j i)=some (if j+1=ks.length then xM ls i+2 else 1,vY ks ls (j+1) i,x)∧(j+1=ks.length→x=sS ls i):=by
  obtain ⟨a1,a2,_⟩:=sI h hi
  have:=yB K.k4 K.kr (l7 _ (xM ls i)) (tK _ _ a1) a2 hj
  rw [L7 _ _ hj] at this
  exact this
structure Inv (ls:List (Int×ByteArray)) (pos:Nat→Nat) (n:Nt):Prop where
  g:GN n
  Fe:zm ls
  sd:n.sd=(ls.length:Int)
  le:∀i,i<ls.length→pos i≤n.ks.length
  vX:∀j,j<n.ks.length→∀s,s∈n.ps.getD j []↔∃i,i<ls.length∧pos i=j∧s=vY n.ks ls j i
  seen:∀j,j<n.ks.length→∀s,s∈n.ss.getD j []↔∃i,i<ls.length∧j≤pos i∧s=vY n.ks ls j i
  box:∀u:Nat,u<4→(n.ib.getD u []).Perm (((List.range ls.length).filter (fun i=>decide (pos i=n.ks.length)&&decide (xM ls i=(u:Int)))).map (sS ls))
theorem GN.O9 {n:Nt} (g:GN n):Vx n.ks:=⟨g.k1,g.k4,g.kr⟩
theorem Inv.new {K:List Int} (h1:ku 1 4 (K.length:Int)=true) (h2:K.all (ku 0 65535)=true):Inv [] (fun _=>0) (fT K) where
  g:=qQ h1 h2
  Fe:=⟨by simp,by simp⟩
  sd:=rfl
  le:=by simp
  vX:=by intro j hj s;simp [fT,List.getD_eq_getElem?_getD,List.getElem?_replicate];split<;>simp
  seen:=by intro j hj s;simp [fT,List.getD_eq_getElem?_getD,List.getElem?_replicate];split<;>simp
  box:=by
    intro u hu
    have:u=0∨u=1∨u=2∨u=3:=by omega
    rcases this with rfl|rfl|rfl|rfl<;>exact List.Perm.refl _
structure vm (ls:List (Int×ByteArray)) (pos:Nat→Nat) (j:Nat) (Q:List ByteArray) (n:Nt):Prop where
  g:GN n
  Fe:zm ls
  sd:n.sd=(ls.length:Int)
  le:∀i,i<ls.length→pos i≤n.ks.length
  out:n.ps.getD j []=[]
  nd:Q.Nodup
  tr:∀s,s∈Q↔∃i,i<ls.length∧pos i=j∧s=vY n.ks ls j i
  vX:∀j',j'<n.ks.length→j'≠j→∀s,s∈n.ps.getD j' []↔∃i,i<ls.length∧pos i=j'∧s=vY n.ks ls j' i
  seen:∀j',j'<n.ks.length→∀s,s∈n.ss.getD j' []↔∃i,i<ls.length∧j'≤pos i∧s=vY n.ks ls j' i
  box:∀u:Nat,u<4→(n.ib.getD u []).Perm (((List.range ls.length).filter (fun i=>decide (pos i=n.ks.length)&&decide (xM ls i=(u:Int)))).map (sS ls))
theorem vm.start {ls:List (Int×ByteArray)} {pos:Nat→Nat} {n:Nt} (h:Inv ls pos n) {j:Nat} (hj:j<n.ks.length):vm ls pos j (n.ps.getD j []) ⟨n.ks,n.ps.set j [],n.ss,n.ib,n.sd⟩ where
  g:=uz h.g j
  Fe:=h.Fe
  sd:=h.sd
  le:=h.le
  out:=by
   show (n.ps.set j []).getD j []=[];rw [gT];split<;>rename_i c
   · rfl
   · exact absurd ⟨rfl,by rw [h.g.pl];exact hj⟩ c
  nd:=(h.g.po j).2.2.2
  tr:=h.vX j hj
  vX:=fun j' uF jy s=>by
    show s∈(n.ps.set j []).getD j' []↔_
    rw [gT,if_neg (fun c=>jy c.1.symm)]
    exact h.vX j' uF s
  seen:=h.seen
  box:=h.box
theorem vm.stop {ls:List (Int×ByteArray)} {pos:Nat→Nat} {n:Nt} {j:Nat} (h:vm ls pos j [] n):Inv ls pos n∧∀i,i<ls.length→pos i≠j:=by
  have hn:∀i,i<ls.length→pos i≠j:=fun i hi e=>absurd ((h.tr _).2 ⟨i,hi,e,rfl⟩) (List.not_mem_nil)
  refine ⟨⟨h.g,h.Fe,h.sd,h.le,fun j' uF s=> ?_,h.seen,h.box⟩,hn⟩
  by_cases c:j'=j
  · subst c
    rw [h.out]
    exact ⟨fun hs=>absurd hs List.not_mem_nil,fun ⟨i,hi,e,_⟩=>absurd e (hn i hi)⟩
  · exact h.vX j' uF c s
theorem CV {ls:List (Int×ByteArray)} {n:Nt} {j m:Nat} (hn:(n.ss.getD j []).Nodup) (h:∀s,s∈n.ss.getD j []→∃i,i<ls.length∧s=vY n.ks ls j i):(n.ss.getD j []).length≤ls.length:=by
  have:=xI (n.ss.getD j []) ((List.range ls.length).map (vY n.ks ls j)) hn (fun x hx=>by
    obtain ⟨i,hi,e⟩:=h x hx
    exact List.mem_map.2 ⟨i,List.mem_range.2 hi,e.symm⟩)
  simpa using this
theorem FM (m i:Nat) (hi:i<m) (p p':Nat→Bool) (h0:p i=false) (h1:p' i=true) (h2:∀a,a≠i→p' a=p a):((List.range m).filter p').Perm (i::(List.range m).filter p):=by
  refine (List.perm_ext_iff_of_nodup (List.nodup_range.filter _) (List.nodup_cons.2 ⟨by simp [h0],List.nodup_range.filter _⟩)).2 (fun a=> ?_)
  by_cases c:a=i
  · subst c;simp [h1,hi]
  · simp [h2 a c,c]
theorem qZ (x s:ByteArray) (l:List ByteArray):s∈gE x l↔s=x∨s∈l:=by
  rw [(jO x l).mem_iff,List.mem_cons]
theorem vm.adv {ls:List (Int×ByteArray)} {pos:Nat→Nat} {j:Nat} {s:ByteArray} {Q:List ByteArray} {n:Nt} (h:vm ls pos j (s::Q) n) (hj:j<n.ks.length):∃pos',vm ls pos' j Q (kj (decide (j+1=n.ks.length)) j n s)∧(kj (decide (j+1=n.ks.length)) j n s).ks=n.ks∧∀a,pos' a=pos a∨(pos a=j∧pos' a=j+1):=by
  obtain ⟨i,hi,hp,rfl⟩:=(h.tr s).1 (by simp)
  obtain ⟨s24,x,px,xb⟩:=Lw h.g.O9 h.Fe hj hi
  obtain ⟨hu,hB,hB0⟩:=sI h.Fe hi
  obtain ⟨g',k',sd'⟩:=ux h.g (z:=decide (j+1=n.ks.length)) rfl hj s24
  have adr:∀a,(if a=i then j+1 else pos a)=pos a∨(pos a=j∧(if a=i then j+1 else pos a)=j+1):=fun a=>by
    by_cases c:a=i
    · subst c;exact .inr ⟨hp,if_pos rfl⟩
    · exact .inl (if_neg c)
  obtain ⟨hs,hnd⟩:=List.nodup_cons.1 h.nd
  have hQ:∀t,t∈Q↔∃a,a<ls.length∧(if a=i then j+1 else pos a)=j∧t=vY n.ks ls j a:=fun t=>by
    constructor
    · intro ht
      obtain ⟨a,ha,Cy,rfl⟩:=(h.tr t).1 (List.mem_cons_of_mem _ ht)
      have c:a≠i:=fun c=>hs (by rw [c] at ht;exact ht)
      exact ⟨a,ha,by rw [if_neg c];exact Cy,rfl⟩
    · rintro ⟨a,ha,Cy,rfl⟩
      have c:a≠i:=fun c=>by rw [if_pos c] at Cy;omega
      rw [if_neg c] at Cy
      rcases List.mem_cons.1 ((h.tr _).2 ⟨a,ha,Cy,rfl⟩) with e|e
      · exact absurd (AH h.g.O9 h.Fe hj ha hi e) c
      · exact e
  have hle:∀a,a<ls.length→(if a=i then j+1 else pos a)≤n.ks.length:=fun a ha=>by
    by_cases c:a=i
    · rw [if_pos c];omega
    · rw [if_neg c];exact h.le a ha
  refine ⟨fun a=>if a=i then j+1 else pos a,?_,k',adr⟩
  by_cases c:j+1=n.ks.length
  · have hz:decide (j+1=n.ks.length)=true:=decide_eq_true c
    rw [hz] at g' k' sd'⊢
    rw [if_pos c] at px
    obtain ⟨u,hu'⟩:=Int.eq_ofNat_of_zero_le hu.1
    have hu4:u<4:=by omega
    have hF:=FM ls.length i hi (fun a=>decide (pos a=n.ks.length)&&decide (xM ls a=(u:Int))) (fun a=>decide ((if a=i then j+1 else pos a)=n.ks.length)&&decide (xM ls a=(u:Int))) (by simp;intro e;omega) (by simp [c,hu']) (fun a ha=>by simp [ha])
    have hlen:(n.ib.getD u []).length<60:=by
      have e1:=(h.box u hu4).length_eq
      have e2:=hF.length_eq
      have e3:=List.length_filter_le (fun a=>decide ((if a=i then j+1 else pos a)=n.ks.length)&&decide (xM ls a=(u:Int))) (List.range ls.length)
      rw [List.length_map] at e1
      rw [List.length_cons] at e2
      rw [List.length_range] at e3
      have:=h.Fe.1
      omega
    have jy:¬sS ls i=(⟨#[]⟩:ByteArray):=fun e=>by rw [e] at hB0;cases hB0
    have et:kj true j n (vY n.ks ls j i)=⟨n.ks,n.ps,n.ss,n.ib.set u (n.ib.getD u []++[sS ls i]),n.sd⟩:=by
      unfold kj
      rw [px]
      dsimp only
      rw [xb c,if_neg (by decide),show (xM ls i+2-2).toNat=u by omega,if_pos ⟨by omega,jy,hlen⟩]
    rw [et] at g'⊢
    refine ⟨g',h.Fe,h.sd,hle,h.out,hnd,hQ,fun j' uF JH t=> ?_,fun j' uF t=> ?_,fun v hv=> ?_⟩
    · rw [show (⟨n.ks,n.ps,n.ss,n.ib.set u (n.ib.getD u []++[sS ls i]),n.sd⟩:Nt).ps=n.ps from rfl,h.vX j' uF JH t]
      refine exists_congr (fun a=>and_congr_right (fun ha=>and_congr_left (fun _=> ?_)))
      by_cases ca:a=i
      · rw [if_pos ca,ca,hp];exact ⟨fun e=>absurd e.symm JH,fun e=>absurd e (by have:j'<n.ks.length:=uF;omega)⟩
      · rw [if_neg ca]
    · rw [show (⟨n.ks,n.ps,n.ss,n.ib.set u (n.ib.getD u []++[sS ls i]),n.sd⟩:Nt).ss=n.ss from rfl,h.seen j' uF t]
      refine exists_congr (fun a=>and_congr_right (fun ha=>and_congr_left (fun _=> ?_)))
      by_cases ca:a=i
      · have:j'<n.ks.length:=uF
        rw [if_pos ca,ca,hp];omega
      · rw [if_neg ca]
    · show ((n.ib.set u (n.ib.getD u []++[sS ls i])).getD v []).Perm _
      rw [gT]
      by_cases cv:u=v
      · subst cv
        rw [if_pos ⟨rfl,by rw [h.g.il];exact hv⟩]
        refine (List.perm_append_comm.trans ?_)
        refine List.Perm.trans ?_ (hF.map _).symm
        exact List.Perm.cons _ (h.box u hv)
      · rw [if_neg (fun e=>cv e.1)]
        refine (h.box v hv).trans (List.Perm.of_eq ?_)
        congr 1
        refine List.filter_congr (fun a ha=> ?_)
        by_cases ca:a=i
        · subst ca
          have:¬xM ls a=(v:Int):=by omega
          simp [this]
        · rw [if_neg ca]
  · have hz:decide (j+1=n.ks.length)=false:=decide_eq_false c
    have Mm:j+1<n.ks.length:=by omega
    rw [hz] at g' k' sd'⊢
    rw [if_neg c] at px
    have hns:vY n.ks ls (j+1) i∉n.ss.getD (j+1) []:=fun hm=>by
      obtain ⟨a,ha,Cy,e⟩:=(h.seen (j+1) Mm _).1 hm
      have:=AH h.g.O9 h.Fe Mm hi ha e
      subst this
      omega
    have adJ:=CV (m:=0) (n:=n) (ls:=ls) (j:=j+1) (h.g.so (j+1)).2.2.2 (fun s hm=>by
      obtain ⟨a,ha,_,e⟩:=(h.seen (j+1) Mm _).1 hm
      exact ⟨a,ha,e⟩)
    have ahm:=h.Fe.1
    have et:kj false j n (vY n.ks ls j i)=⟨n.ks,n.ps.set (j+1) (gE (vY n.ks ls (j+1) i) (n.ps.getD (j+1) [])),n.ss.set (j+1) (gE (vY n.ks ls (j+1) i) (n.ss.getD (j+1) [])),n.ib,n.sd⟩:=by
      unfold kj
      rw [px]
      dsimp only
      rw [if_pos rfl,if_pos rfl]
      unfold kz
      rw [if_neg]
      rintro (e|e)
      · exact hns ((oN _ _).1 e)
      · omega
    rw [et] at g'⊢
    refine ⟨g',h.Fe,h.sd,hle,?_,hnd,hQ,fun j' uF JH t=> ?_,fun j' uF t=> ?_,fun v hv=> ?_⟩
    · show (n.ps.set (j+1) _).getD j []=[]
      rw [gT,if_neg (fun e=>by omega)]
      exact h.out
    · show t∈(n.ps.set (j+1) _).getD j' []↔_
      have TS:j'<n.ks.length:=uF
      rw [gT]
      by_cases cj:j+1=j'
      · subst cj
        rw [if_pos ⟨rfl,by rw [h.g.pl];exact Mm⟩,qZ,h.vX (j+1) Mm JH t]
        constructor
        · rintro (rfl|⟨a,ha,Cy,rfl⟩)
          · exact ⟨i,hi,if_pos rfl,rfl⟩
          · exact ⟨a,ha,by rw [if_neg (fun e=>by rw [e,hp] at Cy;omega)];exact Cy,rfl⟩
        · rintro ⟨a,ha,Cy,rfl⟩
          by_cases ca:a=i
          · exact .inl (by rw [ca])
          · rw [if_neg ca] at Cy;exact .inr ⟨a,ha,Cy,rfl⟩
      · rw [if_neg (fun e=>cj e.1),h.vX j' TS JH t]
        refine exists_congr (fun a=>and_congr_right (fun ha=>and_congr_left (fun _=> ?_)))
        by_cases ca:a=i
        · rw [if_pos ca,ca,hp];exact ⟨fun e=>absurd e.symm JH,fun e=>absurd e cj⟩
        · rw [if_neg ca]
    · show t∈(n.ss.set (j+1) _).getD j' []↔_
      have TS:j'<n.ks.length:=uF
      rw [gT]
      by_cases cj:j+1=j'
      · subst cj
        rw [if_pos ⟨rfl,by rw [h.g.sl];exact Mm⟩,qZ,h.seen (j+1) Mm t]
        constructor
        · rintro (rfl|⟨a,ha,Cy,rfl⟩)
          · exact ⟨i,hi,by rw [if_pos rfl];omega,rfl⟩
          · exact ⟨a,ha,by rw [if_neg (fun e=>by rw [e,hp] at Cy;omega)];exact Cy,rfl⟩
        · rintro ⟨a,ha,Cy,rfl⟩
          by_cases ca:a=i
          · exact .inl (by rw [ca])
          · rw [if_neg ca] at Cy;exact .inr ⟨a,ha,Cy,rfl⟩
      · rw [if_neg (fun e=>cj e.1),h.seen j' TS t]
        refine exists_congr (fun a=>and_congr_right (fun ha=>and_congr_left (fun _=> ?_)))
        by_cases ca:a=i
        · rw [if_pos ca,ca,hp];omega
        · rw [if_neg ca]
    · refine (h.box v hv).trans (List.Perm.of_eq ?_)
      congr 1
      refine List.filter_congr (fun a ha=> ?_)
      by_cases ca:a=i
      · have e1:¬pos a=n.ks.length:=by rw [ca,hp];omega
        have e2:¬j+1=n.ks.length:=c
        simp [ca] at e1⊢
        simp [e1,e2]
      · rw [if_neg ca]
theorem vm.fold {ls:List (Int×ByteArray)} {j:Nat} :∀(Q:List ByteArray) {pos:Nat→Nat} {n:Nt},vm ls pos j Q n→j<n.ks.length→∃pos',vm ls pos' j [] (Q.foldl (kj (decide (j+1=n.ks.length)) j) n)∧(Q.foldl (kj (decide (j+1=n.ks.length)) j) n).ks=n.ks∧∀a,pos' a=pos a∨(pos a=j∧pos' a=j+1)
  |[],pos,n,h,_=>⟨pos,h,rfl,fun _=> .inl rfl⟩
  | s :: Q, pos, n, h, hj => by
    obtain ⟨p1,h1,k1,q1⟩:=h.adv hj
    obtain ⟨p2,h2,k2,q2⟩:=vm.fold Q h1 (by rw [k1];exact hj)
    rw [k1] at h2 k2
    refine ⟨p2,h2,k2,fun a=> ?_⟩
    rcases q2 a with e2|⟨e2,e3⟩<;>rcases q1 a with e1|⟨e1,e4⟩
    · exact .inl (e2.trans e1)
    · exact .inr ⟨e1,e2.trans e4⟩
    · exact .inr ⟨e1▸e2,e3⟩
    · omega
theorem Inv.tick {ls:List (Int×ByteArray)} {pos:Nat→Nat} {n:Nt} (h:Inv ls pos n) {j:Nat} (hj:j<n.ks.length):∃pos',Inv ls pos' (qj n j)∧(qj n j).ks=n.ks∧(∀i,i<ls.length→pos' i≠j)∧∀a,pos' a=pos a∨(pos a=j∧pos' a=j+1):=by
  obtain ⟨p,h1,k1,q⟩:=vm.fold _ (vm.start h hj) hj
  obtain ⟨h2,h3⟩:=h1.stop
  exact ⟨p,h2,k1,h3,q⟩
theorem Inv.settle {ls:List (Int×ByteArray)} :∀(d j:Nat) {pos:Nat→Nat} {n:Nt},Inv ls pos n→j+d=n.ks.length→(∀i,i<ls.length→j≤pos i)→∃pos',Inv ls pos' (nQ d j n)∧(nQ d j n).ks=n.ks∧∀i,i<ls.length→n.ks.length≤pos' i
  |0,j,pos,n,h,e,hp=>⟨pos,h,rfl,fun i hi=>by have:=hp i hi;omega⟩
  | d + 1, j, pos, n, h, e, hp => by
    obtain ⟨p1,h1,k1,n1,q1⟩:=h.tick (j:=j) (by omega)
    obtain ⟨p2,h2,k2,q2⟩:=Inv.settle d (j+1) h1 (by rw [k1];omega) (fun i hi=>by
      have:=n1 i hi;have:=hp i hi;rcases q1 i with e|e<;>omega)
    exact ⟨p2,h2,k2.trans k1,fun i hi=>by rw [←k1];exact q2 i hi⟩
theorem Inv.Xb {ls:List (Int×ByteArray)} {pos:Nat→Nat} {n:Nt} (b:Int) (h0:0≤b) (h1:b<((n.ss.getD 0 []).length:Int)):kz n 0 (aV ByteArray.empty (n.ss.getD 0 []) b)=n:=by
  obtain ⟨m,rfl⟩:=Int.eq_ofNat_of_zero_le h0
  have hm:m<(n.ss.getD 0 []).length:=by omega
  have hm':aV ByteArray.empty (n.ss.getD 0 []) (m:Int)∈n.ss.getD 0 []:=by
    rw [show aV ByteArray.empty (n.ss.getD 0 []) (m:Int)=(n.ss.getD 0 [])[m] from dP _ m _ hm]
    exact List.getElem_mem hm
  unfold kz
  exact if_pos (.inl ((oN _ _).2 hm'))
theorem LH {ls:List (Int×ByteArray)} (x:Int×ByteArray) {i:Nat} (hi:i<ls.length):(ls++[x]).getD i (0,⟨#[]⟩)=ls.getD i (0,⟨#[]⟩):=xY hi
theorem G1 {ls:List (Int×ByteArray)} (x:Int×ByteArray) {i:Nat} (hi:i<ls.length):sS (ls++[x]) i=sS ls i:=by unfold sS;rw [LH x hi]
theorem GZ {ls:List (Int×ByteArray)} (x:Int×ByteArray) {i:Nat} (hi:i<ls.length):xM (ls++[x]) i=xM ls i:=by unfold xM;rw [LH x hi]
theorem OX {ks:List Int} {ls:List (Int×ByteArray)} (x:Int×ByteArray) {j i:Nat} (hi:i<ls.length):vY ks (ls++[x]) j i=vY ks ls j i:=by unfold vY;rw [GZ x hi,G1 x hi]
theorem To (ls:List (Int×ByteArray)) (x:Int×ByteArray):(ls++[x]).getD ls.length (0,⟨#[]⟩)=x:=by
  rw [xX (Nat.le_refl _),Nat.sub_self];rfl
theorem Inv.say {ls:List (Int×ByteArray)} {pos:Nat→Nat} {n:Nt} (h:Inv ls pos n) (u:Int) (t:ByteArray) (hu:0≤u∧u≤3) (ht:t.size≤14) (hn:¬n.sd=60):∃pos',Inv (ls++[(u,t)]) pos' (p7 n u t).1:=by
  have hl:ls.length<60:=by have:=h.sd;have:=h.g.sd;omega
  have mL:zm (ls++[(u,t)]):=⟨by simp;omega,fun x hx=>by
    rcases List.mem_append.1 hx with hx|hx
    · exact h.Fe.2 x hx
    · rw [List.mem_singleton] at hx;subst hx;exact ⟨hu,ht⟩⟩
  have hm:ls.length<(ls++[(u,t)]).length:=by simp
  have h0:0<n.ks.length:=h.g.k1
  have eo:o9 n u t=vY n.ks (ls++[(u,t)]) 0 ls.length:=by
    unfold vY xM sS o9
    rw [To,h.sd];rfl
  have hold:∀j i,i<ls.length→vY n.ks (ls++[(u,t)]) j i=vY n.ks ls j i:=fun j i hi=>OX _ hi
  have hns:o9 n u t∉n.ss.getD 0 []:=fun hx=>by
    obtain ⟨a,ha,_,e⟩:=(h.seen 0 h0 _).1 hx
    rw [eo,←hold 0 a ha] at e
    have:=AH h.g.O9 mL h0 hm (by simp;omega) e
    omega
  have adJ:=CV (m:=0) (n:=n) (ls:=ls) (j:=0) (h.g.so 0).2.2.2 (fun s hx=>by
    obtain ⟨a,ha,_,e⟩:=(h.seen 0 h0 _).1 hx
    exact ⟨a,ha,e⟩)
  have g':=NQ h.g u t
  have es:(p7 n u t).1=⟨n.ks,n.ps.set 0 (gE (o9 n u t) (n.ps.getD 0 [])),n.ss.set 0 (gE (o9 n u t) (n.ss.getD 0 [])),n.ib,n.sd+1⟩:=by
    unfold p7
    rw [if_pos ⟨hu,ht,hn⟩]
    show kz _ 0 _=_
    unfold kz
    rw [if_neg]
    rintro (e|e)
    · exact hns ((oN _ _).1 e)
    · have e:(n.ss.getD 0 []).length=100:=e
      omega
  rw [es] at g'⊢
  have eO:∀a,a<(ls++[(u,t)]).length↔a<ls.length∨a=ls.length:=fun a=>by simp;omega
  refine ⟨fun a=>if a=ls.length then 0 else pos a,g',mL,by show n.sd+1=_;rw [h.sd];simp,fun a ha=> ?_,fun j hj s=> ?_,fun j hj s=> ?_,fun v hv=> ?_⟩
  · by_cases c:a=ls.length
    · rw [if_pos c];exact Nat.zero_le _
    · rw [if_neg c];exact h.le a (((eO a).1 ha).resolve_right c)
  · show s∈(n.ps.set 0 _).getD j []↔_
    have uF:j<n.ks.length:=hj
    rw [gT]
    by_cases c:0=j
    · subst c
      rw [if_pos ⟨rfl,by rw [h.g.pl];exact h0⟩,qZ,h.vX 0 h0 s]
      constructor
      · rintro (rfl|⟨a,ha,hp,rfl⟩)
        · exact ⟨ls.length,hm,if_pos rfl,eo⟩
        · exact ⟨a,(eO a).2 (.inl ha),by rw [if_neg (by omega)];exact hp,(hold 0 a ha).symm⟩
      · rintro ⟨a,ha,hp,rfl⟩
        rcases (eO a).1 ha with ha|rfl
        · rw [if_neg (by omega)] at hp;exact .inr ⟨a,ha,hp,hold 0 a ha⟩
        · exact .inl eo.symm
    · rw [if_neg (fun e=>c e.1),h.vX j uF s]
      constructor
      · rintro ⟨a,ha,hp,rfl⟩
        exact ⟨a,(eO a).2 (.inl ha),by rw [if_neg (by omega)];exact hp,(hold j a ha).symm⟩
      · rintro ⟨a,ha,hp,rfl⟩
        rcases (eO a).1 ha with ha|rfl
        · rw [if_neg (by omega)] at hp;exact ⟨a,ha,hp,hold j a ha⟩
        · rw [if_pos rfl] at hp;exact absurd hp c
  · show s∈(n.ss.set 0 _).getD j []↔_
    have uF:j<n.ks.length:=hj
    rw [gT]
    by_cases c:0=j
    · subst c
      rw [if_pos ⟨rfl,by rw [h.g.sl];exact h0⟩,qZ,h.seen 0 h0 s]
      constructor
      · rintro (rfl|⟨a,ha,hp,rfl⟩)
        · exact ⟨ls.length,hm,Nat.zero_le _,eo⟩
        · exact ⟨a,(eO a).2 (.inl ha),Nat.zero_le _,(hold 0 a ha).symm⟩
      · rintro ⟨a,ha,hp,rfl⟩
        rcases (eO a).1 ha with ha|rfl
        · exact .inr ⟨a,ha,Nat.zero_le _,hold 0 a ha⟩
        · exact .inl eo.symm
    · rw [if_neg (fun e=>c e.1),h.seen j uF s]
      constructor
      · rintro ⟨a,ha,hp,rfl⟩
        exact ⟨a,(eO a).2 (.inl ha),by rw [if_neg (by omega)];exact hp,(hold j a ha).symm⟩
      · rintro ⟨a,ha,hp,rfl⟩
        rcases (eO a).1 ha with ha|rfl
        · rw [if_neg (by omega)] at hp;exact ⟨a,ha,hp,hold j a ha⟩
        · rw [if_pos rfl] at hp;omega
  · show (n.ib.getD v []).Perm _
    refine (h.box v hv).trans (List.Perm.of_eq ?_)
    rw [List.length_append,List.length_singleton,List.range_succ,List.filter_append,List.map_append]
    have hk:n.ks.length≠0:=by omega
    have e1:List.filter (fun a=>decide ((if a=ls.length then 0 else pos a)=n.ks.length)&&decide (xM (ls++[(u,t)]) a=(v:Int))) [ls.length]=[]:=by
      have:¬0=n.ks.length:=fun e=>hk e.symm
      simp [this]
    rw [e1,List.map_nil,List.append_nil]
    have e2:List.filter (fun a=>decide ((if a=ls.length then 0 else pos a)=n.ks.length)&&decide (xM (ls++[(u,t)]) a=(v:Int))) (List.range ls.length)=List.filter (fun i=>decide (pos i=n.ks.length)&&decide (xM ls i=(v:Int))) (List.range ls.length):=List.filter_congr (fun a ha=>by
      have ha:=List.mem_range.1 ha
      rw [if_neg (by omega),GZ _ ha])
    rw [e2]
    exact List.map_congr_left (fun a ha=>(G1 _ (List.mem_range.1 (List.mem_filter.1 ha).1)).symm)
noncomputable def JQ:List iK→Nt→List Bool
  |[],_=>[]
  |s::r,n=>(iE n s.f0 s.f1 s.f2).2::JQ r (iE n s.f0 s.f1 s.f2).1
def rM:List iK→List Bool→List (Int×ByteArray)
  |s::r,b::bs=>if b=true∧s.f0=1 then (s.f1,s.f2)::rM r bs else rM r bs
  |_,_=>[]
theorem C2:∀(l:List iK) (n:Nt) (d:List Bool),(fZ l n d).2=d++JQ l n
  |[],n,d=>(List.append_nil d).symm
  | s :: r, n, d => by
    show (fZ r _ (d++[_])).2=_
    rw [C2 r,List.append_assoc];rfl
theorem Inv.step {ls:List (Int×ByteArray)} {pos:Nat→Nat} {n:Nt} (h:Inv ls pos n) (a b:Int) (x:ByteArray):∃pos',Inv (ls++(if (iE n a b x).2=true∧a=1 then [(b,x)] else [])) pos' (iE n a b x).1:=by
  have same:∀(m:Nt),(∃pos',Inv ls pos' m)→∀(q:Bool),¬(q=true∧a=1)→∃pos',Inv (ls++(if q=true∧a=1 then [(b,x)] else [])) pos' m:=fun m hm q hq=>by
    rw [if_neg hq,List.append_nil];exact hm
  unfold iE
  by_cases c1:a=1
  · rw [if_pos c1]
    by_cases c:(0≤b∧b≤3)∧x.size≤14∧¬n.sd=60
    · have e:(p7 n b x).2=true:=by unfold p7;rw [if_pos c]
      rw [if_pos ⟨e,c1⟩]
      exact h.say b x c.1 c.2.1 c.2.2
    · have e:p7 n b x=(n,false):=by unfold p7;rw [if_neg c]
      rw [e]
      exact same n ⟨pos,h⟩ false (by simp)
  · rw [if_neg c1]
    by_cases c2:x=(⟨#[]⟩:ByteArray)
    · rw [if_pos c2]
      by_cases c3:a=2
      · rw [if_pos c3]
        by_cases c4:0≤b∧b<(n.ks.length:Int)
        · rw [if_pos c4]
          obtain ⟨p,h1,_⟩:=h.tick (j:=b.toNat) (by omega)
          exact same _ ⟨p,h1⟩ true (fun e=>c1 e.2)
        · rw [if_neg c4];exact same n ⟨pos,h⟩ false (by simp)
      · rw [if_neg c3]
        by_cases c4:a=3
        · rw [if_pos c4]
          by_cases c5:0≤b∧b<((n.ss.getD 0 []).length:Int)
          · rw [if_pos c5,Inv.Xb b c5.1 c5.2 (ls:=ls) (pos:=pos)]
            exact same n ⟨pos,h⟩ true (fun e=>c1 e.2)
          · rw [if_neg c5];exact same n ⟨pos,h⟩ false (by simp)
        · rw [if_neg c4];exact same n ⟨pos,h⟩ false (by simp)
    · rw [if_neg c2];exact same n ⟨pos,h⟩ false (by simp)
theorem Inv.XJ:∀(l:List iK) {ls:List (Int×ByteArray)} {pos:Nat→Nat} {n:Nt} (d:List Bool),Inv ls pos n→∃pos',Inv (ls++rM l (JQ l n)) pos' (fZ l n d).1
  |[],ls,pos,n,d,h=>⟨pos,by rw [show ls++rM [] (JQ [] n)=ls from List.append_nil ls];exact h⟩
  | s :: r, ls, pos, n, d, h => by
    obtain ⟨p1,h1⟩:=h.step s.f0 s.f1 s.f2
    obtain ⟨p2,h2⟩:=Inv.XJ r (d++[(iE n s.f0 s.f1 s.f2).2]) h1
    refine ⟨p2,?_⟩
    have e:ls++rM (s::r) (JQ (s::r) n)=ls++(if (iE n s.f0 s.f1 s.f2).2=true∧s.f0=1 then [(s.f1,s.f2)] else [])++rM r (JQ r (iE n s.f0 s.f1 s.f2).1):=by
      show ls++(if (iE n s.f0 s.f1 s.f2).2=true∧s.f0=1 then (s.f1,s.f2)::rM r _ else rM r _)=_
      split<;>simp
    rw [e]
    exact h2
theorem Inv.done {ls:List (Int×ByteArray)} {pos:Nat→Nat} {n:Nt} (h:Inv ls pos n) (hp:∀i,i<ls.length→n.ks.length≤pos i):(∀j,j<n.ks.length→n.ps.getD j []=[])∧∀u:Nat,u<4→(n.ib.getD u []).Perm (((List.range ls.length).filter (fun i=>decide (xM ls i=(u:Int)))).map (sS ls)):=by
  refine ⟨fun j hj=>List.eq_nil_iff_forall_not_mem.2 (fun s hs=> ?_),fun u hu=>(h.box u hu).trans (List.Perm.of_eq ?_)⟩
  · obtain ⟨i,hi,e,_⟩:=(h.vX j hj s).1 hs
    have:=hp i hi
    omega
  · congr 1
    refine List.filter_congr (fun i hi=> ?_)
    have hi:=List.mem_range.1 hi
    have:=hp i hi
    have:=h.le i hi
    simp [show pos i=n.ks.length by omega]
theorem Ew (u:Int):∀(ls:List (Int×ByteArray)),((List.range ls.length).filter (fun i=>decide (xM ls i=u))).map (fun i=>(ls.getD i (0,⟨#[]⟩)).2)=(ls.filter (fun x=>decide (x.1=u))).map Prod.snd:=by
  intro ls
  have e:ls=(List.range ls.length).map (fun i=>ls.getD i (0,⟨#[]⟩)):=List.ext_getElem (by simp) (fun i h1 h2=>by rw [List.getElem_map,List.getElem_range];exact (dP _ i _ h1).symm)
  conv=>rhs;rw [e]
  rw [List.filter_map,List.map_map]
  rfl
section
variable {α:Type} (key:α→Int)
def fN (xs ys:List α):Prop:=∀c,xs.filter (fun x=>decide (key x=c))=ys.filter (fun x=>decide (key x=c))
def nD (xs:List α):Prop:=xs.Pairwise (fun x y=>key x≤key y)
variable {key}
theorem fN.refl (xs:List α):fN key xs xs:=fun _=>rfl
theorem fN.symm {xs ys:List α} (h:fN key xs ys):fN key ys xs:=fun c=>(h c).symm
theorem fN.trans {xs ys zs:List α} (h:fN key xs ys) (k:fN key ys zs):fN key xs zs:=fun c=>(h c).trans (k c)
theorem fN.app {xs ys us vs:List α} (h:fN key xs ys) (k:fN key us vs):fN key (xs++us) (ys++vs):=fun c=>by rw [List.filter_append,List.filter_append,h c,k c]
theorem fN.mid {xs ys:List α} (h:fN key xs ys) (P Q:List α):fN key (P++xs++Q) (P++ys++Q):=((fN.refl P).app h).app (fN.refl Q)
theorem fN.swap {A B:List α} (h:∀a∈A,∀b∈B,key a≠key b):fN key (A++B) (B++A):=fun c=>by
  rw [List.filter_append,List.filter_append]
  by_cases q:∃a∈A,key a=c
  · obtain ⟨a,ha,e⟩:=q
    have:B.filter (fun x=>decide (key x=c))=[]:=by
      rw [List.filter_eq_nil_iff]
      intro b hb
      have:=h a ha b hb
      simp only [decide_eq_true_eq]
      omega
    rw [this,List.append_nil,List.nil_append]
  · have:A.filter (fun x=>decide (key x=c))=[]:=by
      rw [List.filter_eq_nil_iff]
      intro a ha
      simp only [decide_eq_true_eq]
      exact fun e=>q ⟨a,ha,e⟩
    rw [this,List.append_nil,List.nil_append]
theorem fN.mem {xs ys:List α} (h:fN key xs ys) (x:α) (hx:x∈xs):x∈ys:=by
  have h1:x∈xs.filter (fun y=>decide (key y=key x)):=List.mem_filter.2 ⟨hx,by simp⟩
  rw [h (key x)] at h1
  exact (List.mem_filter.1 h1).1
theorem fN.nil {ys:List α} (h:fN key [] ys):ys=[]:=by
  cases ys with
  |nil=>rfl
  |cons y r=>exact absurd (h.symm.mem y List.mem_cons_self) (by simp)
theorem nD.eq:∀ {xs ys:List α},nD key xs→nD key ys→fN key xs ys→xs=ys
  |[],_,_,_,h=>h.nil.symm
  |x::xs,[],_,_,h=>absurd h.symm.nil (by simp)
  | x :: xs, y :: ys, hx, hy, h => by
    obtain ⟨x1,x2⟩:=List.pairwise_cons.1 hx
    obtain ⟨y1,y2⟩:=List.pairwise_cons.1 hy
    have e1:key x≤key y:=by
      rcases List.mem_cons.1 (h.symm.mem y List.mem_cons_self) with e|e
      · rw [e];exact Int.le_refl _
      · exact x1 y e
    have e2:key y≤key x:=by
      rcases List.mem_cons.1 (h.mem x List.mem_cons_self) with e|e
      · rw [e];exact Int.le_refl _
      · exact y1 x e
    have e:key x=key y:=Int.le_antisymm e1 e2
    have hc:=h (key x)
    rw [List.filter_cons_of_pos (by simp),List.filter_cons_of_pos (by simp [e])] at hc
    injection hc with h1 h2
    subst h1
    rw [nD.eq x2 y2 (fun c=> ?_)]
    by_cases q:key x=c
    · subst q;exact h2
    · have:=h c
      rwa [List.filter_cons_of_neg (by simpa using q),List.filter_cons_of_neg (by simpa using q)] at this
theorem nD.app {A B:List α} (ha:nD key A) (hb:nD key B) (h:∀a∈A,∀b∈B,key a≤key b):nD key (A++B):=List.pairwise_append.2 ⟨ha,hb,h⟩
theorem nD.left {A B:List α} (h:nD key (A++B)):nD key A:=(List.pairwise_append.1 h).1
theorem nD.right {A B:List α} (h:nD key (A++B)):nD key B:=(List.pairwise_append.1 h).2.1
theorem nD.le {A B:List α} (h:nD key (A++B)):∀a∈A,∀b∈B,key a≤key b:=(List.pairwise_append.1 h).2.2
variable (key)
def ins (x:α):List α→List α
  |[]=>[x]
  |y::r=>if key y≤key x then y::ins x r else x::y::r
def mW (l:List α):List α:=l.foldl (fun acc x=>ins key x acc) []
variable {key}
theorem Df (x:α):∀l:List α,nD key l→∃l1 l2,l=l1++l2∧ins key x l=l1++x::l2∧(∀y∈l1,key y≤key x)∧∀y∈l2,key x<key y
  |[],_=>⟨[],[],rfl,rfl,by simp,by simp⟩
  | y :: r, h => by
    obtain ⟨h1,h2⟩:=List.pairwise_cons.1 h
    by_cases q:key y≤key x
    · obtain ⟨l1,l2,e1,e2,e3,e4⟩:=Df x r h2
      refine ⟨y::l1,l2,by rw [e1];rfl,by rw [ins,if_pos q,e2];rfl,?_,e4⟩
      intro z hz
      rcases List.mem_cons.1 hz with rfl|hz
      · exact q
      · exact e3 z hz
    · refine ⟨[],y::r,rfl,by rw [ins,if_neg q];rfl,by simp,?_⟩
      intro z hz
      rcases List.mem_cons.1 hz with rfl|hz
      · omega
      · have:=h1 z hz;omega
theorem Tt (x:α) (l:List α) (h:nD key l):nD key (ins key x l)∧fN key (l++[x]) (ins key x l):=by
  obtain ⟨l1,l2,e1,e2,e3,e4⟩:=Df x l h
  rw [e2]
  subst e1
  refine ⟨nD.app h.left (List.pairwise_cons.2 ⟨fun y hy=>Int.le_of_lt (e4 y hy),h.right⟩) ?_,?_⟩
  · intro a ha b hb
    rcases List.mem_cons.1 hb with rfl|hb
    · exact e3 a ha
    · exact h.le a ha b hb
  · rw [List.append_assoc]
    refine (fN.refl l1).app (fN.swap ?_)
    intro a ha b hb
    rw [List.mem_singleton.1 hb]
    have:=e4 a ha
    omega
theorem xQ (x:α):∀l:List α,(ins key x l).length=l.length+1
  |[]=>rfl
  | y :: r => by
    unfold ins
    split
    · simp [xQ x r]
    · simp
theorem CS (l:List α) (x:α):mW key (l++[x])=ins key x (mW key l):=by simp [mW]
theorem kQ (l:List α):nD key (mW key l)∧fN key l (mW key l):=by
  induction hn:l.length generalizing l with
  |zero=>rw [List.length_eq_zero_iff.1 hn];exact ⟨List.Pairwise.nil,fN.refl _⟩
  | succ n ih =>
    obtain ⟨l',x,rfl⟩:∃l' x,l=l'++[x]:=⟨l.dropLast,l.getLast (by intro e;rw [e] at hn;cases hn),(List.dropLast_concat_getLast _).symm⟩
    obtain ⟨h1,h2⟩:=ih l' (by simpa using hn)
    obtain ⟨h3,h4⟩:=Tt x _ h1
    rw [CS]
    exact ⟨h3,(h2.app (fN.refl [x])).trans h4⟩
theorem K8 {l ys:List α} (h1:nD key ys) (h2:fN key l ys):ys=mW key l:=nD.eq h1 (kQ l).1 (h2.symm.trans (kQ l).2)
theorem Au {l:List α} {x:α} (h:x∈mW key l):x∈l:=(kQ l).2.symm.mem x h
end
section
variable {α:Type} {z:α}
theorem Ux (P:List α) (x:α) (R:List α) (i:Nat) (h:i=P.length):(P++x::R).getD i z=x:=by
  subst h
  rw [List.getD_eq_getElem?_getD,List.getElem?_append_right (Nat.le_refl _),Nat.sub_self]
  rfl
theorem OD (P:List α) (x y:α) (R:List α) (i:Nat) (h:i=P.length):(P++x::R).set i y=P++y::R:=by
  subst h
  rw [List.set_append_right _ _ (Nat.le_refl _),Nat.sub_self]
  rfl
end
abbrev k0 (s:ByteArray):Int:=bt s 0
theorem Dy (a b:ByteArray) (ha:0<a.size) (hb:0<b.size):bZ.f a b=some (k0 a-k0 b):=by
  unfold bZ.f
  have:=nw a 0
  have:=nw b 0
  rw [if_pos (by omega),if_pos (by omega),fI (x:=bt a 0) (by omega) (by omega),fI (x:=bt b 0) (by omega) (by omega),fI (by omega) (by omega)]
theorem nh (P:List ByteArray) (x:ByteArray) (R:List ByteArray) (i:Int) (h:i=P.length):aV ByteArray.empty (P++x::R) i=x:=Ux P x R i.toNat (by omega)
theorem o6 (P:List ByteArray) (x y:ByteArray) (R:List ByteArray) (i:Int) (h:i=P.length):(P++x::R).set i.toNat y=P++y::R:=OD P x y R i.toNat (by omega)
def NE (xs:List ByteArray):Prop:=∀x∈xs,0<x.size
theorem XV (P:List ByteArray) (x:ByteArray) (R:List ByteArray) (b i:Nat) (hb:b≤4294967296) (hi:i<b) (hx:0<x.size):∀(n:Nat) (S1 S2:List ByteArray),S1.length=n→NE S1→nD k0 (S1++S2)→(∀s∈S2,k0 x<k0 s)→P.length+S1.length≤i→
    ∃T,nD k0 T∧fN k0 (S1++x::S2) T∧T.length=S1.length+S2.length+1∧∀r,Ev (fun k=>af.l0 k (P++T++R) (P.length:Int) (b:Int) ((i:Int)+1)) r→Ev (fun k=>af.l1 k (P++(S1++x::S2)++R) (P.length:Int) (b:Int) (i:Int) ((P.length:Int)+(S1.length:Int))) r:=by
  intro n
  induction n with
  | zero =>
    intro S1 S2 hn _ hs h2 _
    obtain rfl:=List.length_eq_zero_iff.1 hn
    refine ⟨x::S2,List.pairwise_cons.2 ⟨fun y hy=>Int.le_of_lt (h2 y hy),hs⟩,fN.refl _,by simp,fun r hr=> ?_⟩
    refine aQ (fun k=>by rw [af.l1]) (bG (by simp) ?_)
    rw [fI (by omega) (by omega)]
    exact hr
  | succ n ih =>
    intro S1 S2 hn jy hs h2 eO
    obtain ⟨S,y,rfl⟩:∃S y,S1=S++[y]:=⟨S1.dropLast,S1.getLast (by intro e;rw [e] at hn;cases hn),(List.dropLast_concat_getLast _).symm⟩
    have hl:(S++[y]).length=S.length+1:=by simp
    have hy:0<y.size:=jy y (by simp)
    have e1:P++(S++[y]++x::S2)++R=(P++S++[y])++x::(S2++R):=by simp
    have e2:P++(S++[y]++x::S2)++R=(P++S)++y::x::(S2++R):=by simp
    have g1:aV ByteArray.empty (P++(S++[y]++x::S2)++R) ((P.length:Int)+((S++[y]).length:Int))=x:=by rw [e1];exact nh _ _ _ _ (by simp<;>omega)
    have g2:aV ByteArray.empty (P++(S++[y]++x::S2)++R) ((P.length:Int)+((S++[y]).length:Int)-1)=y:=by rw [e2];exact nh _ _ _ _ (by simp<;>omega)
    by_cases q:k0 x<k0 y
    · have X6:nD k0 (S++(y::S2)):=by simpa using hs
      obtain ⟨T,t1,t2,t3,t4⟩:=ih S (y::S2) (by simpa using hn) (fun s h=>jy s (by simp [h])) X6 (fun s h=>by
        rcases List.mem_cons.1 h with rfl|h
        · exact q
        · exact h2 s h) (by omega)
      refine ⟨T,t1,fN.trans ?_ t2,by rw [t3,hl];simp;omega,fun r hr=> ?_⟩
      · have:=((fN.refl (key:=k0) S).app (fN.swap (key:=k0) (A:=[y]) (B:=[x]) (by simp<;>omega))).app (fN.refl S2)
        simpa using this
      · refine aQ (fun k=>by rw [af.l1]) (ay (by omega) (ay (by omega) (ay (by simp<;>omega) ?_)))
        rw [fI (x:=(P.length:Int)+((S++[y]).length:Int)-1) (by omega) (by omega)]
        refine ay (by omega) (ay (by simp<;>omega) (jl (by rw [g1,g2];exact Dy x y hx hy) (ay (by omega) ?_)))
        have e3:((P++(S++[y]++x::S2)++R).set ((P.length:Int)+((S++[y]).length:Int)).toNat (aV ByteArray.empty (P++(S++[y]++x::S2)++R) ((P.length:Int)+((S++[y]).length:Int)-1))).set ((P.length:Int)+((S++[y]).length:Int)-1).toNat (aV ByteArray.empty (P++(S++[y]++x::S2)++R) ((P.length:Int)+((S++[y]).length:Int)))=P++(S++x::(y::S2))++R:=by
          rw [show aV ByteArray.empty (P++(S++[y]++x::S2)++R) ((P.length:Int)+((S++[y]).length:Int)-1)=y from g2,show aV ByteArray.empty (P++(S++[y]++x::S2)++R) ((P.length:Int)+((S++[y]).length:Int))=x from g1,e1,o6 _ _ _ _ _ (by simp<;>omega),show P++S++[y]++y::(S2++R)=(P++S)++y::(y::(S2++R)) by simp,o6 _ _ _ _ _ (by simp<;>omega)]
          simp
        rw [e3]
        have:=t4 r hr
        rw [show (P.length:Int)+((S++[y]).length:Int)-1=(P.length:Int)+(S.length:Int) by rw [hl];omega]
        exact this
    · refine ⟨S++[y]++x::S2,?_,fN.refl _,by simp<;>omega,fun r hr=> ?_⟩
      · refine nD.app hs.left (List.pairwise_cons.2 ⟨fun s h=>Int.le_of_lt (h2 s h),hs.right⟩) ?_
        intro a ha c hc
        rcases List.mem_cons.1 hc with rfl|hc
        · have h1:=hs.left
          rcases List.mem_append.1 ha with ha|ha
          · have:=h1.le a ha y (by simp);omega
          · rw [List.mem_singleton.1 ha];omega
        · exact hs.le a ha c hc
      · refine aQ (fun k=>by rw [af.l1]) (ay (by omega) (ay (by omega) (ay (by simp<;>omega) ?_)))
        rw [fI (x:=(P.length:Int)+((S++[y]).length:Int)-1) (by omega) (by omega)]
        refine ay (by omega) (ay (by simp<;>omega) (jl (by rw [g1,g2];exact Dy x y hx hy) (bG (by omega) ?_)))
        rw [fI (by omega) (by omega)]
        exact hr
theorem LQ (P R:List ByteArray) (b:Nat) (hb:b≤4294967296):∀(U S:List ByteArray),nD k0 S→NE (S++U)→P.length+S.length+U.length=b→
    ∃T,nD k0 T∧fN k0 (S++U) T∧T.length=S.length+U.length∧Ev (fun k=>af.l0 k (P++(S++U)++R) (P.length:Int) (b:Int) ((P.length:Int)+(S.length:Int))) (P++T++R)
  |[],S,hs,_,hl=>⟨S,hs,by rw [List.append_nil];exact fN.refl _,by simp,aQ (fun k=>by rw [af.l0]) (bG (by simp at hl;omega) (bY (by simp)))⟩
  | x :: U, S, hs, jy, hl => by
    obtain ⟨T,t1,t2,t3,t4⟩:=XV P x (U++R) b (P.length+S.length) hb (by simp at hl;omega) (jy x (by simp)) S.length S [] rfl (fun s h=>jy s (by simp [h])) (by simpa using hs) (by simp) (by omega)
    obtain ⟨T2,s1,s2,s3,s4⟩:=LQ P R b hb U T t1 (fun s h=>by
      rcases List.mem_append.1 h with h|h
      · have:=t2.symm.mem s h
        exact jy s (by simp at this⊢;rcases this with h|h<;>simp [h])
      · exact jy s (by simp [h])) (by rw [t3];simp at hl⊢;omega)
    refine ⟨T2,s1,fN.trans ?_ s2,by rw [s3,t3];simp;omega,?_⟩
    · have:=t2.app (fN.refl U)
      simpa using this
    · refine aQ (fun k=>by rw [af.l0]) (ay (by simp at hl;omega) ?_)
      have h5:=t4 _ (by
        have h6:=s4
        rw [t3,show (P.length:Int)+((S.length+([]:List ByteArray).length+1:Nat):Int)=((P.length+S.length:Nat):Int)+1 by simp<;>omega,show P++(T++U)++R=P++T++(U++R) by simp] at h6
        exact h6)
      rw [show P++(S++x::U)++R=P++(S++[x])++(U++R) by simp,show (P.length:Int)+(S.length:Int)=((P.length+S.length:Nat):Int) by omega]
      have h7:((P.length+S.length:Nat):Int)=(P.length:Int)+(S.length:Int):=by omega
      rw [←h7] at h5
      exact h5
theorem AT (P S R:List ByteArray) (b:Nat) (hb:b≤4294967296) (jy:NE S) (hl:P.length+S.length=b):∃T,nD k0 T∧fN k0 S T∧T.length=S.length∧Ev (fun k=>af.f k (P++S++R) (P.length:Int) (b:Int)) (P++T++R):=by
  unfold af.f
  rw [fI (by omega) (by omega)]
  cases S with
  | nil =>
    refine ⟨[],List.Pairwise.nil,fN.refl _,rfl,aQ (fun k=>by rw [af.l0]) (bG (by simp at hl;omega) (bY rfl))⟩
  | cons x S =>
    obtain ⟨T,t1,t2,t3,t4⟩:=LQ P R b hb S [x] (List.pairwise_singleton _ _) (by simpa using jy) (by simp at hl⊢;omega)
    exact ⟨T,t1,by simpa using t2,by rw [t3];simp;omega,by simpa using t4⟩
theorem swp (P M Q:List ByteArray) (hb:P.length+M.length+Q.length≤4294967296) (n:Nat) (hn:n≤4294967296):∀(A2 B2 A1 B1:List ByteArray),A1.length=B1.length→A2.length=B2.length→A1.length+A2.length=n→
    Ev (fun k=>aj.l0 k (P++B1++A2++M++A1++B2++Q) (P.length:Int) ((P.length:Int)+(n:Int)+(M.length:Int)) (n:Int) (A1.length:Int)) (P++(B1++B2)++M++(A1++A2)++Q)
  |[],[],A1,B1,h1,_,hl=>aQ (fun k=>by rw [aj.l0]) (bG (by simp at hl;omega) (bY (by simp)))
  | a :: A2, b :: B2, A1, B1, h1, h2, hl => by
    simp only [List.length_cons] at h2 hl
    have e1:P++B1++(a::A2)++M++A1++(b::B2)++Q=(P++B1)++a::(A2++M++A1++b::(B2++Q)):=by simp
    have e2:P++B1++(a::A2)++M++A1++(b::B2)++Q=(P++B1++(a::A2)++M++A1)++b::(B2++Q):=by simp
    have l1:(P++B1).length=P.length+A1.length:=by simp;omega
    have l2:(P++B1++(a::A2)++M++A1).length=P.length+n+M.length+A1.length:=by simp;omega
    have l3:(P++B1++(a::A2)++M++A1++(b::B2)++Q).length=P.length+n+M.length+n+Q.length:=by simp;omega
    have g1:aV ByteArray.empty (P++B1++(a::A2)++M++A1++(b::B2)++Q) ((P.length:Int)+(A1.length:Int))=a:=by rw [e1];exact nh _ _ _ _ (by rw [l1];omega)
    have g2:aV ByteArray.empty (P++B1++(a::A2)++M++A1++(b::B2)++Q) ((P.length:Int)+(n:Int)+(M.length:Int)+(A1.length:Int))=b:=by rw [e2];exact nh _ _ _ _ (by rw [l2];omega)
    refine aQ (fun k=>by rw [aj.l0]) (ay (by omega) ?_)
    rw [fI (x:=(P.length:Int)+(n:Int)+(M.length:Int)+(A1.length:Int)) (by omega) (by omega),fI (x:=(P.length:Int)+(A1.length:Int)) (by omega) (by omega),fI (x:=(A1.length:Int)+1) (by omega) (by omega),g1,g2]
    refine ay (by omega) (ay (by rw [l3];omega) (ay (by omega) (ay (by rw [l3];omega) ?_)))
    have e3:((P++B1++(a::A2)++M++A1++(b::B2)++Q).set ((P.length:Int)+(A1.length:Int)).toNat b).set ((P.length:Int)+(n:Int)+(M.length:Int)+(A1.length:Int)).toNat a=P++(B1++[b])++A2++M++(A1++[a])++B2++Q:=by
      rw [e1,o6 _ _ _ _ _ (by rw [l1];omega),show (P++B1)++b::(A2++M++A1++b::(B2++Q))=(P++B1++(b::A2)++M++A1)++b::(B2++Q) by simp,o6 _ _ _ _ _ (by simp<;>omega)]
      simp
    rw [e3]
    have:=swp P M Q hb n hn A2 B2 (A1++[a]) (B1++[b]) (by simp;omega) (by omega) (by simp;omega)
    rw [show (((A1++[a]).length:Nat):Int)=(A1.length:Int)+1 by simp] at this
    simpa using this
theorem SJ (P A M B Q:List ByteArray) (hb:P.length+M.length+Q.length≤4294967296) (hn:A.length≤4294967296) (h:A.length=B.length) (a b n:Int) (ha:a=P.length) (xV:b=P.length+A.length+M.length) (hn':n=A.length):
    Ev (fun k=>aj.f k (P++A++M++B++Q) a b n) (P++B++M++A++Q):=by
  subst ha xV hn'
  have:=swp P M Q hb A.length hn A B [] [] rfl h (by simp)
  unfold aj.f
  simpa using this
theorem rot (n:Nat):∀(P X Y Q:List ByteArray),X.length+Y.length≤n→0<X.length→0<Y.length→P.length+X.length+Y.length+Q.length≤4294967296→∀m i j:Int,m=P.length+X.length→i=X.length→j=Y.length→Ev (fun k=>aY.l0 k (P++X++Y++Q) m i j) (P++Y++X++Q):=by
  induction n with
  |zero=>intro P X Y Q h hx;omega
  | succ n ih =>
    intro P X Y Q h hx hy hb m i j hm hi hj
    subst hm hi hj
    refine aQ (fun k=>by rw [aY.l0]) ?_
    by_cases q:(X.length:Int)=(Y.length:Int)
    · refine ay q (bI (a:=P++Y++X++Q) ?_ (bY rfl))
      rw [fI (by omega) (by omega)]
      have:=SJ P X [] Y Q (by simp;omega) (by omega) (by omega) ((P.length:Int)+X.length-X.length) ((P.length:Int)+X.length) (X.length:Int) (by omega) (by simp) rfl
      simpa using this
    · refine bG q ?_
      by_cases g:(X.length:Int)>(Y.length:Int)
      · refine ay g ?_
        have hX:X=X.take Y.length++X.drop Y.length:=(List.take_append_drop _ _).symm
        have l1:(X.take Y.length).length=Y.length:=by rw [List.length_take];omega
        have l2:(X.drop Y.length).length=X.length-Y.length:=List.length_drop
        generalize X.take Y.length=X1 at*
        generalize X.drop Y.length=X2 at*
        subst hX
        simp only [List.length_append] at*
        rw [fI (by omega) (by omega),fI (by omega) (by omega)]
        refine bI (a:=P++Y++X2++X1++Q) ?_ ?_
        · have:=SJ P X1 X2 Y Q (by omega) (by omega) l1 ((P.length:Int)+((X1.length+X2.length:Nat):Int)-((X1.length+X2.length:Nat):Int)) ((P.length:Int)+((X1.length+X2.length:Nat):Int)) (Y.length:Int) (by omega) (by omega) (by omega)
          simpa using this
        · have:=ih (P++Y) X2 X1 Q (by omega) (by omega) (by omega) (by simp;omega) ((P.length:Int)+((X1.length+X2.length:Nat):Int)) (((X1.length+X2.length:Nat):Int)-(Y.length:Int)) (Y.length:Int) (by simp;omega) (by omega) (by omega)
          simpa using this
      · refine bG g ?_
        have hY:Y=Y.take (Y.length-X.length)++Y.drop (Y.length-X.length):=(List.take_append_drop _ _).symm
        have l1:(Y.take (Y.length-X.length)).length=Y.length-X.length:=by rw [List.length_take];omega
        have l2:(Y.drop (Y.length-X.length)).length=X.length:=by rw [List.length_drop];omega
        generalize Y.take (Y.length-X.length)=Y1 at*
        generalize Y.drop (Y.length-X.length)=Y2 at*
        subst hY
        simp only [List.length_append] at*
        rw [fI (x:=(P.length:Int)+(X.length:Int)-(X.length:Int)) (by omega) (by omega),fI (x:=(P.length:Int)+(X.length:Int)+((Y1.length+Y2.length:Nat):Int)) (by omega) (by omega),fI (by omega) (by omega),fI (by omega) (by omega)]
        refine bI (a:=P++Y2++Y1++X++Q) ?_ ?_
        · have:=SJ P X Y1 Y2 Q (by omega) (by omega) l2.symm ((P.length:Int)+(X.length:Int)-(X.length:Int)) ((P.length:Int)+(X.length:Int)+((Y1.length+Y2.length:Nat):Int)-(X.length:Int)) (X.length:Int) (by omega) (by omega) rfl
          simpa using this
        · have:=ih P Y2 Y1 (X++Q) (by omega) (by omega) (by omega) (by simp;omega) ((P.length:Int)+(X.length:Int)) (X.length:Int) (((Y1.length+Y2.length:Nat):Int)-(X.length:Int)) (by omega) (by omega) (by omega)
          simpa using this
theorem acI (P X Y Q:List ByteArray) (hx:0<X.length) (hy:0<Y.length) (hb:P.length+X.length+Y.length+Q.length≤4294967296) (a m b:Int) (ha:a=P.length) (hm:m=P.length+X.length) (xV:b=P.length+X.length+Y.length):Ev (fun k=>aY.f k (P++X++Y++Q) a m b) (P++Y++X++Q):=by
  unfold aY.f
  subst ha hm xV
  rw [fI (by omega) (by omega),fI (by omega) (by omega)]
  exact rot _ P X Y Q (Nat.le_refl _) hx hy hb _ _ _ rfl (by omega) (by omega)
theorem GX (i j:Nat) (h:i+j≤9223372036854775807):wrap64 ((IntKind.u64.wrap (wrap64 ((i:Int)+(j:Int))))/2)=(((i+j)/2:Nat):Int):=by
  rw [fI (x:=(i:Int)+(j:Int)) (by omega) (by omega),ng _ (by omega) (by omega),fI (by omega) (by omega)]
  omega
theorem mB {B:List ByteArray} (h:nD k0 B) (t u:Nat) (htu:t≤u) (hu:u<B.length):k0 (B.getD t ByteArray.empty)≤k0 (B.getD u ByteArray.empty):=by
  rw [List.getD_eq_getElem?_getD,List.getD_eq_getElem?_getD,List.getElem?_eq_getElem hu,List.getElem?_eq_getElem (by omega)]
  rcases Nat.lt_or_eq_of_le htu with h1|h1
  · exact List.pairwise_iff_getElem.1 h t u (by omega) hu h1
  · subst h1;exact Int.le_refl _
theorem tZ (P B R:List ByteArray) (t:Nat) (h:t<B.length) (i:Int) (hi:i=((P.length+t:Nat):Int)):aV ByteArray.empty (P++B++R) i=B.getD t ByteArray.empty:=by
  subst hi
  unfold aV
  rw [Int.toNat_natCast,List.append_assoc,List.getD_eq_getElem?_getD,List.getElem?_append_right (by omega),List.getElem?_append_left (by omega),List.getD_eq_getElem?_getD]
  congr 2
  omega
theorem BV (B:List ByteArray) (t:Nat) (h:t<B.length):B.getD t ByteArray.empty∈B:=by
  rw [List.getD_eq_getElem?_getD,List.getElem?_eq_getElem h]
  exact List.getElem_mem h
theorem up (P:List ByteArray) (x:ByteArray) (R:List ByteArray) (hb:P.length≤4294967296):∀(B D:List ByteArray),D.length+B.length≤4294967296→Ev (fun k=>aa.l1 k (P++D++x::(B++R)) (((P.length+D.length+B.length:Nat):Int)+1) ((P.length:Int)+(D.length:Int))) (P++(D++B)++x::R)
  | [], D, hl => by
    refine aQ (fun k=>by rw [aa.l1]) ?_
    rw [fI (by simp at*;omega) (by simp at*;omega)]
    exact bG (by simp<;>omega) (bY (by simp))
  | y :: B, D, hl => by
    simp only [List.length_cons] at hl
    have e1:P++D++x::(y::B++R)=(P++D)++x::(y::(B++R)):=by simp
    have e2:P++D++x::(y::B++R)=(P++D++[x])++y::(B++R):=by simp
    have g1:aV ByteArray.empty (P++D++x::(y::B++R)) ((P.length:Int)+(D.length:Int))=x:=by rw [e1];exact nh _ _ _ _ (by simp)
    have g2:aV ByteArray.empty (P++D++x::(y::B++R)) ((P.length:Int)+(D.length:Int)+1)=y:=by rw [e2];exact nh _ _ _ _ (by simp<;>omega)
    have l3:(P++D++x::(y::B++R)).length=P.length+D.length+B.length+2+R.length:=by simp;omega
    refine aQ (fun k=>by rw [aa.l1]) ?_
    rw [fI (x:=(((P.length+D.length+(y::B).length:Nat):Int)+1)-1) (by simp;omega) (by simp;omega),fI (x:=(P.length:Int)+(D.length:Int)+1) (by omega) (by omega),g1,g2]
    refine ay (by simp;omega) (ay (by omega) (ay (by rw [l3];omega) (ay (by omega) (ay (by rw [l3];omega) ?_))))
    have e3:((P++D++x::(y::B++R)).set ((P.length:Int)+(D.length:Int)).toNat y).set ((P.length:Int)+(D.length:Int)+1).toNat x=P++(D++[y])++x::(B++R):=by
      rw [e1,o6 _ _ _ _ _ (by simp),show (P++D)++y::(y::(B++R))=(P++D++[y])++y::(B++R) by simp,o6 _ _ _ _ _ (by simp<;>omega)]
      simp
    rw [e3]
    have:=up P x R hb B (D++[y]) (by simp;omega)
    rw [show (((P.length+(D++[y]).length+B.length:Nat):Int)+1)=(((P.length+D.length+(y::B).length:Nat):Int)+1) by simp;omega,show (P.length:Int)+((D++[y]).length:Int)=(P.length:Int)+(D.length:Int)+1 by simp;omega,show P++(D++[y]++B)++x::R=P++(D++y::B)++x::R by simp] at this
    exact this
theorem upF (P:List ByteArray) (x:ByteArray) (B R:List ByteArray) (hb:P.length≤4294967296) (hB:B.length≤4294967296) (i j:Int) (hi:i=P.length+B.length+1) (hj:j=P.length):Ev (fun k=>aa.l1 k (P++x::(B++R)) i j) (P++B++x::R):=by
  subst hi hj
  have:=up P x R hb B [] (by simpa using hB)
  simpa using this
theorem down (P:List ByteArray) (x:ByteArray) (R:List ByteArray) (hb:P.length≤4294967296) (n:Nat):∀(A D:List ByteArray),A.length=n→A.length≤4294967296→Ev (fun k=>aa.l3 k (P++A++x::(D++R)) (P.length:Int) ((P.length:Int)+(A.length:Int))) (P++x::(A++D++R)):=by
  induction n with
  | zero =>
    intro A D hn _
    obtain rfl:=List.length_eq_zero_iff.1 hn
    exact aQ (fun k=>by rw [aa.l3]) (bG (by simp) (bY (by simp)))
  | succ n ih =>
    intro A D hn hA
    obtain ⟨S,y,rfl⟩:∃S y,A=S++[y]:=⟨A.dropLast,A.getLast (by intro e;rw [e] at hn;cases hn),(List.dropLast_concat_getLast _).symm⟩
    have hl:(S++[y]).length=S.length+1:=by simp
    have e1:P++(S++[y])++x::(D++R)=(P++S++[y])++x::(D++R):=by simp
    have e2:P++(S++[y])++x::(D++R)=(P++S)++y::(x::(D++R)):=by simp
    have g1:aV ByteArray.empty (P++(S++[y])++x::(D++R)) ((P.length:Int)+((S++[y]).length:Int))=x:=by rw [e1];exact nh _ _ _ _ (by simp<;>omega)
    have g2:aV ByteArray.empty (P++(S++[y])++x::(D++R)) ((P.length:Int)+((S++[y]).length:Int)-1)=y:=by rw [e2];exact nh _ _ _ _ (by simp<;>omega)
    have l3:(P++(S++[y])++x::(D++R)).length=P.length+S.length+2+D.length+R.length:=by simp;omega
    refine aQ (fun k=>by rw [aa.l3]) ?_
    rw [fI (x:=(P.length:Int)+((S++[y]).length:Int)-1) (by omega) (by omega),g1,g2]
    refine ay (by omega) (ay (by omega) (ay (by rw [l3];omega) (ay (by omega) (ay (by rw [l3];omega) ?_))))
    have e3:((P++(S++[y])++x::(D++R)).set ((P.length:Int)+((S++[y]).length:Int)).toNat y).set ((P.length:Int)+((S++[y]).length:Int)-1).toNat x=P++S++x::((y::D)++R):=by
      rw [e1,o6 _ _ _ _ _ (by simp<;>omega),show (P++S++[y])++y::(D++R)=(P++S)++y::(y::(D++R)) by simp,o6 _ _ _ _ _ (by simp<;>omega)]
      simp
    rw [e3]
    have:=ih S (y::D) (by omega) (by omega)
    rw [show (P.length:Int)+((S++[y]).length:Int)-1=(P.length:Int)+(S.length:Int) by omega,show P++x::(S++[y]++D++R)=P++x::(S++y::D++R) by simp]
    exact this
theorem YX (P A:List ByteArray) (x:ByteArray) (R:List ByteArray) (hb:P.length≤4294967296) (hA:A.length≤4294967296) (i j:Int) (hi:i=P.length) (hj:j=P.length+A.length):Ev (fun k=>aa.l3 k (P++A++x::R) i j) (P++x::(A++R)):=by
  subst hi hj
  have:=down P x R hb A.length A [] rfl hA
  simpa using this
theorem uP {A T:List ByteArray} (h1:nD k0 T) (h2:fN k0 A T):T=mW k0 A:=K8 h1 h2
theorem YH (P:List ByteArray) (x:ByteArray) (B Q:List ByteArray) (hx:0<x.size) (jy:NE B) (hB:nD k0 B) (hb:P.length+B.length+Q.length≤2147483648) (r:List ByteArray):∀(n lo hi:Nat),hi-lo≤n→lo≤hi→hi≤B.length→(∀t,t<lo→k0 (B.getD t ByteArray.empty)<k0 x)→(∀t,hi≤t→t<B.length→k0 x≤k0 (B.getD t ByteArray.empty))→
    Ev (fun k=>aa.l0 k (P++x::(B++Q)) (P.length:Int) (((P.length+1+lo:Nat):Int)) (((P.length+1+hi:Nat):Int))) (P++mW k0 (x::B)++Q):=by
  intro n
  induction n with
  | zero =>
    intro lo hi h0 h1 h2 h3 h4
    obtain rfl:lo=hi:=by omega
    refine aQ (fun k=>by rw [aa.l0]) (bG (by omega) ?_)
    have e:B=B.take lo++B.drop lo:=(List.take_append_drop _ _).symm
    have hl:(B.take lo).length=lo:=by rw [List.length_take];omega
    have a1:∀y∈B.take lo,k0 y<k0 x:=by
      intro y hy
      obtain ⟨t,ht,rfl⟩:=List.getElem_of_mem hy
      have:=h3 t (by omega)
      rw [List.getD_eq_getElem?_getD,List.getElem?_eq_getElem (by omega)] at this
      simpa using this
    have a2:∀y∈B.drop lo,k0 x≤k0 y:=by
      intro y hy
      obtain ⟨t,ht,rfl⟩:=List.getElem_of_mem hy
      have XZ:lo+t<B.length:=by rw [List.length_drop] at ht;omega
      have:=h4 (lo+t) (by omega) XZ
      rw [List.getD_eq_getElem?_getD,List.getElem?_eq_getElem XZ] at this
      simpa using this
    rw [e] at hB⊢
    generalize B.take lo=B1 at*
    generalize B.drop lo=B2 at*
    have hT:B1++x::B2=mW k0 (x::(B1++B2)):=by
      refine uP (nD.app hB.left (List.pairwise_cons.2 ⟨a2,hB.right⟩) ?_) ?_
      · intro a ha b xV
        rcases List.mem_cons.1 xV with rfl|xV
        · exact Int.le_of_lt (a1 a ha)
        · exact hB.le a ha b xV
      · have:=(fN.swap (key:=k0) (A:=[x]) (B:=B1) (by
          intro a ha b xV
          rw [List.mem_singleton.1 ha]
          have:=a1 b xV;omega)).app (fN.refl B2)
        simpa using this
    rw [←hT]
    have:=upF P x B1 (B2++Q) (by omega) (by omega) ((P.length+1+lo:Nat):Int) (P.length:Int) (by omega) rfl
    simpa using this
  | succ n ih =>
    intro lo hi h0 h1 h2 h3 h4
    by_cases q:lo=hi
    · exact ih lo hi (by omega) h1 h2 h3 h4
    · refine aQ (fun k=>by rw [aa.l0]) (ay (by omega) ?_)
      have ec:(P.length+1+lo+(P.length+1+hi))/2=P.length+1+(lo+hi)/2:=by omega
      rw [GX _ _ (by omega),ec]
      have mY:lo≤(lo+hi)/2:=by omega
      have hc2:(lo+hi)/2<hi:=by omega
      generalize (lo+hi)/2=c at*
      have g1:aV ByteArray.empty (P++x::(B++Q)) ((P.length+1+c:Nat):Int)=B.getD c ByteArray.empty:=by
        have:=tZ (P++[x]) B Q c (by omega) ((P.length+1+c:Nat):Int) (by simp)
        simpa using this
      have g2:aV ByteArray.empty (P++x::(B++Q)) (P.length:Int)=x:=nh _ _ _ _ rfl
      have l3:(P++x::(B++Q)).length=P.length+1+B.length+Q.length:=by simp;omega
      refine ay (by omega) (ay (by rw [l3];omega) (ay (by omega) (ay (by rw [l3];omega) (jl (by rw [g1,g2];exact Dy _ x (jy _ (BV B c (by omega))) hx) ?_))))
      by_cases g:k0 (B.getD c ByteArray.empty)<k0 x
      · refine ay (by omega) ?_
        rw [fI (by omega) (by omega),show ((P.length+1+c:Nat):Int)+1=((P.length+1+(c+1):Nat):Int) by omega]
        refine ih (c+1) hi (by omega) (by omega) h2 (fun t ht=> ?_) h4
        have:=mB hB t c (by omega) (by omega)
        omega
      · refine bG (by omega) ?_
        refine ih lo c (by omega) (by omega) (by omega) h3 (fun t ht htl=> ?_)
        have:=mB hB c t ht htl
        omega
theorem YG (P A:List ByteArray) (x:ByteArray) (Q:List ByteArray) (hx:0<x.size) (jy:NE A) (hA:nD k0 A) (hb:P.length+A.length+Q.length≤2147483648):∀(n lo hi:Nat),hi-lo≤n→lo≤hi→hi≤A.length→(∀t,t<lo→k0 (A.getD t ByteArray.empty)≤k0 x)→(∀t,hi≤t→t<A.length→k0 x<k0 (A.getD t ByteArray.empty))→
    Ev (fun k=>aa.l2 k (P++A++x::Q) ((P.length+A.length:Nat):Int) ((P.length+lo:Nat):Int) ((P.length+hi:Nat):Int)) (P++mW k0 (A++[x])++Q):=by
  intro n
  induction n with
  | zero =>
    intro lo hi h0 h1 h2 h3 h4
    obtain rfl:lo=hi:=by omega
    refine aQ (fun k=>by rw [aa.l2]) (bG (by omega) ?_)
    have e:A=A.take lo++A.drop lo:=(List.take_append_drop _ _).symm
    have hl:(A.take lo).length=lo:=by rw [List.length_take];omega
    have hl2:(A.drop lo).length=A.length-lo:=List.length_drop
    have a1:∀y∈A.take lo,k0 y≤k0 x:=by
      intro y hy
      obtain ⟨t,ht,rfl⟩:=List.getElem_of_mem hy
      have:=h3 t (by omega)
      rw [List.getD_eq_getElem?_getD,List.getElem?_eq_getElem (by omega)] at this
      simpa using this
    have a2:∀y∈A.drop lo,k0 x<k0 y:=by
      intro y hy
      obtain ⟨t,ht,rfl⟩:=List.getElem_of_mem hy
      have XZ:lo+t<A.length:=by omega
      have:=h4 (lo+t) (by omega) XZ
      rw [List.getD_eq_getElem?_getD,List.getElem?_eq_getElem XZ] at this
      simpa using this
    rw [e] at hA⊢
    generalize A.take lo=A1 at*
    generalize A.drop lo=A2 at*
    subst e
    have hT:A1++x::A2=mW k0 (A1++A2++[x]):=by
      refine uP (nD.app hA.left (List.pairwise_cons.2 ⟨fun y hy=>Int.le_of_lt (a2 y hy),hA.right⟩) ?_) ?_
      · intro a ha b xV
        rcases List.mem_cons.1 xV with rfl|xV
        · exact a1 a ha
        · exact hA.le a ha b xV
      · have:=(fN.refl (key:=k0) A1).app (fN.swap (key:=k0) (A:=A2) (B:=[x]) (by
          intro a ha b xV
          rw [List.mem_singleton.1 xV]
          have:=a2 a ha;omega))
        simpa using this
    rw [←hT]
    have:=YX (P++A1) A2 x Q (by simp;omega) (by omega) ((P.length+lo:Nat):Int) ((P.length+(A1++A2).length:Nat):Int) (by simp;omega) (by simp;omega)
    simpa using this
  | succ n ih =>
    intro lo hi h0 h1 h2 h3 h4
    by_cases q:lo=hi
    · exact ih lo hi (by omega) h1 h2 h3 h4
    · refine aQ (fun k=>by rw [aa.l2]) (ay (by omega) ?_)
      have ec:(P.length+lo+(P.length+hi))/2=P.length+(lo+hi)/2:=by omega
      rw [GX _ _ (by omega),ec]
      have mY:lo≤(lo+hi)/2:=by omega
      have hc2:(lo+hi)/2<hi:=by omega
      generalize (lo+hi)/2=c at*
      have g1:aV ByteArray.empty (P++A++x::Q) ((P.length+c:Nat):Int)=A.getD c ByteArray.empty:=tZ P A (x::Q) c (by omega) _ rfl
      have g2:aV ByteArray.empty (P++A++x::Q) ((P.length+A.length:Nat):Int)=x:=nh (P++A) _ _ _ (by simp)
      have l3:(P++A++x::Q).length=P.length+A.length+1+Q.length:=by simp;omega
      refine ay (by omega) (ay (by rw [l3];omega) (ay (by omega) (ay (by rw [l3];omega) (jl (by rw [g1,g2];exact Dy x _ hx (jy _ (BV A c (by omega)))) ?_))))
      by_cases g:k0 x<k0 (A.getD c ByteArray.empty)
      · refine ay (by omega) ?_
        refine ih lo c (by omega) (by omega) (by omega) h3 (fun t ht htl=> ?_)
        have:=mB hA c t ht htl
        omega
      · refine bG (by omega) ?_
        rw [fI (by omega) (by omega),show ((P.length+c:Nat):Int)+1=((P.length+(c+1):Nat):Int) by omega]
        refine ih (c+1) hi (by omega) (by omega) h2 (fun t ht=> ?_) h4
        have:=mB hA t c (by omega) (by omega)
        omega
theorem cutAt (P A B Q:List ByteArray) (hA:nD k0 A) (hB:nD k0 B) (nA:NE A) (nB:NE B) (hb:P.length+A.length+B.length+Q.length≤1073741824) (s0 r0 mid:Nat) (TM:mid=(P.length+(P.length+A.length+B.length))/2)
    (oX:s0=if P.length+A.length>mid then mid+(P.length+A.length)-(P.length+A.length+B.length) else P.length) (eT:r0=if P.length+A.length>mid then mid else P.length+A.length) (a2 a3:Int) (F:List ByteArray)
    (xU:∀s:Nat,s0≤s→s≤r0→(∀c,s0≤c→c<s→k0 (A.getD (c-P.length) ByteArray.empty)≤k0 (B.getD (mid-1-c) ByteArray.empty))→(∀c,s≤c→c<r0→k0 (B.getD (mid-1-c) ByteArray.empty)<k0 (A.getD (c-P.length) ByteArray.empty))→
      Ev (fun k=>if (s:Int)<a2 then (aa.j6 k (P++A++B++Q) (P.length:Int) a2 a3 (mid:Int) (s:Int) (wrap64 (((mid+(P.length+A.length):Nat):Int)-(s:Int))) (decide (a2<(wrap64 (((mid+(P.length+A.length):Nat):Int)-(s:Int)))))) else (aa.j6 k (P++A++B++Q) (P.length:Int) a2 a3 (mid:Int) (s:Int) (wrap64 (((mid+(P.length+A.length):Nat):Int)-(s:Int))) false)) F):
    ∀ (n lo hi : Nat), hi - lo ≤ n → s0 ≤ lo → lo ≤ hi → hi ≤ r0 → (∀ c, s0 ≤ c → c < lo → k0 (A.getD (c - P.length) ByteArray.empty) ≤ k0 (B.getD (mid - 1 - c) ByteArray.empty)) → (∀ c, hi ≤ c → c < r0 → k0 (B.getD (mid - 1 - c) ByteArray.empty) < k0 (A.getD (c - P.length) ByteArray.empty)) →
      Ev (fun k=>aa.l4 k (P++A++B++Q) (P.length:Int) a2 a3 (mid:Int) ((mid+(P.length+A.length):Nat):Int) (lo:Int) (hi:Int) (((mid+(P.length+A.length):Nat):Int)-1)) F:=by
  intro n
  induction n with
  | zero =>
    intro lo hi h0 h1 h2 h3 h4 h5
    obtain rfl:lo=hi:=by omega
    exact aQ (fun k=>by rw [aa.l4]) (bG (by omega) (xU lo h1 h3 h4 h5))
  | succ n ih =>
    intro lo hi h0 h1 h2 h3 h4 h5
    by_cases q:lo=hi
    · exact ih lo hi (by omega) h1 h2 h3 h4 h5
    · refine aQ (fun k=>by rw [aa.l4]) (ay (by omega) ?_)
      rw [GX _ _ (by split at eT<;>omega)]
      have mY:lo≤(lo+hi)/2:=by omega
      have hc2:(lo+hi)/2<hi:=by omega
      generalize (lo+hi)/2=c at*
      have hca:P.length≤c∧c<P.length+A.length∧c<mid∧mid-1-c<B.length:=by split at oX<;>split at eT<;>omega
      have g1:aV ByteArray.empty (P++A++B++Q) (wrap64 (((mid+(P.length+A.length):Nat):Int)-1-(c:Int)))=B.getD (mid-1-c) ByteArray.empty:=by
        rw [fI (by omega) (by omega)]
        exact tZ (P++A) B Q (mid-1-c) (by omega) _ (by simp;omega)
      have g2:aV ByteArray.empty (P++A++B++Q) (c:Int)=A.getD (c-P.length) ByteArray.empty:=by
        have:=tZ P A (B++Q) (c-P.length) (by omega) (c:Int) (by omega)
        simpa using this
      have l3:(P++A++B++Q).length=P.length+A.length+B.length+Q.length:=by simp;omega
      have w1:wrap64 (((mid+(P.length+A.length):Nat):Int)-1-(c:Int))=(((mid+(P.length+A.length):Nat):Int)-1-(c:Int)):=fI (by omega) (by omega)
      refine ay (by rw [w1];omega) (ay (by rw [w1,l3];omega) (ay (by omega) (ay (by rw [l3];omega) (jl (by rw [g1,g2];exact Dy _ _ (nB _ (BV B _ (by omega))) (nA _ (BV A _ (by omega)))) ?_))))
      by_cases g:k0 (B.getD (mid-1-c) ByteArray.empty)<k0 (A.getD (c-P.length) ByteArray.empty)
      · refine ay (by omega) ?_
        refine ih lo c (by omega) h1 (by omega) (by omega) h4 (fun d hd hdr=> ?_)
        have hda:d<P.length+A.length∧d<mid:=by split at eT<;>omega
        have m1:=mB hA (c-P.length) (d-P.length) (by omega) (by omega)
        have m2:=mB hB (mid-1-d) (mid-1-c) (by omega) (by omega)
        omega
      · refine bG (by omega) ?_
        rw [fI (by omega) (by omega),show ((c:Int)+1)=((c+1:Nat):Int) by omega]
        refine ih (c+1) hi (by omega) (by omega) (by omega) h3 (fun d hd hdr=> ?_) h5
        have hda:P.length≤d∧mid-1-d<B.length:=by split at oX<;>split at eT<;>omega
        have m1:=mB hA (d-P.length) (c-P.length) (by omega) (by omega)
        have m2:=mB hB (mid-1-c) (mid-1-d) (by omega) (by omega)
        omega
theorem G2 {A:List ByteArray} {v:Int} (h:∀t,t<A.length→k0 (A.getD t ByteArray.empty)≤v):∀y∈A,k0 y≤v:=by
  intro y hy
  obtain ⟨t,ht,rfl⟩:=List.getElem_of_mem hy
  have:=h t ht
  rwa [List.getD_eq_getElem?_getD,List.getElem?_eq_getElem ht] at this
theorem G3 {A:List ByteArray} {v:Int} (h:∀t,t<A.length→v≤k0 (A.getD t ByteArray.empty)):∀y∈A,v≤k0 y:=by
  intro y hy
  obtain ⟨t,ht,rfl⟩:=List.getElem_of_mem hy
  have:=h t ht
  rwa [List.getD_eq_getElem?_getD,List.getElem?_eq_getElem ht] at this
theorem H8 (A:List ByteArray) (n t:Nat) (h:t<n):(A.take n).getD t ByteArray.empty=A.getD t ByteArray.empty:=by
  rw [List.getD_eq_getElem?_getD,List.getElem?_take_of_lt h,List.getD_eq_getElem?_getD]
theorem H9 (A:List ByteArray) (n t:Nat):(A.drop n).getD t ByteArray.empty=A.getD (n+t) ByteArray.empty:=by
  rw [List.getD_eq_getElem?_getD,List.getElem?_drop,List.getD_eq_getElem?_getD]
theorem jM (A:List ByteArray):(mW k0 A).length=A.length:=by
  induction hn:A.length generalizing A with
  |zero=>rw [List.length_eq_zero_iff.1 hn];rfl
  | succ n ih =>
    obtain ⟨S,y,rfl⟩:∃S y,A=S++[y]:=⟨A.dropLast,A.getLast (by intro e;rw [e] at hn;cases hn),(List.dropLast_concat_getLast _).symm⟩
    rw [CS,xQ,ih S (by simpa using hn)]
theorem oF {A:List ByteArray} (h:nD k0 A):mW k0 A=A:=(uP h (fN.refl A)).symm
theorem NE.mW {A:List ByteArray} (h:NE A):NE (mW k0 A):=fun x hx=>h x (Au hx)
theorem merge:∀(n:Nat) (P A B Q:List ByteArray),A.length+B.length≤n→0<A.length→0<B.length→nD k0 A→nD k0 B→NE A→NE B→P.length+A.length+B.length+Q.length≤1073741824→∀a m b:Int,a=P.length→m=P.length+A.length→b=P.length+A.length+B.length→
    Ev (fun k=>aa.f k (P++A++B++Q) a m b) (P++mW k0 (A++B)++Q):=by
  intro n
  induction n with
  |zero=>intro P A B Q h ha;omega
  | succ n ih =>
    intro P A B Q hn hA0 hB0 hA hB nA nB hb a m b ha hm xV
    subst ha hm xV
    refine aQ (fun k=>by rw [aa.f]) ?_
    rw [fI (x:=(P.length:Int)+(A.length:Int)-(P.length:Int)) (by omega) (by omega),fI (x:=(P.length:Int)+(A.length:Int)+(B.length:Int)-((P.length:Int)+(A.length:Int))) (by omega) (by omega)]
    by_cases q1:A.length=1
    · obtain ⟨x,rfl⟩:=List.length_eq_one_iff.1 q1
      refine ay (by omega) ?_
      have:=YH P x B Q (nA x (by simp)) nB hB (by omega) [] B.length 0 B.length (by omega) (by omega) (Nat.le_refl _) (fun t ht=>absurd ht (Nat.not_lt_zero _)) (fun t h1 h2=>absurd h2 (by omega))
      rw [show ((P.length+1+0:Nat):Int)=(P.length:Int)+(([x]:List ByteArray).length:Int) by simp,show ((P.length+1+B.length:Nat):Int)=(P.length:Int)+(([x]:List ByteArray).length:Int)+(B.length:Int) by simp] at this
      simpa using this
    · refine bG (by omega) ?_
      by_cases q2:B.length=1
      · obtain ⟨x,rfl⟩:=List.length_eq_one_iff.1 q2
        refine ay (by simp<;>omega) ?_
        have:=YG P A x Q (nB x (by simp)) nA hA (by simp at hb;omega) A.length 0 A.length (by omega) (by omega) (Nat.le_refl _) (fun t ht=>absurd ht (Nat.not_lt_zero _)) (fun t h1 h2=>absurd h2 (by omega))
        rw [show ((P.length+0:Nat):Int)=(P.length:Int) by simp,show ((P.length+A.length:Nat):Int)=(P.length:Int)+(A.length:Int) by omega] at this
        simpa using this
      · refine bG (by omega) ?_
        rw [show (P.length:Int)+((P.length:Int)+(A.length:Int)+(B.length:Int))=((P.length:Nat):Int)+((P.length+A.length+B.length:Nat):Int) by omega,GX _ _ (by omega)]
        have hmd:∃mid,mid=(P.length+(P.length+A.length+B.length))/2:=⟨_,rfl⟩
        obtain ⟨mid,TM⟩:=hmd
        rw [←TM]
        rw [show (mid:Int)+((P.length:Int)+(A.length:Int))=((mid+(P.length+A.length):Nat):Int) by omega,fI (x:=((mid+(P.length+A.length):Nat):Int)) (by omega) (by omega)]
        have C:=cutAt P A B Q hA hB nA nB hb _ _ mid TM rfl rfl ((P.length:Int)+(A.length:Int)) ((P.length:Int)+(A.length:Int)+(B.length:Int)) (P++mW k0 (A++B)++Q) (fun s TD Dj hl hr=> ?_)
        · by_cases q3:P.length+A.length>mid
          · refine ay (by omega) (aQ (fun k=>by rw [aa.j4]) ?_)
            rw [if_pos q3,if_pos q3] at C
            have:=C _ (mid+(P.length+A.length)-(P.length+A.length+B.length)) mid (Nat.le_refl _) (Nat.le_refl _) (by omega) (Nat.le_refl _) (fun c h1 h2=>absurd h2 (by omega)) (fun c h1 h2=>absurd h2 (by omega))
            rw [fI (x:=((mid+(P.length+A.length):Nat):Int)-1) (by omega) (by omega),fI (by omega) (by omega),show ((mid+(P.length+A.length):Nat):Int)-((P.length:Int)+(A.length:Int)+(B.length:Int))=((mid+(P.length+A.length)-(P.length+A.length+B.length):Nat):Int) by omega]
            exact this
          · refine bG (by omega) (aQ (fun k=>by rw [aa.j4]) ?_)
            rw [if_neg q3,if_neg q3] at C
            have:=C _ P.length (P.length+A.length) (Nat.le_refl _) (Nat.le_refl _) (by omega) (Nat.le_refl _) (fun c h1 h2=>absurd h2 (by omega)) (fun c h1 h2=>absurd h2 (by omega))
            rw [fI (x:=((mid+(P.length+A.length):Nat):Int)-1) (by omega) (by omega),show (P.length:Int)+(A.length:Int)=((P.length+A.length:Nat):Int) by omega] at*
            exact this
        ·
          have hsb:P.length≤s∧s≤P.length+A.length∧s≤mid∧mid-s≤B.length:=by split at TD<;>split at Dj<;>omega
          have eA:A=A.take (s-P.length)++A.drop (s-P.length):=(List.take_append_drop _ _).symm
          have eB:B=B.take (mid-s)++B.drop (mid-s):=(List.take_append_drop _ _).symm
          have lA1:(A.take (s-P.length)).length=s-P.length:=by rw [List.length_take];omega
          have lA2:(A.drop (s-P.length)).length=P.length+A.length-s:=by rw [List.length_drop];omega
          have lB1:(B.take (mid-s)).length=mid-s:=by rw [List.length_take];omega
          have lB2:(B.drop (mid-s)).length=B.length-(mid-s):=List.length_drop
          have r1:∀x∈A.drop (s-P.length),∀y∈B.take (mid-s),k0 y<k0 x:=by
            intro x hx y hy
            have Fk:0<(A.drop (s-P.length)).length:=List.length_pos_of_mem hx
            have nK:0<(B.take (mid-s)).length:=List.length_pos_of_mem hy
            have hsr:s<(if P.length+A.length>mid then mid else P.length+A.length):=by split<;>omega
            have h1:=hr s (Nat.le_refl _) hsr
            have h2:∀y∈B.take (mid-s),k0 y≤k0 (B.getD (mid-1-s) ByteArray.empty):=G2 (fun t ht=>by
              rw [H8 _ _ _ (by omega)]
              exact mB hB t (mid-1-s) (by omega) (by omega))
            have h3:∀x∈A.drop (s-P.length),k0 (A.getD (s-P.length) ByteArray.empty)≤k0 x:=G3 (fun t ht=>by
              rw [H9]
              exact mB hA (s-P.length) (s-P.length+t) (by omega) (by omega))
            have:=h2 y hy
            have:=h3 x hx
            omega
          have r2:∀x∈A.take (s-P.length),∀y∈B.drop (mid-s),k0 x≤k0 y:=by
            intro x hx y hy
            have Fk:0<(A.take (s-P.length)).length:=List.length_pos_of_mem hx
            have nK:0<(B.drop (mid-s)).length:=List.length_pos_of_mem hy
            have hsr:(if P.length+A.length>mid then mid+(P.length+A.length)-(P.length+A.length+B.length) else P.length)≤s-1:=by split<;>omega
            have h1:=hl (s-1) hsr (by omega)
            have h2:∀x∈A.take (s-P.length),k0 x≤k0 (A.getD (s-1-P.length) ByteArray.empty):=G2 (fun t ht=>by
              rw [H8 _ _ _ (by omega)]
              exact mB hA t (s-1-P.length) (by omega) (by omega))
            have h3:∀y∈B.drop (mid-s),k0 (B.getD (mid-1-(s-1)) ByteArray.empty)≤k0 y:=G3 (fun t ht=>by
              rw [H9]
              exact mB hB (mid-1-(s-1)) (mid-s+t) (by omega) (by omega))
            have:=h2 x hx
            have:=h3 y hy
            omega
          have hAB:A.length=(A.take (s-P.length)).length+(A.drop (s-P.length)).length∧B.length=(B.take (mid-s)).length+(B.drop (mid-s)).length:=by omega
          clear hl hr TD Dj
          generalize A.take (s-P.length)=A1 at*
          generalize A.drop (s-P.length)=A2 at*
          generalize B.take (mid-s)=B1 at*
          generalize B.drop (mid-s)=B2 at*
          subst eA eB
          clear hAB
          simp only [List.length_append] at*
          have sA1:=hA.left;have sA2:=hA.right;have sB1:=hB.left;have sB2:=hB.right
          have nA1:NE A1:=fun x h=>nA x (by simp [h])
          have nA2:NE A2:=fun x h=>nA x (by simp [h])
          have nB1:NE B1:=fun x h=>nB x (by simp [h])
          have nB2:NE B2:=fun x h=>nB x (by simp [h])
          have key:mW k0 (A1++B1)++mW k0 (A2++B2)=mW k0 (A1++A2++(B1++B2)):=by
            refine uP (nD.app (kQ _).1 (kQ _).1 ?_) ?_
            · intro x hx y hy
              have hx:=Au hx
              have hy:=Au hy
              rcases List.mem_append.1 hx with hx|hx<;>rcases List.mem_append.1 hy with hy|hy
              · exact hA.le x hx y hy
              · exact r2 x hx y hy
              · exact Int.le_of_lt (r1 y hy x hx)
              · exact hB.le x hx y hy
            · have h1:=((fN.refl (key:=k0) A1).app (fN.swap (key:=k0) (A:=A2) (B:=B1) (fun a ha b hb=>by have:=r1 a ha b hb;omega))).app (fN.refl B2)
              have h2:=(kQ (key:=k0) (A1++B1)).2.app (kQ (key:=k0) (A2++B2)).2
              refine fN.trans ?_ h2
              simpa using h1
          rw [←key,show ((P.length:Int)+((A1.length+A2.length:Nat):Int))=(s:Int)+(A2.length:Int) by omega,fI (x:=((mid+(P.length+(A1.length+A2.length)):Nat):Int)-(s:Int)) (by omega) (by omega),show ((mid+(P.length+(A1.length+A2.length)):Nat):Int)-(s:Int)=(mid:Int)+(A2.length:Int) by omega]
          have J7:Ev (fun k=>aa.j7 k (P++A1++B1++A2++B2++Q) (P.length:Int) ((s:Int)+(A2.length:Int)+((B1.length+B2.length:Nat):Int)) (mid:Int) (s:Int) ((mid:Int)+(A2.length:Int))) (P++(mW k0 (A1++B1)++mW k0 (A2++B2))++Q):=by
            refine aQ (fun k=>by rw [aa.j7]) ?_
            have R8:∀(T:List ByteArray),T.length=A1.length+B1.length→Ev (fun k=>if (mid:Int)<(mid:Int)+(A2.length:Int) then (if (mid:Int)+(A2.length:Int)<(s:Int)+(A2.length:Int)+((B1.length+B2.length:Nat):Int) then ((aa.f k (P++T++A2++B2++Q) (mid:Int) ((mid:Int)+(A2.length:Int)) ((s:Int)+(A2.length:Int)+((B1.length+B2.length:Nat):Int))).bind fun acB=>(some acB)) else (some (P++T++A2++B2++Q))) else (some (P++T++A2++B2++Q))) (P++(T++mW k0 (A2++B2))++Q):=by
              intro T hT
              by_cases z1:0<A2.length
              · refine ay (by omega) ?_
                by_cases z2:0<B2.length
                · refine ay (by omega) (bI (a:=P++(T++mW k0 (A2++B2))++Q) ?_ (bY rfl))
                  have:=ih (P++T) A2 B2 Q (by omega) z1 z2 sA2 sB2 nA2 nB2 (by simp;omega) (mid:Int) ((mid:Int)+(A2.length:Int)) ((s:Int)+(A2.length:Int)+((B1.length+B2.length:Nat):Int)) (by simp;omega) (by simp;omega) (by simp;omega)
                  simpa using this
                · obtain rfl:B2=[]:=List.length_eq_zero_iff.1 (by omega)
                  refine bG (by simp;omega) (bY ?_)
                  rw [show mW k0 (A2++[])=A2 by rw [List.append_nil,oF sA2]]
                  simp
              · obtain rfl:A2=[]:=List.length_eq_zero_iff.1 (by omega)
                refine bG (by simp) (bY ?_)
                rw [show mW k0 ([]++B2)=B2 by rw [List.nil_append,oF sB2]]
                simp
            by_cases z1:0<A1.length
            · refine ay (by omega) (aQ (fun k=>by rw [aa.j8]) ?_)
              by_cases z2:0<B1.length
              · refine ay (by simp;omega) (bI (a:=P++mW k0 (A1++B1)++A2++B2++Q) ?_ (R8 _ (by rw [jM];simp)))
                have:=ih P A1 B1 (A2++B2++Q) (by omega) z1 z2 sA1 sB1 nA1 nB1 (by simp;omega) (P.length:Int) (s:Int) (mid:Int) rfl (by omega) (by omega)
                simpa using this
              · obtain rfl:B1=[]:=List.length_eq_zero_iff.1 (by omega)
                refine bG (by simp at*;omega) ?_
                have:=R8 (A1++[]) (by simp)
                rw [show mW k0 (A1++[])=A1++[] by rw [List.append_nil,oF sA1]]
                simpa using this
            · obtain rfl:A1=[]:=List.length_eq_zero_iff.1 (by omega)
              refine bG (by simp at*;omega) (aQ (fun k=>by rw [aa.j8]) (bG (by decide) ?_))
              have:=R8 ([]++B1) (by simp)
              rw [show mW k0 ([]++B1)=[]++B1 by rw [List.nil_append,oF sB1]]
              simpa using this
          have e4:P++(A1++A2)++(B1++B2)++Q=P++A1++A2++B1++(B2++Q):=by simp
          by_cases z1:0<A2.length
          · refine ay (by omega) (aQ (fun k=>by rw [aa.j6]) ?_)
            by_cases z2:0<B1.length
            · refine ay (by simp;omega) (bI (a:=P++A1++B1++A2++B2++Q) ?_ J7)
              rw [e4]
              have:=acI (P++A1) A2 B1 (B2++Q) z1 z2 (by simp;omega) (s:Int) ((s:Int)+(A2.length:Int)) ((mid:Int)+(A2.length:Int)) (by simp;omega) (by simp;omega) (by simp;omega)
              simpa using this
            · obtain rfl:B1=[]:=List.length_eq_zero_iff.1 (by omega)
              refine bG (by simp at*;omega) ?_
              simpa using J7
          · obtain rfl:A2=[]:=List.length_eq_zero_iff.1 (by omega)
            refine bG (by simp) (aQ (fun k=>by rw [aa.j6]) (bG (by decide) ?_))
            simpa using J7
inductive zo (s:Nat):List ByteArray→Prop
  |last {l:List ByteArray} :l.length≤s→nD k0 l→zo s l
  |more {A R:List ByteArray} :A.length=s→nD k0 A→zo s R→zo s (A++R)
theorem zo.cut {s:Nat} {l:List ByteArray} (h:zo s l) (hl:s<l.length):∃A R,l=A++R∧A.length=s∧nD k0 A∧zo s R:=by
  cases h with
  |last h1 h2=>omega
  |more h1 h2 h3=>exact ⟨_,_,rfl,h1,h2,h3⟩
theorem zo.XA {s:Nat} {l:List ByteArray} (h:zo s l) (hl:l.length≤s):nD k0 l:=by
  cases h with
  |last h1 h2=>exact h2
  | more h1 h2 h3 =>
    rename_i A R
    obtain rfl:R=[]:=List.length_eq_zero_iff.1 (by simp at hl;omega)
    simpa using h2
theorem Jw (n:Nat) (hn:n≤1073741824):∀(d:Nat) (P U:List ByteArray),U.length≤d→P.length+U.length=n→NE U→∃T,zo 20 T∧fN k0 U T∧T.length=U.length∧∀r,Ev (fun k=>ah.l1 k (P++T) (n:Int) 20) r→Ev (fun k=>ah.l0 k (P++U) (n:Int) 20 (P.length:Int) ((P.length:Int)+20)) r:=by
  intro d
  induction d with
  | zero =>
    intro P U hd hl jy
    obtain rfl:=List.length_eq_zero_iff.1 (Nat.le_zero.1 hd)
    refine ⟨[],zo.last (by simp) List.Pairwise.nil,fN.refl _,rfl,fun r hr=> ?_⟩
    refine aQ (fun k=>by rw [ah.l0]) (bG (by simp at hl;omega) ?_)
    obtain ⟨T,t1,t2,t3,t4⟩:=AT P [] [] n (by omega) jy (by simpa using hl)
    obtain rfl:=List.length_eq_zero_iff.1 t3
    exact bI (by simpa using t4) (by simpa using hr)
  | succ d ih =>
    intro P U hd hl jy
    by_cases q:P.length+20≤n
    · have eU:U=U.take 20++U.drop 20:=(List.take_append_drop _ _).symm
      have l1:(U.take 20).length=20:=by rw [List.length_take];omega
      have l2:(U.drop 20).length=U.length-20:=List.length_drop
      generalize U.take 20=A at*
      generalize U.drop 20=R at*
      subst eU
      obtain ⟨T,t1,t2,t3,t4⟩:=AT P A R (P.length+20) (by omega) (fun x h=>jy x (by simp [h])) (by omega)
      obtain ⟨T2,s1,s2,s3,s4⟩:=ih (P++T) R (by simp at hd;omega) (by simp at hl⊢;omega) (fun x h=>jy x (by simp [h]))
      refine ⟨T++T2,zo.more (by omega) t1 s1,t2.app s2,by simp;omega,fun r hr=> ?_⟩
      refine aQ (fun k=>by rw [ah.l0]) (ay (by omega) ?_)
      refine bI (a:=P++T++R) (by rw [show P++(A++R)=P++A++R by simp,show (P.length:Int)+20=((P.length+20:Nat):Int) by omega];exact t4) ?_
      have:=s4 r (by simpa using hr)
      rw [show ((P++T).length:Int)=(P.length:Int)+20 by simp;omega] at this
      rw [fI (by omega) (by omega)]
      exact this
    · obtain ⟨T,t1,t2,t3,t4⟩:=AT P U [] n (by omega) jy hl
      refine ⟨T,zo.last (by omega) t1,t2,t3,fun r hr=> ?_⟩
      refine aQ (fun k=>by rw [ah.l0]) (bG (by omega) (bI (a:=P++T) (by simpa using t4) hr))
theorem Ju (n s:Nat) (hn:n≤1073741824) (hs:0<s) (hsn:s<n):∀(d:Nat) (P U:List ByteArray),U.length≤d→P.length+U.length=n→NE U→zo s U→∃T,zo (2*s) T∧fN k0 U T∧T.length=U.length∧∀r,Ev (fun k=>ah.l1 k (P++T) (n:Int) ((2*s:Nat):Int)) r→Ev (fun k=>ah.l2 k (P++U) (n:Int) (s:Int) (P.length:Int) ((P.length:Int)+((2*s:Nat):Int))) r:=by
  intro d
  induction d with
  | zero =>
    intro P U hd hl jy hB
    obtain rfl:=List.length_eq_zero_iff.1 (Nat.le_zero.1 hd)
    refine ⟨[],zo.last (by simp) List.Pairwise.nil,fN.refl _,rfl,fun r hr=> ?_⟩
    refine aQ (fun k=>by rw [ah.l2]) (bG (by simp at hl;omega) (bG (by rw [fI (by omega) (by omega)];simp at hl;omega) ?_))
    rw [fI (by omega) (by omega),show (s:Int)*2=((2*s:Nat):Int) by omega]
    exact hr
  | succ d ih =>
    intro P U hd hl jy hB
    by_cases q:P.length+2*s≤n
    · obtain ⟨A,R0,rfl,lA,sA,hR0⟩:=hB.cut (by omega)
      simp only [List.length_append] at hl hd
      obtain ⟨B,R,rfl,lB,sB,hR⟩:∃B R,R0=B++R∧B.length=s∧nD k0 B∧zo s R:=by
        by_cases z:s<R0.length
        · exact hR0.cut z
        · exact ⟨R0,[],by simp,by omega,hR0.XA (by omega),zo.last (by simp) List.Pairwise.nil⟩
      simp only [List.length_append] at hl hd
      have nA:NE A:=fun x h=>jy x (by simp [h])
      have nB:NE B:=fun x h=>jy x (by simp [h])
      obtain ⟨T2,s1,s2,s3,s4⟩:=ih (P++mW k0 (A++B)) R (by omega) (by simp [jM];omega) (fun x h=>jy x (by simp [h])) hR
      refine ⟨mW k0 (A++B)++T2,zo.more (by rw [jM];simp;omega) (kQ _).1 s1,?_,by simp [jM];omega,fun r hr=> ?_⟩
      · have:=(kQ (key:=k0) (A++B)).2.app s2
        simpa using this
      · refine aQ (fun k=>by rw [ah.l2]) (ay (by omega) ?_)
        have hm:=merge _ P A B R (Nat.le_refl _) (by omega) (by omega) sA sB nA nB (by omega) (P.length:Int) (wrap64 ((P.length:Int)+(s:Int))) ((P.length:Int)+((2*s:Nat):Int)) rfl (by rw [fI (by omega) (by omega)];omega) (by omega)
        refine bI (a:=P++mW k0 (A++B)++R) (by simpa using hm) ?_
        have:=s4 r (by simpa using hr)
        rw [show ((P++mW k0 (A++B)).length:Int)=(P.length:Int)+((2*s:Nat):Int) by simp [jM];omega] at this
        rw [fI (x:=2*(s:Int)) (by omega) (by omega),show 2*(s:Int)=((2*s:Nat):Int) by omega,fI (by omega) (by omega)]
        exact this
    · refine ?_
      by_cases z:s<U.length
      · obtain ⟨A,B,rfl,lA,sA,hR0⟩:=hB.cut z
        simp only [List.length_append] at hl hd z
        have nA:NE A:=fun x h=>jy x (by simp [h])
        have nB:NE B:=fun x h=>jy x (by simp [h])
        have sB:=hR0.XA (by omega)
        refine ⟨mW k0 (A++B),zo.last (by rw [jM];simp;omega) (kQ _).1,(kQ _).2,jM _,fun r hr=> ?_⟩
        refine aQ (fun k=>by rw [ah.l2]) (bG (by omega) (ay (by rw [fI (by omega) (by omega)];omega) ?_))
        have hm:=merge _ P A B [] (Nat.le_refl _) (by omega) (by omega) sA sB nA nB (by simp;omega) (P.length:Int) (wrap64 ((P.length:Int)+(s:Int))) (n:Int) rfl (by rw [fI (by omega) (by omega)];omega) (by omega)
        refine bI (a:=P++mW k0 (A++B)) (by simpa using hm) ?_
        rw [fI (by omega) (by omega),show (s:Int)*2=((2*s:Nat):Int) by omega]
        exact hr
      · refine ⟨U,zo.last (by omega) (hB.XA (by omega)),fN.refl _,rfl,fun r hr=> ?_⟩
        refine aQ (fun k=>by rw [ah.l2]) (bG (by omega) (bG (by rw [fI (by omega) (by omega)];omega) ?_))
        rw [fI (by omega) (by omega),show (s:Int)*2=((2*s:Nat):Int) by omega]
        exact hr
theorem NE.of {U T:List ByteArray} (h:NE U) (e:fN k0 U T):NE T:=fun x hx=>h x (e.symm.mem x hx)
theorem S7 (n:Nat) (hn:n≤1073741824):∀(d s:Nat) (U:List ByteArray),n-s≤d→0<s→U.length=n→NE U→zo s U→Ev (fun k=>ah.l1 k U (n:Int) (s:Int)) (mW k0 U):=by
  intro d
  induction d with
  | zero =>
    intro s U hd hs hl jy hB
    exact aQ (fun k=>by rw [ah.l1]) (bG (by omega) (bY (oF (hB.XA (by omega))).symm))
  | succ d ih =>
    intro s U hd hs hl jy hB
    by_cases q:s<n
    · refine aQ (fun k=>by rw [ah.l1]) (ay (by omega) ?_)
      obtain ⟨T,t1,t2,t3,t4⟩:=Ju n s hn hs q n [] U (by omega) (by simpa using hl) jy hB
      have h:=ih (2*s) T (by omega) (by omega) (by omega) (jy.of t2) t1
      rw [show mW k0 T=mW k0 U from uP (kQ T).1 (t2.trans (kQ T).2)] at h
      have:=t4 _ (by simpa using h)
      rw [fI (x:=2*(s:Int)) (by omega) (by omega)]
      simpa using this
    · exact aQ (fun k=>by rw [ah.l1]) (bG (by omega) (bY (oF (hB.XA (by omega))).symm))
theorem K7 (U:List ByteArray) (hn:U.length≤1048576) (jy:NE U):Ev (fun k=>cU.f k U) (mW k0 U):=by
  unfold cU.f ah.f
  obtain ⟨T,t1,t2,t3,t4⟩:=Jw U.length (by omega) U.length [] U (Nat.le_refl _) (by simp) jy
  have h:=S7 U.length (by omega) U.length 20 T (by omega) (by decide) t3 (jy.of t2) t1
  rw [show mW k0 T=mW k0 U from uP (kQ T).1 (t2.trans (kQ T).2)] at h
  refine bI ?_ (bY rfl)
  have:=t4 _ (by simpa using h)
  simpa using this
def JS (x:ByteArray):ByteArray:=x.extract 1 x.size
theorem MH (W:List ByteArray):∀(R D:List ByteArray),D.length+R.length=W.length→W.length≤1048576→NE R→Ev (fun k=>cQ.l0 k (D.map JS++R) (W.length:Int) (D.length:Int)) ((D++R).map JS)
  |[],D,hl,_,_=>aQ (fun k=>by rw [cQ.l0]) (bG (by simp at hl;omega) (bY (by simp)))
  | x :: R, D, hl, hn, jy => by
    simp only [List.length_cons] at hl
    have hx:0<x.size:=jy x (by simp)
    have g1:aV ByteArray.empty (D.map JS++x::R) (D.length:Int)=x:=nh _ _ _ _ (by simp)
    refine aQ (fun k=>by rw [cQ.l0]) (ay (by omega) (ay (by omega) (ay (by simp;omega) ?_)))
    rw [g1,o6 _ _ _ _ _ (by simp),fI (by omega) (by omega)]
    refine ay (by omega) ?_
    have:=MH W R (D++[x]) (by simp;omega) hn (fun y h=>jy y (by simp [h]))
    rw [show ((D++[x]).length:Int)=(D.length:Int)+1 by simp] at this
    simpa [JS] using this
theorem JC (K:List Int) (ins outs boxes:List (List ByteArray)) (t:Int) (u:Nat) (hu:u<boxes.length) (hn:(boxes.getD u []).length≤1048576) (jy:NE (boxes.getD u [])):Ev (fun k=>cQ.f k K ins outs boxes t (u:Int)) ((mW k0 (boxes.getD u [])).map JS):=by
  unfold cQ.f
  refine ay (by omega) (ay (by omega) ?_)
  rw [show bK boxes (u:Int)=boxes.getD u [] from by unfold bK;rw [Int.toNat_natCast]]
  generalize boxes.getD u []=B at*
  refine jl (a:=B) (by unfold bq.f;rw [Option.bind_some,if_pos (by simp;omega)];rfl) (bI (K7 B hn jy) ?_)
  have:=MH B (mW k0 B) [] (by simp [jM]) hn jy.mW
  simpa using this
def AW (K:List Int) (ins outs boxes:List (List ByteArray)) (t u:Int):List ByteArray×Bool:=if (kM K ins outs boxes t&&ku 0 3 u)=true then ((mW k0 (boxes.getD u.toNat [])).map JS,true) else ([],false)
theorem JM {K:List Int} {ins outs boxes:List (List ByteArray)} {t u:Int} (h:kM K ins outs boxes t=true) (hu:ku 0 3 u=true):∃v:Nat,u=v∧v<boxes.length∧NE (boxes.getD v [])∧(boxes.getD v []).length≤60:=by
  unfold kM at h
  simp only [Bool.and_eq_true,decide_eq_true_eq] at h
  obtain ⟨-,-,-,-,h5,-,-,h8⟩:=h
  have hu':=fD.1 hu
  have hv:u.toNat<boxes.length:=by omega
  have hb:=List.all_eq_true.1 h8 _ (List.getElem_mem hv)
  have e:boxes.getD u.toNat []=boxes[u.toNat]:=by rw [List.getD_eq_getElem?_getD,List.getElem?_eq_getElem hv];rfl
  unfold sO at hb
  simp only [Bool.and_eq_true,decide_eq_true_eq] at hb
  refine ⟨u.toNat,by omega,hv,?_,by rw [e];exact hb.2⟩
  intro x hx
  rw [e] at hx
  have:=fD.1 (List.all_eq_true.1 hb.1 x hx)
  omega
theorem L1 (K:List Int) (ins outs boxes:List (List ByteArray)) (t u:Int) (hK:K.length≤1048576) (hi:dw ins) (ho:dw outs) (hb:dw boxes):Ev (fun k=>jr.f k K ins outs boxes t u) (AW K ins outs boxes t u):=by
  unfold jr.f AW
  refine bI (qv K ins outs boxes t hK hi ho hb) ?_
  cases h1:kM K ins outs boxes t with
  |false=>exact bG (by decide) (bY rfl)
  | true =>
    refine ay rfl (jl (jF _ _ _) ?_)
    cases h2:ku 0 3 u with
    |false=>exact bG (by decide) (bY rfl)
    | true =>
      obtain ⟨v,rfl,hv,jy,hl⟩:=JM h1 h2
      refine ay rfl (bI (JC K ins outs boxes t v hv (by omega) jy) (bY ?_))
      simp
theorem filter_one {α:Type} (f:α→Int):∀(M:List α),M.Pairwise (fun a b=>f a<f b)→∀c,(M.filter (fun x=>decide (f x=c))).length≤1
  |[],_,_=>by simp
  | a :: r, h, c => by
    obtain ⟨h1,h2⟩:=List.pairwise_cons.1 h
    by_cases e:f a=c
    · have:r.filter (fun x=>decide (f x=c))=[]:=List.filter_eq_nil_iff.2 (fun x hx=>by have:=h1 x hx;simp;omega)
      simp [e,this]
    · have:=filter_one f r h2 c
      simp [e,this]
theorem Ln {α:Type} {A B:List α} (h:A.Perm B) (hb:B.length≤1):A=B:=by
  match B,hb with
  |[],_=>exact List.Perm.eq_nil h
  |[b],_=>exact List.perm_singleton.1 h
  |_::_::_,hb=>simp at hb
theorem MI (ls:List (Int×ByteArray)) (i:Nat):(bl (sS ls i)).drop 1=bl (ls.getD i (0,⟨#[]⟩)).2:=by
  unfold sS
  rw [sP,u9];rfl
theorem Le (ls:List (Int×ByteArray)) (p:Nat→Bool) (f:ByteArray→Int) (hf:∀i,i<ls.length→f (sS ls i)=(i:Int)+1):(((List.range ls.length).filter p).map (sS ls)).Pairwise (fun a b=>f a<f b):=by
  rw [List.pairwise_map]
  refine (List.Pairwise.filter p (List.pairwise_lt_range)).imp_of_mem (fun {a b} ha hb hab=> ?_)
  rw [hf a (List.mem_range.1 (List.mem_filter.1 ha).1),hf b (List.mem_range.1 (List.mem_filter.1 hb).1)]
  omega
theorem XS {ls:List (Int×ByteArray)} (h:zm ls) {i:Nat} (hi:i<ls.length):bt (sS ls i) 0=(i:Int)+1:=by
  have:=Cb (sI h hi).2.2
  rw [UInt8.toNat_ofNat'] at this
  have e:bt (sS ls i) 0=_:=this
  rw [e]
  have:=h.1
  omega
theorem F5 {ls:List (Int×ByteArray)} (h:zm ls) (p:Nat→Bool) {B:List ByteArray} (hB:B.Perm (((List.range ls.length).filter p).map (sS ls))):mW k0 B=((List.range ls.length).filter p).map (sS ls):=by
  have r:=Le ls p k0 (fun i hi=>XS h hi)
  refine (K8 (r.imp (fun hab=>Int.le_of_lt hab)) (fun c=> ?_)).symm
  exact Ln (hB.filter _) (filter_one k0 _ r c)
theorem U6 (ls:List (Int×ByteArray)) (i:Nat):(sS ls i).extract 1 (sS ls i).size=(ls.getD i (0,⟨#[]⟩)).2:=Cc (by
  rw [qL,List.take_of_length_le (by rw [oy];exact Nat.le_refl _)]
  exact MI ls i)
theorem J6 {ls:List (Int×ByteArray)} (h:zm ls) (u:Int) {B:List ByteArray} (hB:B.Perm (((List.range ls.length).filter (fun i=>decide (xM ls i=u))).map (sS ls))):(mW k0 B).map (fun x=>x.extract 1 x.size)=(ls.filter (fun x=>decide (x.1=u))).map Prod.snd:=by
  rw [F5 h _ hB,List.map_map,←Ew u ls]
  exact List.map_congr_left (fun i _=>U6 ls i)
def jN (u:Int):List iK→List Bool→List ByteArray
  |x::xs,b::bs=>(if b=true∧x.f0=1∧x.f1=u then [x.f2] else [])++jN u xs bs
  |_,_=>[]
def qo (xs:List iK) (bs:List Bool) (u:Int):List ByteArray×Bool:=if xs.length≤60∧xs.length=bs.length∧ku 0 3 u=true then (jN u xs bs,true) else ([],false)
theorem sy (u:Int):∀(xs:List iK) (bs:List Bool),(jN u xs bs).length≤xs.length
  |[],_=>by simp [jN]
  |_::_,[]=>by simp [jN]
  | x :: xs, b :: bs => by
    have:=sy u xs bs
    simp only [jN,List.length_append,List.length_cons]
    split<;>simp<;>omega
theorem EP (xs:List iK) (bs:List Bool) (u:Int):(qo xs bs u).1.length≤xs.length:=by
  unfold qo
  split
  · exact sy u xs bs
  · simp
theorem K9 (u:Int) (xs:List iK) (bs:List Bool) (hl:xs.length=bs.length) (hn:xs.length≤1048576):∀(d i:Nat) (out:List ByteArray),i+d=xs.length→out.length≤i→Ev (fun k=>aU.l0 k bs u out xs (xs.length:Int) (i:Int)) (out++jN u (xs.drop i) (bs.drop i),true):=by
  intro d
  induction d with
  | zero =>
    intro i out hi ho
    refine aQ (fun k=>by rw [aU.l0]) (bG (by omega) (bY ?_))
    rw [List.drop_eq_nil_of_le (show xs.length≤i by omega)]
    simp [jN]
  | succ d ih =>
    intro i out hi ho
    have eO:i<xs.length:=by omega
    have zg:i<bs.length:=by omega
    refine aQ (fun k=>by rw [aU.l0]) (ay (by omega) (ay (by omega) (ay (by omega) (ay (by omega) ?_))))
    rw [show cw xs (i:Int)=xs[i] from dP xs i _ eO,show aV false bs (i:Int)=bs[i] from dP bs i _ zg,List.drop_eq_getElem_cons eO,List.drop_eq_getElem_cons zg,fI (x:=(i:Int)+1) (by omega) (by omega)]
    simp only [jN]
    cases hb:bs[i] with
    | false =>
      refine bG (by simp) ?_
      simpa using ih (i+1) out (by omega) (by omega)
    | true =>
      refine ay rfl ?_
      by_cases h1:xs[i].f0=1
      · refine ay h1 ?_
        by_cases h2:xs[i].f1=u
        · refine ay h2 (ay (by omega) ?_)
          rw [if_pos ⟨rfl,h1,h2⟩]
          have:=ih (i+1) (out++[xs[i].f2]) (by omega) (by simp;omega)
          rw [List.append_assoc] at this
          exact this
        · refine bG h2 ?_
          rw [if_neg (fun h=>h2 h.2.2)]
          exact ih (i+1) out (by omega) (by omega)
      · refine bG h1 ?_
        rw [if_neg (fun h=>h1 h.2.1)]
        exact ih (i+1) out (by omega) (by omega)
theorem LV (u:Int) (xs:List iK) (bs:List Bool) (hl:xs.length=bs.length) (hn:xs.length≤1048576):∀(d i:Nat) (out:List ByteArray),i+d=xs.length→out.length≤i→Ev (fun k=>aK.l0 k bs u out xs (xs.length:Int) (i:Int)) (out++jN u (xs.drop i) (bs.drop i),true):=by
  intro d
  induction d with
  | zero =>
    intro i out hi ho
    refine aQ (fun k=>by rw [aK.l0]) (bG (by omega) (bY ?_))
    rw [List.drop_eq_nil_of_le (show xs.length≤i by omega)]
    simp [jN]
  | succ d ih =>
    intro i out hi ho
    have eO:i<xs.length:=by omega
    have zg:i<bs.length:=by omega
    refine aQ (fun k=>by rw [aK.l0]) (ay (by omega) (ay (by omega) (ay (by omega) (ay (by omega) ?_))))
    rw [show cw xs (i:Int)=xs[i] from dP xs i _ eO,show aV false bs (i:Int)=bs[i] from dP bs i _ zg,List.drop_eq_getElem_cons eO,List.drop_eq_getElem_cons zg,fI (x:=(i:Int)+1) (by omega) (by omega)]
    simp only [jN]
    cases hb:bs[i] with
    | false =>
      refine bG (by simp) ?_
      simpa using ih (i+1) out (by omega) (by omega)
    | true =>
      refine ay rfl ?_
      by_cases h1:xs[i].f0=1
      · refine ay h1 ?_
        by_cases h2:xs[i].f1=u
        · refine ay h2 (ay (by omega) ?_)
          rw [if_pos ⟨rfl,h1,h2⟩]
          have:=ih (i+1) (out++[xs[i].f2]) (by omega) (by simp;omega)
          rw [List.append_assoc] at this
          exact this
        · refine bG h2 ?_
          rw [if_neg (fun h=>h2 h.2.2)]
          exact ih (i+1) out (by omega) (by omega)
      · refine bG h1 ?_
        rw [if_neg (fun h=>h1 h.2.1)]
        exact ih (i+1) out (by omega) (by omega)
theorem La (xs:List iK) (bs:List Bool) (u:Int) (hn:xs.length≤1048576) (hm:bs.length≤1048576):Ev (fun k=>aU.f k xs bs u) (qo xs bs u):=by
  unfold aU.f qo
  by_cases h:xs.length≤60
  · refine bG (by omega) ?_
    by_cases h2:xs.length=bs.length
    · refine ay (by omega) (jl (pq _ _ _) (aQ (fun k=>by rw [aU.j0]) ?_))
      cases h3:ku 0 3 u with
      |false=>exact ay (by simp) (bY (by simp))
      | true =>
        refine bG (by simp) ?_
        rw [if_pos ⟨h,h2,rfl⟩]
        exact K9 u xs bs h2 hn xs.length 0 [] (by omega) (by simp)
    · refine bG (by omega) (aQ (fun k=>by rw [aU.j0]) (ay rfl (bY (by simp [h2]))))
  · exact ay (by omega) (aQ (fun k=>by rw [aU.j0]) (ay rfl (bY (by simp [h]))))
theorem Dg (xs:List iK) (bs:List Bool) (u:Int) (hn:xs.length≤1048576) (hm:bs.length≤1048576):Ev (fun k=>aK.f k xs bs u) (qo xs bs u):=by
  unfold aK.f qo
  by_cases h:xs.length≤60
  · refine bG (by omega) ?_
    by_cases h2:xs.length=bs.length
    · refine ay (by omega) (jl (jF _ _ _) (aQ (fun k=>by rw [aK.j0]) ?_))
      cases h3:ku 0 3 u with
      |false=>exact ay (by simp) (bY (by simp))
      | true =>
        refine bG (by simp) ?_
        rw [if_pos ⟨h,h2,rfl⟩]
        exact LV u xs bs h2 hn xs.length 0 [] (by omega) (by simp)
    · refine bG (by omega) (aQ (fun k=>by rw [aK.j0]) (ay rfl (bY (by simp [h2]))))
  · exact ay (by omega) (aQ (fun k=>by rw [aK.j0]) (ay rfl (bY (by simp [h]))))
theorem vB (u:Int):∀(l:List iK) (bs:List Bool),jN u l bs=((rM l bs).filter (fun x=>decide (x.1=u))).map Prod.snd
  |[],bs=>by cases bs<;>rfl
  |s::r,[]=>rfl
  | s :: r, b :: bs => by
    unfold jN rM
    rw [vB u r bs]
    by_cases c:b=true∧s.f0=1
    · rw [if_pos c]
      by_cases d:s.f1=u
      · rw [if_pos ⟨c.1,c.2,d⟩];simp [d]
      · rw [if_neg (fun e=>d e.2.2)];simp [d]
    · rw [if_neg c,if_neg (fun e=>c ⟨e.1,e.2.1⟩)];rfl
theorem OA {n:Nt} (g:GN n) (a b:Int) (x:ByteArray):(iE n a b x).1.ks=n.ks:=by
  unfold iE
  split
  · unfold p7
    split
    · exact (pM _ _ _).1
    · rfl
  · split
    · split
      · split
        · rename_i c
          exact (xe g (i:=b.toNat) (by omega)).2.1
        · rfl
      · split
        · split
          · exact (pM _ _ _).1
          · rfl
        · rfl
    · rfl
theorem AD:∀(l:List iK) (n:Nt) (d:List Bool),GN n→(fZ l n d).1.ks=n.ks
  |[],_,_,_=>rfl
  |s::r,n,d,g=>(AD r _ _ (xg g s.f0 s.f1 s.f2)).trans (OA g s.f0 s.f1 s.f2)
theorem xB {K:List Int} (h1:ku 1 4 (K.length:Int)=true) (h2:K.all (ku 0 65535)=true) (l:List iK):(∀j,j<K.length→(jK (fZ l (fT K) []).1).ps.getD j []=[])∧∀u:Nat,u<4→(mW k0 ((jK (fZ l (fT K) []).1).ib.getD u [])).map (fun x=>x.extract 1 x.size)=jN (u:Int) l (fZ l (fT K) []).2:=by
  obtain ⟨p1,i1⟩:=Inv.XJ l (ls:=[]) [] (Inv.new h1 h2)
  obtain ⟨p2,i2,k2,q2⟩:=Inv.settle (fZ l (fT K) []).1.ks.length 0 i1 (by omega) (fun _ _=>Nat.zero_le _)
  have hk:(fZ l (fT K) []).1.ks=K:=AD l (fT K) [] (qQ h1 h2)
  rw [List.nil_append] at i2 q2
  have d:=i2.done (fun i hi=>by rw [k2];exact q2 i hi)
  rw [k2,hk] at d
  unfold jK
  rw [hk]
  refine ⟨d.1,fun u hu=> ?_⟩
  rw [C2,List.nil_append,vB]
  exact J6 i2.Fe (u:Int) (d.2 u hu)
theorem Ce {α:Type} {p:Nat→α→Bool} :∀(xs:List α) (i:Nat),(∀j (h:j<xs.length),p (i+j) xs[j]=true)→allI p i xs=true
  |[],_,_=>rfl
  | x :: xs, i, h => by
    simp only [allI,Bool.and_eq_true]
    refine ⟨h 0 (by simp),Ce xs (i+1) (fun j hj=> ?_)⟩
    have:=h (j+1) (by simpa using hj)
    rw [show i+1+j=i+(j+1) by omega]
    exact this
theorem Ir {xs:List ByteArray} (h:Kz xs):Jp xs=true:=by
  obtain ⟨h1,h2,h3,h4⟩:=h
  unfold Jp
  rw [Bool.and_eq_true]
  refine ⟨Ce xs 0 (fun j hj=> ?_),decide_eq_true (by omega)⟩
  rw [Nat.zero_add]
  unfold zc
  rw [Bool.and_eq_true,Bool.or_eq_true]
  refine ⟨decide_eq_true (by have:=h2 xs[j] (List.getElem_mem hj);omega),?_⟩
  by_cases c:j=0
  · exact .inl (decide_eq_true c)
  · refine .inr ?_
    have Mm:j-1<xs.length:=by omega
    rw [show xs.getD (j-1) ByteArray.empty=xs[j-1] from dP _ (j-1) _ Mm]
    show pg xs[j-1] xs[j]=true
    have a:=List.pairwise_iff_getElem.1 h3 (j-1) j Mm hj (by omega)
    have b:=List.pairwise_iff_getElem.1 h4 (j-1) j Mm hj (by omega)
    cases e:pg xs[j-1] xs[j]
    · exact absurd (wE e a) b
    · rfl
theorem qR {n:Nt} (g:GN n):kM n.ks n.ps n.ss n.ib n.sd=true:=by
  unfold kM
  simp only [Bool.and_eq_true,decide_eq_true_eq]
  have h1:=g.k1;have h2:=g.k4;have h3:=g.pl;have h4:=g.sl;have h5:=g.il
  refine ⟨fD.2 (by omega),List.all_eq_true.2 (fun x hx=>fD.2 (g.kr x hx)),by omega,by omega,by omega,fD.2 g.sd,Ce _ 0 (fun j hj=> ?_),List.all_eq_true.2 (fun b hb=> ?_)⟩
  · rw [Nat.zero_add]
    have e:n.ps[j]=n.ps.getD j []:=(dP _ j _ hj).symm
    simp only [lZ,Bool.and_eq_true]
    rw [e]
    exact ⟨Ir (g.po j),Ir (g.so j),List.all_eq_true.2 (fun x hx=>(oN _ _).2 (g.sub j x hx))⟩
  · simp only [sO,Bool.and_eq_true,decide_eq_true_eq]
    obtain ⟨b1,b2⟩:=g.bx b hb
    exact ⟨List.all_eq_true.2 (fun x hx=>fD.2 (by have:=b2 x hx;omega)),b1⟩
def lO:List (List ByteArray)→Int
  |[]=>0
  |x::xs=>(x.length:Int)+lO xs
theorem LY (ins:List (List ByteArray)) (hi:dw ins) (h4:ins.length≤4):∀(d i:Nat) (c:Int),i+d=ins.length→0≤c→c≤1048576*(i:Int)→Ev (fun k=>cV.l0 k c ins (ins.length:Int) (i:Int)) (c+lO (ins.drop i)):=by
  intro d
  induction d with
  | zero =>
    intro i c hd h0 h1
    refine aQ (fun k=>by rw [cV.l0]) (bG (by omega) (bY ?_))
    rw [List.drop_eq_nil_of_le (by omega)];simp [lO]
  | succ d ih =>
    intro i c hd h0 h1
    have eO:i<ins.length:=by omega
    have hx:=hi.2 _ (List.getElem_mem eO)
    refine aQ (fun k=>by rw [cV.l0]) (ay (by omega) (ay (by omega) (ay (by omega) ?_)))
    rw [show bK ins (i:Int)=ins[i] from dP ins i _ eO,List.drop_eq_getElem_cons eO,fI (x:=c+_) (by omega) (by omega),fI (by omega) (by omega)]
    simp only [lO]
    rw [←Int.add_assoc]
    exact ih (i+1) _ (by omega) (by omega) (by push_cast;omega)
theorem JL {K:List Int} {ins outs boxes:List (List ByteArray)} {t:Int} (g:kM K ins outs boxes t=true):ins.length≤4:=by
  unfold kM at g
  simp only [Bool.and_eq_true,decide_eq_true_eq] at g
  have:=fD.1 g.1
  have:=g.2.2.1
  omega
def xN (K:List Int) (ins outs boxes:List (List ByteArray)) (t:Int):Int×Bool:=if kM K ins outs boxes t=true then (lO ins,true) else (0,false)
theorem LZ (K:List Int) (ins outs boxes:List (List ByteArray)) (t:Int) (hK:K.length≤1048576) (hi:dw ins) (ho:dw outs) (hb:dw boxes):Ev (fun k=>gZ.f k K ins outs boxes t) (xN K ins outs boxes t):=by
  unfold gZ.f xN
  refine bI (qv K ins outs boxes t hK hi ho hb) ?_
  cases g:kM K ins outs boxes t with
  |false=>exact bG (by simp) (bY (by simp))
  | true =>
    refine ay rfl ?_
    have:=LY ins hi (JL g) ins.length 0 0 (by omega) (by omega) (by omega)
    rw [Int.zero_add] at this
    exact bI this (bY (by simp))
theorem xx (l:List Int) (hl:l.length≤1048576):∀(d i:Nat),i+d=l.length→Ev (fun k=>dh.l0 k l l (l.length:Int) (i:Int)) true
  |0,i,h=>aQ (fun _=>rfl) (bG (by omega) (bY rfl))
  | d + 1, i, h => by
    refine aQ (fun _=>rfl) (ay (by omega) (ay (by omega) (ay (by omega) (ay (by omega) (ay rfl ?_)))))
    rw [show wrap64 ((i:Int)+1)=((i+1:Nat):Int) by rw [IntWalk.wrap64_in _ (by omega)];rfl]
    exact xx l hl d (i+1) (by omega)
theorem Eu (l:List Int) (hl:l.length≤1048576):Ev (fun k=>dh.f k l l) true:=by
  unfold dh.f
  exact ay rfl (xx l hl l.length 0 (by omega))
theorem vq (l:List ByteArray) (hl:l.length≤1048576):∀(d i:Nat),i+d=l.length→Ev (fun k=>cq.l0 k l l (l.length:Int) (i:Int)) true
  |0,i,h=>aQ (fun _=>rfl) (bG (by omega) (bY rfl))
  | d + 1, i, h => by
    refine aQ (fun _=>rfl) (ay (by omega) (ay (by omega) (ay (by omega) (ay (by omega) (ay rfl ?_)))))
    rw [show wrap64 ((i:Int)+1)=((i+1:Nat):Int) by rw [IntWalk.wrap64_in _ (by omega)];rfl]
    exact vq l hl d (i+1) (by omega)
theorem qm (l:List ByteArray) (hl:l.length≤1048576):Ev (fun k=>cq.f k l l) true:=by
  unfold cq.f
  exact ay rfl (vq l hl l.length 0 (by omega))
theorem vt (l:List Bool) (hl:l.length≤1048576):∀(d i:Nat),i+d=l.length→Ev (fun k=>eu.l0 k l l (l.length:Int) (i:Int)) true
  |0,i,h=>aQ (fun _=>rfl) (bG (by omega) (bY rfl))
  | d + 1, i, h => by
    refine aQ (fun _=>rfl) (ay (by omega) (ay (by omega) (ay (by omega) (ay (by omega) (bG (by simp) ?_)))))
    rw [show wrap64 ((i:Int)+1)=((i+1:Nat):Int) by rw [IntWalk.wrap64_in _ (by omega)];rfl]
    exact vt l hl d (i+1) (by omega)
theorem CW (l:List Bool) (hl:l.length≤1048576):Ev (fun k=>eu.f k l l) true:=by
  unfold eu.f
  exact ay rfl (vt l hl l.length 0 (by omega))
theorem vr (l:List (List ByteArray)) (hl:dw l):∀(d i:Nat),i+d=l.length→Ev (fun k=>bB.l0 k l l (l.length:Int) (i:Int)) true
  |0,i,h=>aQ (fun _=>rfl) (bG (by omega) (bY rfl))
  | d + 1, i, h => by
    have hn:=hl.1
    have eO:i<l.length:=by omega
    have hz:=hl.2 _ (List.getElem_mem eO)
    refine aQ (fun _=>rfl) (ay (by omega) (ay (by omega) (ay (by omega) (ay (by omega) ?_))))
    rw [show bK l (i:Int)=l[i] from dP l i _ eO,show wrap64 ((i:Int)+1)=((i+1:Nat):Int) by rw [IntWalk.wrap64_in _ (by omega)];rfl]
    exact bI (qm _ hz) (ay rfl (vr l hl d (i+1) (by omega)))
theorem qn (l:List (List ByteArray)) (hl:dw l):Ev (fun k=>bB.f k l l) true:=by
  unfold bB.f
  exact ay rfl (vr l hl l.length 0 (by omega))
theorem Jj (a:List Int) (b c d:List (List ByteArray)) (e:Int) (h:a.length≤1048576) (hb:dw b) (hc:dw c) (hd:dw d):Ev (fun k=>jq.f k a b c d e a b c d e) true:=by
  unfold jq.f
  exact bI (Eu a h) (ay rfl (bI (qn b hb) (ay rfl (bI (qn c hc) (ay rfl (bI (qn d hd) (ay rfl (bY (by simp)))))))))
def bytes (s:List Int):Prop:=∀x∈s,0≤x∧x≤255
theorem DN {s:List Int} (h:∀x∈s,(Lit.int .u8 x).wf=true):bytes s:=by
  intro x hx
  have:=h x hx
  simp [Lit.wf,IntKind.min,IntKind.max,IntKind.bits,IntKind.signed] at this
  omega
theorem IV (y:Int):0≤IntKind.u64.wrap y∧IntKind.u64.wrap y<18446744073709551616:=by
  simp only [IntKind.wrap,IntKind.bits,IntKind.signed]
  constructor
  · simp;omega
  · simp;omega
theorem IQ (n:Int) (h0:0≤n) (h1:n<2^62):IntKind.u64.wrap n=n:=by
  have:(2:Int)^62=4611686018427387904:=by decide
  exact ng n h0 (by omega)
theorem Vl (x:Int) (h0:0≤x) (h1:x<4611686018427387904):0≤Go.bits .and .u64 x 255∧Go.bits .and .u64 x 255≤255:=by
  obtain ⟨a,rfl⟩:=Int.eq_ofNat_of_zero_le h0
  have ha:a<2^62:=by
   have:(2:Nat)^62=4611686018427387904:=by decide
   omega
  have:=(bits_nat .u64 62 (by decide) IQ a 255 ha (by decide)).1
  rw [show ((255:Nat):Int)=255 from rfl] at this
  rw [this]
  have:a&&&255≤255:=Nat.and_le_right
  omega
theorem Qb (y:Int):0≤wrap64 (Go.bits .and .u64 (IntKind.u64.wrap y/1099511627776) 255)∧wrap64 (Go.bits .and .u64 (IntKind.u64.wrap y/1099511627776) 255)≤255:=by
  have r:=IV y
  have:=Vl (IntKind.u64.wrap y/1099511627776) (by omega) (by omega)
  rw [fI (by omega) (by omega)]
  exact this
theorem MZ {s:List Int} (hb:bytes s) (p:Int) (h0:0≤p) (h1:p<s.length):0≤rd s p∧rd s p≤255:=by
  obtain ⟨i,rfl⟩:=Int.eq_ofNat_of_zero_le h0
  rw [o7 s i (by omega)]
  exact hb _ (List.getElem_mem _)
theorem Ly (s:List Int) (hb:bytes s) (p x:Int) (h0:0≤p) (h1:p≤1152921504606846976):∃v x',eY.f s p x=some (v,p+1,x')∧0≤v∧v≤255:=by
  unfold eY.f
  rw [fI (x:=p+1) (by omega) (by omega)]
  by_cases h:p<(s.length:Int)
  · have:=MZ hb p h0 h
    rw [fI (x:=rd s p) (by omega) (by omega),if_pos h,if_pos h0,if_pos (by omega)]
    exact ⟨_,_,rfl,this⟩
  · rw [if_neg h,if_neg (by omega)]
    exact ⟨_,_,rfl,Qb _⟩
theorem xq (v n:Int) (h0:0≤v) (h:1<n):0≤Int.tmod v n∧Int.tmod v n<n:=by
  rw [Int.tmod_eq_emod_of_nonneg h0]
  exact ⟨Int.emod_nonneg _ (by omega),Int.emod_lt_of_pos _ (by omega)⟩
theorem lK (s:List Int) (hb:bytes s) (p x n:Int) (h0:0≤p) (h1:p≤1152921504606846900):∃r p' x',aJ.f s p x n=some (r,p',x')∧(0≤r∧(n≤1→r=0)∧(1<n→r<n))∧p≤p'∧p'≤p+2:=by
  unfold aJ.f
  by_cases hn:n≤1
  · exact ⟨0,p,x,by rw [if_pos hn],⟨by omega,fun _=>rfl,fun h=>by omega⟩,by omega,by omega⟩
  · rw [if_neg hn]
    obtain ⟨v,x',e,v0,v1⟩:=Ly s hb p x h0 (by omega)
    rw [e,Option.bind_some]
    by_cases h2:n>200
    · obtain ⟨u,x'',e',u0,u1⟩:=Ly s hb (p+1) x' (by omega) (by omega)
      rw [if_pos h2]
      simp only [e',Option.bind_some]
      rw [if_neg (by omega),fI (x:=v*256) (by omega) (by omega),fI (by omega) (by omega)]
      have:=xq (v*256+u) n (by omega) (by omega)
      exact ⟨_,_,_,rfl,⟨this.1,fun h=>by omega,fun _=>this.2⟩,by omega,by omega⟩
    · rw [if_neg h2,if_neg (by omega)]
      have:=xq v n v0 (by omega)
      exact ⟨_,p+1,x',rfl,⟨this.1,fun h=>by omega,fun _=>this.2⟩,by omega,by omega⟩
theorem wQ (s:List Int) (hb:bytes s) (p x:Int) (l:List Int) (hl:1≤l.length) (h0:0≤p) (h1:p≤1152921504606846900):∃v p' x',cB.f s p x l=some (v,p',x')∧v∈l∧p≤p'∧p'≤p+2:=by
  obtain ⟨r,p',x',e,⟨r0,r1,r2⟩,h2,h3⟩:=lK s hb p x (l.length:Int) h0 h1
  have hr:r<(l.length:Int):=by
    by_cases h:1<(l.length:Int)
    · exact r2 h
    · have:=r1 (by omega);omega
  refine ⟨rd l r,p',x',?_,?_,h2,h3⟩
  · unfold cB.f
    simp only [e,Option.bind_some]
    rw [if_pos r0,if_pos hr]
  · obtain ⟨i,rfl⟩:=Int.eq_ofNat_of_zero_le r0
    rw [o7 l i (by omega)]
    exact List.getElem_mem _
theorem GM (s:List Int) (hb:bytes s) (p x n:Int) (h0:0≤p) (h1:p≤1152921504606846900):∃b p' x',dR.f s p x n=some (b,p',x')∧p≤p'∧p'≤p+2:=by
  obtain ⟨r,p',x',e,_,h2,h3⟩:=lK s hb p x n h0 h1
  exact ⟨r==0,p',x',by unfold dR.f;simp only [e,Option.bind_some],h2,h3⟩
theorem XM (s:List Int) (hb:bytes s) (p x:Int) (l:List ByteArray) (hl:1≤l.length) (h0:0≤p) (h1:p≤1152921504606846900):∃v p' x',fe.f s p x l=some (v,p',x')∧p≤p'∧p'≤p+2:=by
  obtain ⟨r,p',x',e,⟨r0,r1,r2⟩,h2,h3⟩:=lK s hb p x (l.length:Int) h0 h1
  have hr:r<(l.length:Int):=by
    by_cases h:1<(l.length:Int)
    · exact r2 h
    · have:=r1 (by omega);omega
  refine ⟨aV ByteArray.empty l r,p',x',?_,h2,h3⟩
  unfold fe.f
  simp only [e,Option.bind_some]
  rw [if_pos r0,if_pos hr]
theorem XR (s:List Int) (hb:bytes s) (p x:Int) (h0:0≤p) (h1:p≤1152921504606846000):∃v p' x',jd.f s p x=some (v,p',x')∧p≤p'∧p'≤p+10:=by
  obtain ⟨a,p1,x1,e1,_,g1,g2⟩:=lK s hb p x 256 h0 (by omega)
  obtain ⟨b,p2,x2,e2,_,g3,g4⟩:=lK s hb p1 x1 256 (by omega) (by omega)
  obtain ⟨c,p3,x3,e3,_,g5,g6⟩:=lK s hb p2 x2 256 (by omega) (by omega)
  obtain ⟨d,p4,x4,e4,_,g7,g8⟩:=lK s hb p3 x3 256 (by omega) (by omega)
  obtain ⟨v,p5,x5,e5,_,g9,g10⟩:=wQ s hb p4 x4 [0,1,65535,wrap64 (wrap64 (a*256)+b),wrap64 (wrap64 (c*256)+d)] (by simp) (by omega) (by omega)
  refine ⟨v,p5,x5,?_,by omega,by omega⟩
  unfold jd.f
  simp only [e1,e2,e3,e4,e5,Option.bind_some]
theorem Ts (s:List Int) (hb:bytes s):∀(d:Nat) (out:List Int) (p x:Int),out.length+d≤1000→0≤p→p+10*d≤1152921504606800000→∃l p' x',Ev (fun k=>bU.l0 k out (d:Int) s p x) (l,p',x')∧l.length≤out.length+d+1∧p≤p'∧p'≤p+10*d+10:=by
  intro d
  induction d with
  | zero =>
    intro out p x hl h0 h1
    obtain ⟨b,p1,x1,e,g1,g2⟩:=GM s hb p x 20 h0 (by omega)
    cases b with
    | false =>
      refine ⟨out,p1,x1,?_,by omega,by omega,by omega⟩
      refine aQ (fun k=>by rw [bU.l0]) (bG (by omega) ?_)
      refine jl e ?_
      refine bG (by simp) ?_
      exact bY rfl
    | true =>
      obtain ⟨v,p2,x2,e2,_,g3,g4⟩:=wQ s hb p1 x1 [(-1),65536,5] (by decide) (by omega) (by omega)
      refine ⟨out++[v],p2,x2,?_,by simp,by omega,by omega⟩
      refine aQ (fun k=>by rw [bU.l0]) (bG (by omega) ?_)
      refine jl e ?_
      refine ay rfl ?_
      refine jl e2 ?_
      refine ay (by omega) ?_
      exact bY rfl
  | succ d ih =>
    intro out p x hl h0 h1
    obtain ⟨v,p1,x1,e1,g1,g2⟩:=XR s hb p x (by omega) (by omega)
    obtain ⟨l,p5,x5,E,PD,g9,g10⟩:=ih (out++[v]) p1 x1 (by simp;omega) (by omega) (by push_cast at h1;omega)
    refine ⟨l,p5,x5,?_,by simp at PD;omega,by omega,by push_cast;omega⟩
    refine aQ (fun k=>by rw [bU.l0]) (ay (by omega) ?_)
    refine jl e1 ?_
    refine ay (by omega) ?_
    rw [fI (by omega) (by omega),show ((d+1:Nat):Int)-1=(d:Int) by omega]
    exact E
theorem Js (s:List Int) (hb:bytes s) (p x:Int) (h0:0≤p) (h1:p≤1152921504606000000):∃l p' x',Ev (fun k=>bU.f k s p x) (l,p',x')∧l.length≤6∧p≤p'∧p'≤p+100:=by
  obtain ⟨r,p1,x1,e1,⟨r0,_,r2⟩,g1,g2⟩:=lK s hb p x 4 h0 (by omega)
  have:=r2 (by omega)
  obtain ⟨l,p2,x2,E,hl,g3,g4⟩:=Ts s hb (1+r.toNat) [] p1 x1 (by simp;omega) (by omega) (by omega)
  refine ⟨l,p2,x2,?_,by simp at hl;omega,by omega,by omega⟩
  unfold bU.f
  refine jl e1 ?_
  rw [show ((1+r.toNat:Nat):Int)=1+r by omega] at E
  dsimp only
  rw [fI (by omega) (by omega)]
  exact E
theorem K6 (s:List Int) (hb:bytes s) (d:Nat) (out:List iK) (p x a b:Int) (t:ByteArray) (ho:out.length+d≤1000) (h0:0≤p) (h1:p≤1152921504606800000):∃v p' x',(∀r,Ev (fun k=>aA.l0 k (out++[v]) (d:Int) s p' x') r→Ev (fun k=>aA.j2 k out ((d+1:Nat):Int) s p x a b t) r)∧p≤p'∧p'≤p+10:=by
  obtain ⟨c,p1,x1,e1,g1,g2⟩:=GM s hb p x 40 h0 (by omega)
  cases c with
  | false =>
    refine ⟨⟨a,b,t⟩,p1,x1,fun r H=> ?_,by omega,by omega⟩
    refine aQ (fun k=>by rw [aA.j2]) ?_
    refine jl e1 (bG (by simp) (ay (by omega) ?_))
    rw [show wrap64 (((d+1:Nat):Int)-1)=(d:Int) by rw [fI (by omega) (by omega)];omega]
    exact H
  | true =>
    obtain ⟨a2,p2,x2,e2,_,g3,g4⟩:=lK s hb p1 x1 5 (by omega) (by omega)
    obtain ⟨b2,p3,x3,e3,_,g5,g6⟩:=wQ s hb p2 x2 [(-1),0,4,60] (by decide) (by omega) (by omega)
    obtain ⟨t2,p4,x4,e4,g7,g8⟩:=XM s hb p3 x3 [(⟨#[]⟩:ByteArray),(⟨#[120]⟩:ByteArray)] (by decide) (by omega) (by omega)
    refine ⟨⟨a2,b2,t2⟩,p4,x4,fun r H=> ?_,by omega,by omega⟩
    refine aQ (fun k=>by rw [aA.j2]) ?_
    refine jl e1 (ay rfl (jl e2 (jl e3 (jl e4 (ay (by omega) ?_)))))
    rw [show wrap64 (((d+1:Nat):Int)-1)=(d:Int) by rw [fI (by omega) (by omega)];omega]
    exact H
theorem GB (s:List Int) (hb:bytes s):∀(d:Nat) (out:List iK) (p x:Int),out.length+d≤900→0≤p→p+20*d≤1152921504606800000→∃l p' x',Ev (fun k=>aA.l0 k out (d:Int) s p x) (l,p',x')∧l.length≤out.length+d∧p≤p'∧p'≤p+20*d:=by
  intro d
  induction d with
  | zero =>
    intro out p x hl h0 h1
    exact ⟨out,p,x,aQ (fun k=>by rw [aA.l0]) (bG (by omega) (bY rfl)),by omega,by omega,by omega⟩
  | succ d ih =>
    intro out p x hl h0 h1
    obtain ⟨a,p1,x1,e1,_,g1,g2⟩:=wQ s hb p x [1,1,1,2,2,2,3] (by decide) (by omega) (by push_cast at h1;omega)
    obtain ⟨b,p2,x2,e2,_,g3,g4⟩:=lK s hb p1 x1 4 (by omega) (by push_cast at h1;omega)
    by_cases ha:a=1
    · obtain ⟨t,p3,x3,e3,g5,g6⟩:=XM s hb p2 x2 [(⟨#[97]⟩:ByteArray),(⟨#[98]⟩:ByteArray),(⟨#[]⟩:ByteArray),(⟨#[104,101,108,108,111]⟩:ByteArray),(⟨#[102,111,117,114,116,101,101,110,32,98,121,116,101,115]⟩:ByteArray),(⟨#[102,105,102,116,101,101,110,32,98,121,116,101,115,46,46]⟩:ByteArray),(⟨#[128]⟩:ByteArray)] (by decide) (by omega) (by push_cast at h1;omega)
      obtain ⟨v,p4,x4,H,g7,g8⟩:=K6 s hb d out p3 x3 a b t (by omega) (by omega) (by push_cast at h1;omega)
      obtain ⟨l,p5,x5,E,PD,g9,g10⟩:=ih (out++[v]) p4 x4 (by simp;omega) (by omega) (by push_cast at h1;omega)
      refine ⟨l,p5,x5,?_,by simp at PD;omega,by omega,by push_cast;omega⟩
      refine aQ (fun k=>by rw [aA.l0]) (ay (by omega) ?_)
      exact (jl e1 (jl e2 (ay ha (jl e3 (H _ E)))))
    · obtain ⟨v,p4,x4,H,g7,g8⟩:=K6 s hb d out p2 x2 a b (⟨#[]⟩:ByteArray) (by omega) (by omega) (by push_cast at h1;omega)
      obtain ⟨l,p5,x5,E,PD,g9,g10⟩:=ih (out++[v]) p4 x4 (by simp;omega) (by omega) (by push_cast at h1;omega)
      refine ⟨l,p5,x5,?_,by simp at PD;omega,by omega,by push_cast;omega⟩
      refine aQ (fun k=>by rw [aA.l0]) (ay (by omega) ?_)
      exact (jl e1 (jl e2 (bG ha (H _ E))))
theorem Fb (s:List Int) (hb:bytes s) (p x:Int) (h0:0≤p) (h1:p≤1152921504606000000):∃l p' x',Ev (fun k=>aA.f k s p x) (l,p',x')∧l.length≤62∧p≤p'∧p'≤p+2000:=by
  obtain ⟨r,p1,x1,e1,⟨r0,_,r2⟩,g1,g2⟩:=lK s hb p x 24 h0 (by omega)
  have:=r2 (by omega)
  obtain ⟨b,p2,x2,e2,g3,g4⟩:=GM s hb p1 x1 20 (by omega) (by omega)
  unfold aA.f
  cases b with
  | true =>
    obtain ⟨q,p3,x3,e3,⟨q0,_,q2⟩,g5,g6⟩:=lK s hb p2 x2 3 (by omega) (by omega)
    have:=q2 (by omega)
    obtain ⟨l,p4,x4,E,hl,g7,g8⟩:=GB s hb (59+q.toNat) [] p3 x3 (by simp;omega) (by omega) (by omega)
    rw [show ((59+q.toNat:Nat):Int)=59+q by omega] at E
    refine ⟨l,p4,x4,jl e1 (jl e2 (ay rfl (jl e3 (aQ (fun k=>rfl) ?_)))),by simp at hl;omega,by omega,by omega⟩
    dsimp only
    rw [fI (by omega) (by omega)]
    exact E
  | false =>
    obtain ⟨l,p4,x4,E,hl,g7,g8⟩:=GB s hb r.toNat [] p2 x2 (by simp;omega) (by omega) (by omega)
    rw [show ((r.toNat:Nat):Int)=r by omega] at E
    exact ⟨l,p4,x4,jl e1 (jl e2 (bG (by simp) (aQ (fun k=>rfl) E))),by simp at hl;omega,by omega,by omega⟩
theorem yc (s:List Int) (hb:bytes s):∃K l,Ev (fun k=>fM.f k s) (K,l)∧K.length≤6∧l.length≤62:=by
  obtain ⟨K,p1,x1,e1,h1,g1,g2⟩:=Js s hb 0 0 (by omega) (by omega)
  obtain ⟨l,p2,x2,e2,h2,g3,g4⟩:=Fb s hb p1 x1 (by omega) (by omega)
  refine ⟨K,l,?_,h1,h2⟩
  unfold fM.f
  exact bI e1 (bI e2 (bY rfl))
theorem QM (s:List Int) (hb:bytes s):∀(j:Nat) (d:List Bool) (p x:Int),0≤p→p+2*j≤1152921504606800000→∃d' p' x',cz.l0 s j d p x=some (d',p',x')∧d'.length=d.length+j∧p≤p'∧p'≤p+2*j
  |0,d,p,x,_,_=>⟨d,p,x,rfl,rfl,Int.le_refl _,by omega⟩
  | j + 1, d, p, x, h0, h1 => by
    obtain ⟨b,p1,x1,e1,g1,g2⟩:=GM s hb p x 2 h0 (by push_cast at h1;omega)
    obtain ⟨d',p',x',e,hd,g3,g4⟩:=QM s hb j (d++[b]) p1 x1 (by omega) (by push_cast at h1;omega)
    refine ⟨d',p',x',?_,by simp at hd;omega,by omega,by push_cast;omega⟩
    unfold cz.l0
    rw [e1]
    exact e
theorem Dv (s:List Int) (hb:bytes s):∃o dd u,Ev (fun k=>cz.f k s) (o,dd,u)∧o.length≤62∧dd.length≤1048576:=by
  obtain ⟨K,l,e1,h1,h2⟩:=yc s hb
  have e2:=GH K l (by omega)
  obtain ⟨_,h3⟩:=vA K l
  generalize mJ K l=N at e2 h3
  obtain ⟨n,d,q⟩:=N
  have h3:d.length≤1048576:=h3
  unfold cz.f
  cases q with
  | true =>
    obtain ⟨r,p1,x1,e3,_,_,_⟩:=lK s hb 0 0 6 (by omega) (by omega)
    exact ⟨l,d,wrap64 (r-1),bI e1 (bI e2 (ay rfl (jl e3 (bY rfl)))),h2,h3⟩
  | false =>
    obtain ⟨d',p',x',e4,hd,g1,g2⟩:=QM s hb l.length [] 0 0 (by omega) (by omega)
    obtain ⟨r,p1,x1,e3,_,_,_⟩:=lK s hb p' x' 6 (by omega) (by omega)
    exact ⟨l,d',wrap64 (r-1),bI e1 (bI e2 (bG (by simp) (ay (by omega) (jl e4 (jl e3 (bY rfl)))))),h2,by simp at hd;omega⟩
theorem eif {α:Type} {c:Nat→Prop} [∀k,Decidable (c k)] {g f:Nat→Option α} {r:α} (h:∃K,∀k,K≤k→c k) (e:Ev g r):Ev (fun k=>if c k then g k else f k) r:=by
  obtain ⟨K,h⟩:=h
  obtain ⟨L,e⟩:=e
  exact ⟨max K L,fun k hk=>by simp only [if_pos (h k (by omega))];exact e k (by omega)⟩
theorem rQ:∀(l:List (List ByteArray)),(∀j,j<l.length→l.getD j []=[])→lO l=0
  |[],_=>rfl
  | x :: r, h => by
    have h0:=h 0 (by simp)
    have:lO r=0:=rQ r (fun j hj=>by have:=h (j+1) (by simpa using hj);simpa using this)
    simp at h0
    unfold lO
    rw [this,h0];rfl
theorem GV {K:List Int} (h1:ku 1 4 (K.length:Int)=true) (h2:K.all (ku 0 65535)=true) (l:List iK) (h3:l.length≤60) (u:Nat) (hu:u<4):Ev (fun k=>dx.u k (jK (fZ l (fT K) []).1) l (fZ l (fT K) []).2 (u:Int)) true:=by
  obtain ⟨g,gd⟩:=uy l (fT K) [] (qQ h1 h2)
  have gs:=Af g
  obtain ⟨s0,s1,s2,s3⟩:=oU gs
  have e1:=L1 _ _ _ _ (jK (fZ l (fT K) []).1).sd (u:Int) s0 s1 s2 s3
  have hg:=qR gs
  have hr:ku 0 3 (u:Int)=true:=fD.2 (by omega)
  have hH:=(xB h1 h2 l).2 u hu
  generalize jK (fZ l (fT K) []).1=S at*
  have e2:=Dg l (fZ l (fT K) []).2 (u:Int) (by omega) (by rw [gd];simp;omega)
  have hp:qo l (fZ l (fT K) []).2 (u:Int)=(jN (u:Int) l (fZ l (fT K) []).2,true):=if_pos ⟨h3,by rw [gd];simp,hr⟩
  rw [hp] at e2
  have hi:AW S.ks S.ps S.ss S.ib S.sd (u:Int)=(jN (u:Int) l (fZ l (fT K) []).2,true):=by
    unfold AW
    rw [if_pos (by rw [hg,hr];rfl),Int.toNat_natCast,←hH]
    rfl
  rw [hi] at e1
  unfold dx.u
  exact bI e1 (ay rfl (bI e2 (ay rfl (qm _ (Nat.le_trans (sy _ _ _) (by omega))))))
theorem XN {K:List Int} (h1:ku 1 4 (K.length:Int)=true) (h2:K.all (ku 0 65535)=true) (l:List iK) (h3:l.length≤60):Ev (fun k=>dx.m k (fZ l (fT K) []).1 l (fZ l (fT K) []).2) true:=by
  obtain ⟨g,gd⟩:=uy l (fT K) [] (qQ h1 h2)
  have gs:=Af g
  obtain ⟨p0,p1,p2,p3⟩:=oU g
  obtain ⟨s0,s1,s2,s3⟩:=oU gs
  have hk:=AD l (fT K) [] (qQ h1 h2)
  have e1:=Jh (fZ l (fT K) []).1 p0 p1 p2 p3
  rw [show Av (fZ l (fT K) []).1=(jK (fZ l (fT K) []).1,true) from if_pos (qR g)] at e1
  have e2:=LZ _ _ _ _ (jK (fZ l (fT K) []).1).sd s0 s1 s2 s3
  have hz:lO (jK (fZ l (fT K) []).1).ps=0:=rQ _ (fun j hj=>(xB h1 h2 l).1 j (by
    have:=(sR (fZ l (fT K) []).1.ks.length 0 g (by omega)).2.1
    have e:(jK (fZ l (fT K) []).1).ks=K:=this.trans hk
    rw [gs.pl,e] at hj
    exact hj))
  rw [show xN _ _ _ _ _=((0:Int),true) from (if_pos (qR gs)).trans (by rw [hz])] at e2
  have e3:=qv _ _ _ _ (fZ l (fT K) []).1.sd p0 p1 p2 p3
  have e4:=qv _ _ _ _ (jK (fZ l (fT K) []).1).sd s0 s1 s2 s3
  rw [qR g] at e3
  rw [qR gs] at e4
  obtain ⟨K0,u0⟩:=GV h1 h2 l h3 0 (by omega)
  obtain ⟨K1,u1⟩:=GV h1 h2 l h3 1 (by omega)
  obtain ⟨K2,u2⟩:=GV h1 h2 l h3 2 (by omega)
  obtain ⟨K3,u3⟩:=GV h1 h2 l h3 3 (by omega)
  unfold dx.m
  exact bI e1 (ay rfl (bI e2 (ay ⟨rfl,rfl⟩ (bI e3 (ay rfl (bI e4 (eif ⟨max (max K0 K1) (max K2 K3),fun k hk=>⟨rfl,u0 k (by omega),u1 k (by omega),u2 k (by omega),u3 k (by omega)⟩⟩ (bY rfl))))))))
theorem abu:dx.Pure:=by
  intro s t _ _ hs _ _ ht
  have hs:=DN hs
  have ht:=DN ht
  apply Ev.rounds
  unfold dx.f
  by_cases hb:wrap64 ((s.length:Int)+(t.length:Int))>1048576
  · exact ay hb (bY rfl)
  refine bG hb ?_
  obtain ⟨K,l,d1,d2,d3⟩:=yc s hs
  obtain ⟨o,dd,u,d4,d5,d6⟩:=Dv t ht
  have e2:=GH K l (by omega)
  have e3:=ON K l (by omega)
  have hm:(mJ K l).2.2=true→Ev (fun k=>dx.m k (mJ K l).1 l (mJ K l).2.1) true:=by
    unfold mJ
    intro h
    by_cases c:(ku 1 4 (K.length:Int)&&K.all (ku 0 65535))=true∧l.length≤60
    · rw [if_pos c]
      rw [Bool.and_eq_true] at c
      exact XN c.1.1 c.1.2 l c.2
    · rw [if_neg c] at h
      cases h
  obtain ⟨⟨s0,s1,s2,s3⟩,s4⟩:=vA K l
  generalize mJ K l=N at*
  obtain ⟨n,d,q⟩:=N
  have e4:=CW d s4
  have e5:=Jj n.ks n.ps n.ss n.ib n.sd s0 s1 s2 s3
  have e6:=Dg o dd u (by omega) d6
  have e7:=La o dd u (by omega) d6
  have hl:=EP o dd u
  generalize qo o dd u=p at*
  have e8:=qm p.1 (by omega)
  refine bI d1 (bI e3 (bI e2 (bI e4 (ay ⟨rfl,rfl⟩ (bI e5 (eif ?_ (bI d4 (bI e6 (bI e7 (ay rfl e8))))))))))
  cases q with
  |false=>exact ⟨0,fun _ _=>⟨rfl,fun h=>by cases h⟩⟩
  | true =>
    obtain ⟨K0,h0⟩:=hm rfl
    exact ⟨K0,fun k hk=>⟨rfl,fun _=>h0 k hk⟩⟩
end Go.Proofs.YtihekdlcfohkkaaGreatDoor.Pure
