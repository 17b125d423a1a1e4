/- The law FnNets, told over lists: for what is drawn the program's StepNet, SettleNet, LettersIn, InboxOf and NewNet answer as the reference's; a step of a good net leaves a good one with one letter more at most, a tick with none more, and what is in an inbox stays its beginning. No condition. -/
import Derived.Test.YtihekdlcfohkkaaGreatDoorQFnNetsx15
import Derived.Test.YtihekdlcfohkkaaGreatDoorPk
namespace Go.Proofs.YtihekdlcfohkkaaGreatDoor.Pure
open Go.RowKit Go.Proofs.YtihekdlcfohkkaaGreatDoor.QFnNets Go.Proofs.YtihekdlcfohkkaaGreatDoorW.PrintWords Go.Proofs.YtihekdlcfohkkaaGreatDoorW.PrintLast Go.Proofs.YtihekdlcfohkkaaGreatDoorW.PrintMore Go.Proofs.YtihekdlcfohkkaaGreatDoor
set_option linter.unusedVariables false
set_option linter.unusedSimpArgs false
open Pk
theorem GM {a b A B:Int} (ha:0≤a∧a≤A) (hb:0≤b∧b≤B):0≤a*b∧a*b≤A*B:=⟨Int.mul_nonneg ha.1 hb.1,Int.mul_le_mul ha.2 hb.2 hb.1 (by omega)⟩
theorem pE (a n:Int) (ha:0≤a) (hn:0<n):0≤Int.tmod a n∧Int.tmod a n≤n-1:=by
  have h1:=Int.tmod_nonneg n ha
  have h2:=Int.tmod_lt_of_pos a hn
  omega
theorem Ch (a n m:Int) (ha:0≤a) (hn:0<n) (hm:a<n*(m+1)):0≤Int.tdiv a n∧Int.tdiv a n≤m:=by
  rw [Int.tdiv_eq_ediv_of_nonneg ha]
  exact ⟨Int.ediv_nonneg ha (by omega),by have:=Int.ediv_lt_of_lt_mul hn (show a<(m+1)*n by rw [Int.mul_comm];exact hm);omega⟩
theorem VC (key half:Int) (hk:0≤key∧key≤65535) (hh:0≤half∧half≤255):∃r,jM.f key half=some r∧0≤r∧r≤255:=by
  unfold jM.f
  have h1:=pE key 256 hk.1 (by omega)
  have h2:=Ch key 256 255 hk.1 (by omega) (by omega)
  rw [fK (x:=half+Int.tmod key 256) (by omega) (by omega),fK (x:=Int.tdiv key 256) (by omega) (by omega)]
  have h3:=pE (half+Int.tmod key 256) 256 (by omega) (by omega)
  generalize Int.tmod (half+Int.tmod key 256) 256=x at h3⊢
  generalize Int.tdiv key 256=d at h2⊢
  have h4:=GM (A:=255) (B:=255) h3 h3
  have h5:=GM (A:=255) (B:=255) h3 h2
  rw [fK (x:=x*x) (by omega) (by omega),fK (x:=x*d) (by omega) (by omega),fK (x:=x*x+x*d) (by omega) (by omega),fK (x:=x*x+x*d+29) (by omega) (by omega)]
  have h6:=pE (x*x+x*d+29) 65521 (by omega) (by omega)
  exact ⟨_,rfl,pE _ 256 h6.1 (by omega)⟩
theorem aeE {a b:Int} (ha:0≤a∧a≤255) (hb:0≤b∧b≤255):0≤Go.bits .xor .i64 a b∧Go.bits .xor .i64 a b≤255:=by
  obtain ⟨x,rfl⟩:=Int.eq_ofNat_of_zero_le ha.1
  obtain ⟨y,rfl⟩:=Int.eq_ofNat_of_zero_le hb.1
  have e:(2:Nat)^62=4611686018427387904:=by decide
  rw [aco x y (by omega) (by omega)]
  have:=Nat.xor_lt_two_pow (n:=8) (show x<2^8 by omega) (show y<2^8 by omega)
  omega
theorem EF:∀(k:Nat) (a b:Int) (l:List Int) (n i:Int),gm.l0 k a b l n i=ee.l0 k a b l n i
  |0,_,_,_,_,_=>rfl
  | k + 1, a, b, l, n, i => by
    rw [gm.l0,ee.l0,Int.mul_comm a 256]
    have:nK.f=jM.f:=rfl
    rw [this]
    simp only [EF k]
theorem aaP (l:List Int) (hn:l.length≤8) (hl:∀x∈l,0≤x∧x≤65535):∀(d i:Nat) (a b:Int),i+d=l.length→0≤a∧a≤255→0≤b∧b≤255→∃r,0≤r∧r≤65535∧Ev (fun k=>ee.l0 k a b l (l.length:Int) (i:Int)) r:=by
  intro d
  induction d with
  | zero =>
    intro i a b hi ha hb
    refine ⟨256*a+b,by omega,by omega,bf (fun k=>by rw [ee.l0]) (bO (by omega) (cu ?_))⟩
    rw [fK (x:=256*a) (by omega) (by omega),fK (by omega) (by omega)]
  | succ d ih =>
    intro i a b hi ha hb
    have fl:i<l.length:=by omega
    obtain ⟨r,e,hr⟩:=VC l[i] b (hl _ (List.getElem_mem fl)) hb
    obtain ⟨q,q1,q2,q3⟩:=ih (i+1) b (Go.bits .xor .i64 a r) (by omega) hb (aeE ha hr)
    refine ⟨q,q1,q2,bf (fun k=>by rw [ee.l0]) (aC (by omega) (aC (by omega) (aC (by omega) ?_)))⟩
    rw [show rd l (i:Int)=l[i] from pJ l i fl]
    refine jh e ?_
    rw [fK (x:=(i:Int)+1) (by omega) (by omega)]
    exact q3
theorem aaQ (key b:Int) (hk:0≤key∧key≤65535) (hb:0≤b∧b≤65535):∃r,0≤r∧r≤65535∧Ev (fun k=>ee.f k [key,key,key] b) r∧Ev (fun k=>gm.f k [key,key,key] b) r:=by
  have h1:=Ch b 256 255 hb.1 (by omega) (by omega)
  have h2:=pE b 256 hb.1 (by omega)
  obtain ⟨r,r1,r2,r3⟩:=aaP [key,key,key] (by simp) (by intro x hx;simp at hx;subst hx;exact hk) 3 0 (Int.tdiv b 256) (Int.tmod b 256) rfl h1 (by omega)
  have e:Ev (fun k=>ee.f k [key,key,key] b) r:=by
    unfold ee.f
    rw [fK (x:=Int.tdiv b 256) (by omega) (by omega)]
    exact r3
  refine ⟨r,r1,r2,e,?_⟩
  have e2:(fun k=>gm.f k [key,key,key] b)=fun k=>ee.f k [key,key,key] b:=by
    funext k
    unfold gm.f ee.f
    exact EF k _ _ _ _ _
  rw [e2]
  exact e
def zT:ByteArray:=strOfNums (List.replicate 24 0)
theorem Td:∀n:Nat,n<24→bt zT (n:Int)=0:=by decide
theorem xC:zT.size=24:=by decide
theorem Z7 (x:Int) (h:0≤x∧x≤65535):Go.bits .xor .i64 0 x=x:=by
  obtain ⟨y,rfl⟩:=Int.eq_ofNat_of_zero_le h.1
  have e:(2:Nat)^62=4611686018427387904:=by decide
  have:=aco 0 y (by omega) (by omega)
  rw [Nat.zero_xor] at this
  exact this
theorem Vm (key:Int) (hk:0≤key∧key≤65535):∀(d j:Nat) (st:Int) (out:List Int),j+d=12→out.length=2*j→0≤st∧st≤65535→
    ∃r:List Int,r.length=24∧Ev (fun k=>dB.l0 k [key,key,key] st zT out ((2*j:Nat):Int)) (strOfNums r,true)∧Ev (fun k=>dK.l0 k [key,key,key] st zT out ((2*j:Nat):Int)) (strOfNums r):=by
  intro d
  induction d with
  | zero =>
    intro j st out hj ho hs
    have h24:¬((2*j:Nat):Int)<(zT.size:Int):=by rw [xC];omega
    exact ⟨out,by omega,bf (fun k=>by rw [dB.l0]) (bO h24 (cu rfl)),bf (fun k=>by rw [dK.l0]) (bO h24 (cu rfl))⟩
  | succ d ih =>
    intro j st out hj ho hs
    obtain ⟨m,m1,m2,m3,m4⟩:=aaQ key st hk hs
    have hd:=Ch m 256 255 m1 (by omega) (by omega)
    have hm:=pE m 256 m1 (by omega)
    have ed:Int.tdiv m 256=m/256:=Int.tdiv_eq_ediv_of_nonneg m1
    have em:Int.tmod m 256=m%256:=Int.tmod_eq_emod_of_nonneg m1
    obtain ⟨r,r1,r2,r3⟩:=ih (j+1) m (out++[(m/256)%256,m%256]) (by omega) (by simp;omega) ⟨m1,m2⟩
    have z0:bt zT ((2*j:Nat):Int)=0:=Td _ (by omega)
    have z1:bt zT (((2*j:Nat):Int)+1)=0:=by
      have:=Td (2*j+1) (by omega)
      simpa using this
    have hw:wrap64 (((2*j:Nat):Int)+1)=((2*j:Nat):Int)+1:=fK (by omega) (by omega)
    have hw2:wrap64 (((2*j:Nat):Int)+2)=((2*(j+1):Nat):Int):=by rw [fK (by omega) (by omega)];omega
    have w0:wrap64 0=0:=fK (by omega) (by omega)
    have sr:(zT.size:Int)=24:=by rw [xC];rfl
    refine ⟨r,r1,bf (fun k=>by rw [dB.l0]) ?_,bf (fun k=>by rw [dK.l0]) ?_⟩
    · rw [hw,hw2,sr,z0,z1,w0,Int.mul_zero,w0,Int.zero_add,w0,Z7 st hs]
      refine aC (by omega) (aC (by omega) (aC (by omega) (aC (by omega) (bz m3 ?_))))
      rw [fK (x:=Int.tdiv m 256) (by omega) (by omega),ed,em,show m%256%256=m%256 by omega]
      exact jh rfl (aC (by simp;omega) r2)
    · rw [hw,hw2,sr,z0,z1,w0,Int.zero_mul,w0,show Go.bits .or .i64 (0:Int) 0=0 by decide,Z7 st hs]
      exact aC (by omega) (aC (by omega) (aC (by omega) (aC (by omega) (bz m4 (jh rfl (aC (by simp;omega) r3))))))
theorem Rz (key:Int) (hk:0≤key∧key≤65535):Ev (fun k=>gC.f k [key,key,key] key zT) true:=by
  have Ob:bE.f key 0 65535=some true:=by unfold bE.f;rw [if_pos (by omega),decide_eq_true hk.2]
  have uC:∀(d i:Nat),i+d=3→Ev (fun k=>cm.l0 k 0 65535 [key,key,key] ((3:Nat):Int) (i:Int)) true:=by
    intro d
    induction d with
    |zero=>intro i hi;exact bf (fun k=>by rw [cm.l0]) (bO (by omega) (cu rfl))
    | succ d ih =>
      intro i hi
      refine bf (fun k=>by rw [cm.l0]) (aC (by omega) (aC (by omega) (aC (by simp;omega) ?_)))
      have e:rd [key,key,key] (i:Int)=key:=by
        have:i=0∨i=1∨i=2:=by omega
        rcases this with rfl|rfl|rfl<;>rfl
      rw [e]
      refine jh Ob (aC rfl ?_)
      rw [fK (x:=(i:Int)+1) (by omega) (by omega)]
      exact ih (i+1) (by omega)
  unfold gC.f
  refine bz (a:=true) ?_ (aC rfl ?_)
  · unfold iU.f
    refine aC (by simp) (bz (a:=true) ?_ (cu rfl))
    exact uC 3 0 rfl
  · have e:gj.f key=some true:=by unfold gj.f;rw [Ob];rfl
    refine jh e (aC rfl (aC ?_ (cu ?_)))
    · rw [xC];decide
    · rw [xC];decide
theorem Nc (key:Int) (hk:0≤key∧key≤65535):∃p:ByteArray,p.size=24∧Ev (fun k=>jb.f k key 24) p∧Ev (fun k=>lf.f k key 24) p:=by
  obtain ⟨r,r1,r2,r3⟩:=Vm key hk 12 0 key [] rfl rfl hk
  refine ⟨strOfNums r,by simp [strOfNums,ByteArray.size,r1],?_,?_⟩
  · unfold jb.f
    refine aC (by omega) (aC (by decide) (bz (a:=(strOfNums r,true)) ?_ (cu rfl)))
    unfold dB.f
    exact bz (Rz key hk) (aC rfl r2)
  · unfold lf.f
    refine bz (a:=zT) ?_ (bz (a:=strOfNums r) ?_ (cu rfl))
    · unfold strings_Repeat.f
      exact aC (by omega) (aC (by decide) (aC (by decide) (cu (by decide))))
    · unfold dK.f
      exact r3
theorem m8 {α:Type} {g:Nat→Option α} {r:α} (h:∀k,g k=some r):Ev g r:=⟨0,fun k _=>h k⟩
def wW (L:List UInt8):List UInt8:=match L.dropWhile (· ==0) with
  |[]=>[]
  |b::r=>if b=128 then r.reverse else []
def unp (s:ByteArray):ByteArray:=⟨(wW s.data.toList.reverse).toArray⟩
theorem r7 (s:ByteArray) (n:Nat):s.extract 0 n=⟨(s.data.toList.take n).toArray⟩:=by
  apply ByteArray.ext
  rw [ByteArray.data_extract]
  apply Array.ext'
  simp
theorem JO (s:ByteArray) (n:Nat) (h:n<s.data.toList.length):bt s (n:Int)=(s.data.toList[n].toNat:Int):=by
  have h':n<s.size:=by rw [Array.length_toList] at h;exact h
  rw [←jJ s n h']
  simp [ByteArray.getElem_eq_getElem_data]
theorem Ms {b:UInt8} {n:Nat} (hn:n<256):((b.toNat:Int)=(n:Int))↔b=UInt8.ofNat n:=by
  constructor
  · intro h
    apply UInt8.toNat_inj.1
    rw [UInt8.toNat_ofNat',Nat.mod_eq_of_lt hn]
    omega
  · rintro rfl
    rw [UInt8.toNat_ofNat',Nat.mod_eq_of_lt hn]
theorem aaj (s:ByteArray) (hs:s.size=16):∀n:Nat,n≤15→∃q,Ev (fun k=>di.l0 k s (n:Int)) (⟨(wW (s.data.toList.reverse.drop (15-n))).toArray⟩,q):=by
  have hl:s.data.toList.length=16:=by rw [Array.length_toList];exact hs
  have hd:∀n:Nat,(h:n≤15)→s.data.toList.reverse.drop (15-n)=s.data.toList[n]'(by omega)::(s.data.toList.take n).reverse:=by
    intro n h
    rw [List.drop_eq_getElem_cons (by simp;omega),List.getElem_reverse]
    congr 1
    · congr 1;simp at hl⊢;omega
    · rw [List.drop_reverse];congr 2;omega
  intro n
  induction n with
  | zero =>
    intro _
    have e:=JO s 0 (by omega)
    rw [hd 0 (by omega)]
    generalize s.data.toList[0]'(by omega)=b at e⊢
    by_cases hb:b=128
    · refine ⟨true,bf (fun k=>by rw [di.l0]) (bO (by omega) (aC (by omega) (aC (by rw [hs];omega) (aC ?_ (aC (by rw [hs];omega) (cu ?_))))))⟩
      · rw [show ((0:Nat):Int)=0 from rfl] at e⊢;rw [e,hb];decide
      · rw [hb,show (((0:Nat):Int)).toNat=0 from rfl,r7];simp [wW]
    · refine ⟨false,bf (fun k=>by rw [di.l0]) (bO (by omega) (aC (by omega) (aC (by rw [hs];omega) (bO ?_ (cu ?_)))))⟩
      · rw [e];intro h;exact hb ((Ms (n:=128) (by omega)).1 h)
      · by_cases h0:b=0
        · subst h0;simp [wW]
        · simp [wW,h0,hb]
  | succ n ih =>
    intro hn
    have e:=JO s (n+1) (by omega)
    obtain ⟨q,hq⟩:=ih (by omega)
    rw [hd (n+1) hn]
    rw [hd n (by omega)] at hq
    have af6:(s.data.toList.take (n+1)).reverse=s.data.toList[n]'(by omega)::(s.data.toList.take n).reverse:=by
      rw [List.take_succ_eq_append_getElem (by omega)];simp
    generalize s.data.toList[n+1]'(by omega)=b at e⊢
    by_cases h0:b=0
    · refine ⟨q,bf (fun k=>by rw [di.l0]) (aC (by omega) (aC (by omega) (aC (by rw [hs];omega) (aC (by rw [e,h0];rfl) ?_))))⟩
      rw [fK (x:=((n+1:Nat):Int)-1) (by omega) (by omega),show ((n+1:Nat):Int)-1=(n:Int) by omega,af6]
      have:wW (b::s.data.toList[n]'(by omega)::(s.data.toList.take n).reverse)=wW (s.data.toList[n]'(by omega)::(s.data.toList.take n).reverse):=by
        subst h0;unfold wW;rw [List.dropWhile_cons_of_pos (by rfl)]
      rw [this]
      exact hq
    · have vl:¬bt s ((n+1:Nat):Int)=0:=by rw [e];intro h;exact h0 ((Ms (n:=0) (by omega)).1 h)
      have hu:wW (b::(s.data.toList.take (n+1)).reverse)=if b=128 then s.data.toList.take (n+1) else []:=by
        unfold wW;rw [List.dropWhile_cons_of_neg (by simpa using h0)];simp
      rw [hu]
      by_cases hb:b=128
      · refine ⟨true,bf (fun k=>by rw [di.l0]) (aC (by omega) (aC (by omega) (aC (by rw [hs];omega) (bO vl (aC (by rw [e,hb];decide) (aC (by rw [hs];omega) (cu ?_)))))))⟩
        rw [if_pos hb,show (((n+1:Nat):Int)).toNat=n+1 from rfl,r7]
      · refine ⟨false,bf (fun k=>by rw [di.l0]) (aC (by omega) (aC (by omega) (aC (by rw [hs];omega) (bO vl (bO ?_ (cu ?_))))))⟩
        · rw [e];intro h;exact hb ((Ms (n:=128) (by omega)).1 h)
        · rw [if_neg hb]
theorem Vj (s:ByteArray) (hs:s.size=16):∃q,Ev (fun k=>di.f k s) (unp s,q):=by
  obtain ⟨q,h⟩:=aaj s hs 15 (by omega)
  refine ⟨q,?_⟩
  unfold di.f
  refine aC (by rw [hs];rfl) ?_
  rw [hs,fK (by omega) (by omega)]
  exact h
theorem Vk (s:ByteArray) (hs:s.size=16):∃q,Ev (fun k=>jt.f k s) (unp s,q):=by
  have hT:∀k,fq.f k s (⟨#[0]⟩:ByteArray)=some ⟨(Lib.trimRightB s.data.toList 0).toArray⟩:=by
    intro k
    show (if (0:UInt8).toNat<128 then (if s.size≤9223372036854775807 then some _ else none) else none)=_
    rw [if_pos (by decide),if_pos (by omega)]
  have hlen:∀L:List UInt8,(L.dropWhile (· ==0)).length≤L.length:=fun L=>(List.dropWhile_suffix _).length_le
  have hl:s.data.toList.length=16:=by rw [Array.length_toList];exact hs
  have h1:=hlen s.data.toList.reverse
  rw [List.length_reverse,hl] at h1
  unfold jt.f
  have hz:Lib.trimRightB s.data.toList 0=(s.data.toList.reverse.dropWhile (· ==0)).reverse:=rfl
  unfold unp wW
  rw [hz] at hT
  generalize hD:s.data.toList.reverse.dropWhile (· ==0)=D at hT h1
  have hS:∀k,strings_HasSuffix.f k (⟨D.reverse.toArray⟩:ByteArray) (⟨#[128]⟩:ByteArray)=some ([128].isPrefixOf D):=by
    intro k
    unfold strings_HasSuffix.f
    rw [if_pos (by simp [ByteArray.size];omega)]
    simp [Lib.hasSuffix,List.isSuffixOf]
  cases D with
  | nil =>
    refine ⟨false,bz (m8 hT) (aC (by rw [hs];rfl) (bz (m8 hS) (bO (by simp) (cu rfl))))⟩
  | cons b r =>
    by_cases hb:b=128
    · subst hb
      have sr:(⟨(128::r:List UInt8).reverse.toArray⟩:ByteArray).size=r.length+1:=by simp [ByteArray.size]
      have hr:r.length≤15:=by simpa using h1
      have hw:wrap64 (((r.length+1:Nat):Int)-1)=(r.length:Int):=by rw [fK (by omega) (by omega)];omega
      refine ⟨true,bz (m8 hT) (aC (by rw [hs];rfl) (bz (m8 hS) (aC (by simp) ?_)))⟩
      rw [sr,hw]
      refine aC (by omega) (aC (by omega) (cu ?_))
      rw [Int.toNat_natCast,r7]
      simp
    · refine ⟨false,bz (m8 hT) (aC (by rw [hs];rfl) (bz (m8 hS) (bO (by simp;exact fun h=>hb h.symm) (cu ?_))))⟩
      simp [hb]
theorem abP (s:ByteArray) (hs:s.size≤64):∀(d i:Nat) (a:Int),i+d=s.size→0≤a→a≤20000*i→∃r,0≤r∧r≤250∧Ev (fun k=>eo.l0 k s a (i:Int)) r∧Ev (fun k=>fo.l0 k s a (s.size:Int) (i:Int)) r:=by
  intro d
  induction d with
  | zero =>
    intro i a hi h0 h1
    have h2:=pE a 251 h0 (by omega)
    exact ⟨_,h2.1,h2.2,bf (fun k=>by rw [eo.l0]) (bO (by omega) (cu rfl)),bf (fun k=>by rw [fo.l0]) (bO (by omega) (cu rfl))⟩
  | succ d ih =>
    intro i a hi h0 h1
    have hb:=nN s (i:Int)
    have hm:=GM (a:=bt s (i:Int)) (b:=(i:Int)+1) (A:=255) (B:=64) hb (by omega)
    obtain ⟨r,r1,r2,r3,r4⟩:=ih (i+1) (a+bt s (i:Int)*((i:Int)+1)) (by omega) (by omega) (by omega)
    refine ⟨r,r1,r2,bf (fun k=>by rw [eo.l0]) (aC (by omega) (aC (by omega) ?_)),bf (fun k=>by rw [fo.l0]) (aC (by omega) (aC (by omega) (aC (by omega) ?_)))⟩
    all_goals
      rw [fK (x:=bt s (i:Int)) (by omega) (by omega),fK (x:=(i:Int)+1) (by omega) (by omega),fK (x:=bt s (i:Int)*((i:Int)+1)) (by omega) (by omega),fK (x:=a+bt s (i:Int)*((i:Int)+1)) (by omega) (by omega)]
    · exact r3
    · exact r4
theorem OO (s:ByteArray) (hs:s.size≤64):∃r,0≤r∧r≤250∧Ev (fun k=>eo.f k s) r∧Ev (fun k=>fo.f k s) r:=abP s hs s.size 0 0 (by omega) (by omega) (by omega)
open Classical in
noncomputable def pL (key:Int):ByteArray:=if h:0≤key∧key≤65535 then Classical.choose (Nc key h) else ⟨#[]⟩
theorem Ct (key:Int) (hk:0≤key∧key≤65535):(pL key).size=24∧Ev (fun k=>jb.f k key 24) (pL key)∧Ev (fun k=>lf.f k key 24) (pL key):=by
  unfold pL
  rw [dif_pos hk]
  exact Classical.choose_spec (Nc key hk)
open Classical in
noncomputable def OP (s:ByteArray):Int:=if h:s.size≤64 then Classical.choose (OO s h) else 0
theorem JF (s:ByteArray) (hs:s.size≤64):0≤OP s∧OP s≤250∧Ev (fun k=>eo.f k s) (OP s)∧Ev (fun k=>fo.f k s) (OP s):=by
  unfold OP
  rw [dif_pos hs]
  exact Classical.choose_spec (OO s hs)
theorem rP (a b:ByteArray):(qD a b).size=a.size:=by
  unfold qD strOfNums
  show (List.toArray _).size=_
  rw [List.size_toArray]
  simp
noncomputable def tT (key:Int) (s:ByteArray):Option (Int×ByteArray×ByteArray):=
  let t:=qD s (pL key)
  if 1≤bt t 0∧bt t 0≤250∧bt t 1=OP (t.extract 2 18) then some (bt t 0,t.extract 2 t.size++(⟨#[0,0]⟩:ByteArray),unp ((t.extract 2 t.size++(⟨#[0,0]⟩:ByteArray)).extract 0 16)) else none
def IP:Option (Int×ByteArray×ByteArray)→Int×ByteArray×ByteArray×Bool
  |some (x,y,b)=>(x,y,b,true)
  |none=>(0,⟨#[]⟩,⟨#[]⟩,false)
theorem vE (key:Int) (s:ByteArray) (hs:s.size=24) {x:Int} {y b:ByteArray} (h:tT key s=some (x,y,b)):y.size=24∧1≤x∧x≤250∧b.size≤15:=by
  unfold tT at h
  dsimp only at h
  split at h
  · rename_i hc
    simp only [Option.some.injEq,Prod.mk.injEq] at h
    obtain ⟨rfl,rfl,rfl⟩:=h
    have ht:(qD s (pL key)).size=24:=by rw [rP,hs]
    have h2:((qD s (pL key)).extract 2 (qD s (pL key)).size++(⟨#[0,0]⟩:ByteArray)).size=24:=by rw [ByteArray.size_append,ByteArray.size_extract,ht];rfl
    refine ⟨h2,hc.1,hc.2.1,?_⟩
    generalize (qD s (pL key)).extract 2 (qD s (pL key)).size++(⟨#[0,0]⟩:ByteArray)=u at h2
    have h3:(u.extract 0 16).size=16:=by rw [ByteArray.size_extract,h2];rfl
    generalize u.extract 0 16=v at h3
    unfold unp wW
    have hl:v.data.toList.length=16:=by rw [Array.length_toList];exact h3
    have hlen:(v.data.toList.reverse.dropWhile (· ==0)).length≤16:=by
      have:=(List.dropWhile_suffix (l:=v.data.toList.reverse) (· ==(0:UInt8))).length_le
      rw [List.length_reverse,hl] at this
      exact this
    show (List.toArray _).size≤15
    rw [List.size_toArray]
    split
    · simp
    · rename_i b r hr
      rw [hr] at hlen
      split
      · simp at hlen⊢;omega
      · simp
  · cases h
theorem Rd (key:Int) (s:ByteArray) (hk:0≤key∧key≤65535) (hs:s.size=24):Ev (fun k=>dX.f k key s) (IP (tT key s)):=by
  obtain ⟨p1,p2,p3⟩:=Ct key hk
  have Ob:bE.f key 0 65535=some true:=by unfold bE.f;rw [if_pos (by omega),decide_eq_true hk.2]
  have e:gj.f key=some true:=by unfold gj.f;rw [Ob];rfl
  have hx:∀k,iB.f k s (pL key)=some (qD s (pL key)):=by intro k;unfold iB.f;rw [if_pos (by omega),if_pos (by omega)]
  have ht:(qD s (pL key)).size=24:=by rw [rP,hs]
  unfold dX.f tT
  refine jh e (aC ⟨rfl,hs⟩ (bz p2 (bz (m8 hx) (aC ht ?_))))
  dsimp only
  generalize qD s (pL key)=t at ht⊢
  have b0:=nN t 0
  have b1:=nN t 1
  have hc:=JF (t.extract 2 18) (by rw [ByteArray.size_extract,ht];decide)
  have hu:((t.extract 2 t.size++(⟨#[0,0]⟩:ByteArray)).extract 0 16).size=16:=by rw [ByteArray.size_extract,ByteArray.size_append,ByteArray.size_extract,ht];rfl
  obtain ⟨q,hq⟩:=Vj _ hu
  rw [fK (x:=bt t 0) (by omega) (by omega),fK (x:=bt t 1) (by omega) (by omega)]
  by_cases h0:1≤bt t 0
  · have hi:bE.f (bt t 0) 1 250=some (decide (bt t 0≤250)):=by unfold bE.f;rw [if_pos (by omega)]
    refine jh hi ?_
    by_cases h1:bt t 0≤250
    · refine aC (decide_eq_true h1) (bz hc.2.2.1 ?_)
      by_cases h2:bt t 1=OP (t.extract 2 18)
      · refine aC h2 (bz hq (cu ?_))
        rw [if_pos ⟨h0,h1,h2⟩];rfl
      · refine bO h2 (cu ?_)
        rw [if_neg (fun z=>h2 z.2.2)];rfl
    · refine bO (by simp;omega) (cu ?_)
      rw [if_neg (fun z=>h1 z.2.1)];rfl
  · have hi:bE.f (bt t 0) 1 250=some false:=by unfold bE.f;rw [if_neg (by omega)]
    refine jh hi (bO (by simp) (cu ?_))
    rw [if_neg (fun z=>h0 z.1)];rfl
theorem Re (key:Int) (s:ByteArray) (hk:0≤key∧key≤65535) (hs:s.size=24):Ev (fun k=>dY.f k key s) (IP (tT key s)):=by
  obtain ⟨p1,p2,p3⟩:=Ct key hk
  have Ob:bk.f key 0 65535=some true:=by unfold bk.f;rw [if_pos (by omega),decide_eq_true hk.2]
  have e:mD.f key=some true:=by unfold mD.f;rw [Ob];rfl
  have hx:∀k,kG.f k s (pL key)=some (qD s (pL key)):=by intro k;unfold kG.f;rw [if_pos (by omega),if_pos (by omega)]
  have ht:(qD s (pL key)).size=24:=by rw [rP,hs]
  unfold dY.f tT
  refine jh e (aC ⟨rfl,hs⟩ (bz p3 (bz (m8 hx) (aC ht ?_))))
  dsimp only
  generalize qD s (pL key)=t at ht⊢
  have b0:=nN t 0
  have b1:=nN t 1
  have hc:=JF (t.extract 2 18) (by rw [ByteArray.size_extract,ht];decide)
  have hu:((t.extract 2 t.size++(⟨#[0,0]⟩:ByteArray)).extract 0 16).size=16:=by rw [ByteArray.size_extract,ByteArray.size_append,ByteArray.size_extract,ht];rfl
  obtain ⟨q,hq⟩:=Vk _ hu
  rw [fK (x:=bt t 0) (by omega) (by omega),fK (x:=bt t 1) (by omega) (by omega)]
  by_cases h0:1≤bt t 0
  · have hi:kH.f (bt t 0)=some (decide (bt t 0≤250)):=by unfold kH.f bk.f;rw [if_pos (by omega)];rfl
    refine jh hi ?_
    by_cases h1:bt t 0≤250
    · refine aC (decide_eq_true h1) (bz hc.2.2.2 ?_)
      by_cases h2:bt t 1=OP (t.extract 2 18)
      · refine aC h2 (bz hq (cu ?_))
        rw [if_pos ⟨h0,h1,h2⟩];rfl
      · refine bO h2 (cu ?_)
        rw [if_neg (fun z=>h2 z.2.2)];rfl
    · refine bO (by simp;omega) (cu ?_)
      rw [if_neg (fun z=>h1 z.2.1)];rfl
  · have hi:kH.f (bt t 0)=some false:=by unfold kH.f bk.f;rw [if_neg (by omega)];rfl
    refine jh hi (bO (by simp) (cu ?_))
    rw [if_neg (fun z=>h0 z.1)];rfl
theorem Vl (a:UInt8):¬a<a:=fun z=>by have:=UInt8.lt_iff_toNat_lt.1 z;omega
theorem O5:∀x:List UInt8,Op.bytesLess x x=false
  |[]=>rfl
  | a :: x => by
    have h:=O5 x
    have:=Vl a
    simp [Op.bytesLess,this,h]
theorem Fv:∀x y z:List UInt8,Op.bytesLess x y=true→Op.bytesLess y z=true→Op.bytesLess x z=true
  |x,[],z=>fun h _=>by cases x<;>simp [Op.bytesLess] at h
  |x,_::_,[]=>fun _ h=>by simp [Op.bytesLess] at h
  |[],_::_,_::_=>fun _ _=>rfl
  | a :: x, b :: y, c :: z => fun h1 h2 => by
    have ih:=Fv x y z
    simp only [Op.bytesLess,Bool.or_eq_true,decide_eq_true_eq,Bool.and_eq_true,beq_iff_eq] at h1 h2⊢
    rcases h1 with h1|⟨rfl,h1⟩
    · rcases h2 with h2|⟨rfl,h2⟩
      · left
        have:=UInt8.lt_iff_toNat_lt.1 h1
        have:=UInt8.lt_iff_toNat_lt.1 h2
        exact UInt8.lt_iff_toNat_lt.2 (by omega)
      · exact Or.inl h1
    · rcases h2 with h2|⟨rfl,h2⟩
      · exact Or.inl h2
      · exact Or.inr ⟨rfl,ih h1 h2⟩
def pN (a b:ByteArray):Bool:=Op.bytesLess a.toList b.toList
theorem IW (a:ByteArray):pN a a=false:=O5 _
theorem vJ {a b c:ByteArray} (h1:pN a b=true) (h2:pN b c=true):pN a c=true:=Fv _ _ _ h1 h2
theorem tV {a b:ByteArray} (h:pN a b=true):pN b a=false:=by
  rw [Bool.eq_false_iff]
  intro h2
  have:=vJ h h2
  rw [IW] at this
  cases this
theorem xI {a b:ByteArray} (h1:pN a b=false) (h2:pN b a=false):a=b:=by
  have h:=mI a.toList b.toList
  unfold pN at h1 h2
  rw [h1,h2] at h
  have e:a.toList=b.toList:=by simpa using h
  rw [ByteArray.toList_eq,ByteArray.toList_eq] at e
  exact ByteArray.ext (Array.toList_inj.1 e)
theorem vK {a b c:ByteArray} (h1:pN b a=false) (h2:pN c b=false):pN c a=false:=by
  rw [Bool.eq_false_iff]
  intro h
  cases h3:pN a b with
  | true =>
    have:=vJ h h3
    rw [h2] at this
    cases this
  | false =>
    have:=xI h3 h1
    subst this
    rw [h2] at h
    cases h
def r9:List ByteArray→Bool
  |a::b::r=> !pN b a&&r9 (b::r)
  |_=>true
theorem uJ:∀l:List ByteArray,r9 l=true→l.Pairwise (fun a b=>pN b a=false)
  |[],_=>List.Pairwise.nil
  |[_],_=>List.pairwise_singleton _ _
  | a :: b :: r, h => by
    simp only [r9,Bool.and_eq_true,Bool.not_eq_true'] at h
    have ih:=uJ (b::r) h.2
    refine List.Pairwise.cons (fun c hc=> ?_) ih
    rcases List.mem_cons.1 hc with rfl|hc
    · exact h.1
    · exact vK h.1 ((List.pairwise_cons.1 ih).1 c hc)
def js (x:ByteArray):List ByteArray→List ByteArray
  |[]=>[x]
  |y::r=>if pN x y=true then x::y::r else y::js x r
theorem yJ (x:ByteArray):∀l,(js x l).length=l.length+1
  |[]=>rfl
  | y :: r => by
    unfold js
    split
    · simp
    · simp [yJ x r]
theorem Bg (x:ByteArray):∀l:List ByteArray,l.Pairwise (fun a b=>pN b a=false)→l.takeWhile (fun y=>pN y x)++x::l.dropWhile (fun y=>pN y x)=js x l
  |[],_=>rfl
  | y :: r, h => by
    obtain ⟨h1,h2⟩:=List.pairwise_cons.1 h
    have ih:=Bg x r h2
    unfold js
    by_cases c:pN x y=true
    · rw [if_pos c]
      have:=tV c
      simp [this]
    · rw [if_neg c]
      cases c2:pN y x with
      |true=>simp [c2,ih]
      | false =>
        have e:=xI (by simpa using c) c2
        subst e
        have hr:∀r:List ByteArray,(∀z∈r,pN z x=false)→js x r=x::r:=by
          intro r
          induction r with
          |nil=>intro _;rfl
          | cons z r ih2 =>
            intro hz
            unfold js
            by_cases c3:pN x z=true
            · rw [if_pos c3]
            · rw [if_neg c3,ih2 (fun q hq=>hz q (by simp [hq]))]
              rw [xI (by simpa using c3) (hz z (by simp))]
        rw [hr r h1]
        simp [c2]
theorem BE {α:Type} (p:α→Bool):∀(l:List α) (t:Nat),t≤l.length→(∀q (h:q<l.length),q<t→p l[q]=true)→(∀q (h:q<l.length),t≤q→p l[q]=false)→l.take t=l.takeWhile p∧l.drop t=l.dropWhile p
  |[],t,_,_,_=>by simp
  | y :: r, 0, _, _, h2 => by
    have:=h2 0 (by simp) (Nat.le_refl _)
    simp at this
    simp [this]
  | y :: r, t + 1, ht, h1, h2 => by
    have h0:=h1 0 (by simp) (by omega)
    simp at h0
    obtain ⟨e1,e2⟩:=BE p r t (by simpa using ht) (fun q hq hl=>by have h:=h1 (q+1) (by simpa using hq) (by omega);rw [List.getElem_cons_succ] at h;exact h) (fun q hq hl=>by have h:=h2 (q+1) (by simpa using hq) (by omega);rw [List.getElem_cons_succ] at h;exact h)
    simp [h0,e1,e2]
theorem acp (xs:List ByteArray) (a:ByteArray) (p:ByteArray→Bool) (hp:∀y,fD.f y a=some (p y)) (hn:xs.length≤4194304) (mono:∀q r (hr:r<xs.length) (hq:q≤r),p xs[r]=true→p xs[q]=true):∀(d i j:Nat),j-i≤d→i≤j→j≤xs.length→(∀q (h:q<xs.length),q<i→p xs[q]=true)→(∀q (h:q<xs.length),j≤q→p xs[q]=false)→
    ∃(t:Nat) (b:Bool),t≤xs.length∧Ev (fun k=>aE.l0 k xs a (xs.length:Int) (i:Int) (j:Int)) ((t:Int),b)∧(∀q (h:q<xs.length),q<t→p xs[q]=true)∧(∀q (h:q<xs.length),t≤q→p xs[q]=false):=by
  intro d
  induction d with
  | zero =>
    intro i j hd L8 hj h1 h2
    have e:i=j:=by omega
    subst e
    by_cases hi:i<xs.length
    · by_cases c:(fun u v:ByteArray=>u.toList=v.toList) ((aQ ByteArray.empty) xs (i:Int)) a
      · exact ⟨i,true,hj,bf (fun k=>by rw [aE.l0]) (bO (by omega) (aC (by omega) (aC (by omega) (aC (by omega) (aC c (cu rfl)))))),h1,h2⟩
      · refine ⟨i,false,hj,bf (fun k=>by rw [aE.l0]) (bO (by omega) (aC (by omega) (aC (by omega) (aC (by omega) (bO c (jh (a:=false) (by unfold ey.f;simp) (bO Bool.false_ne_true (cu rfl)))))))),h1,h2⟩
    · exact ⟨i,false,hj,bf (fun k=>by rw [aE.l0]) (bO (by omega) (bO (by omega) (cu rfl))),h1,h2⟩
  | succ d ih =>
    intro i j hd L8 hj h1 h2
    by_cases c:i<j
    · have hm:wrap64 (IntKind.u64.wrap (wrap64 ((i:Int)+(j:Int)))/2)=(((i+j)/2:Nat):Int):=by
        rw [fK (x:=(i:Int)+j) (by omega) (by omega),nF ((i:Int)+j) (by omega) (by omega),fK (by omega) (by omega)]
        omega
      have fl:(i+j)/2<xs.length:=by omega
      have hr:(aQ ByteArray.empty) xs (((i+j)/2:Nat):Int)=xs[(i+j)/2]:=(fy xs _ _ fl)
      cases hb:p xs[(i+j)/2] with
      | true =>
        obtain ⟨t,b,t1,t2,t3,t4⟩:=ih ((i+j)/2+1) j (by omega) (by omega) hj (fun q hq hl=>mono q _ fl (by omega) hb) h2
        refine ⟨t,b,t1,bf (fun k=>by rw [aE.l0]) (aC (by omega) ?_),t3,t4⟩
        rw [hm,hr]
        refine aC (by omega) (aC (by omega) (jh (hp _) ?_))
        refine aC hb ?_
        rw [fK (by omega) (by omega)]
        exact t2
      | false =>
        obtain ⟨t,b,t1,t2,t3,t4⟩:=ih i ((i+j)/2) (by omega) (by omega) (by omega) h1 (fun q hq hl=>by
          rw [Bool.eq_false_iff]
          intro z
          rw [mono _ q hq hl z] at hb
          cases hb)
        refine ⟨t,b,t1,bf (fun k=>by rw [aE.l0]) (aC (by omega) ?_),t3,t4⟩
        rw [hm,hr]
        refine aC (by omega) (aC (by omega) (jh (hp _) ?_))
        exact bO (by rw [hb];decide) t2
    · exact by
        have e:i=j:=by omega
        subst e
        by_cases hi:i<xs.length
        · by_cases c:(fun u v:ByteArray=>u.toList=v.toList) ((aQ ByteArray.empty) xs (i:Int)) a
          · exact ⟨i,true,hj,bf (fun k=>by rw [aE.l0]) (bO (by omega) (aC (by omega) (aC (by omega) (aC (by omega) (aC c (cu rfl)))))),h1,h2⟩
          · refine ⟨i,false,hj,bf (fun k=>by rw [aE.l0]) (bO (by omega) (aC (by omega) (aC (by omega) (aC (by omega) (bO c (jh (a:=false) (by unfold ey.f;simp) (bO Bool.false_ne_true (cu rfl)))))))),h1,h2⟩
        · exact ⟨i,false,hj,bf (fun k=>by rw [aE.l0]) (bO (by omega) (bO (by omega) (cu rfl))),h1,h2⟩
theorem acq (xs:List ByteArray) (a:ByteArray) (p:ByteArray→Bool) (hp:∀y,fD.f y a=some (p y)) (hn:xs.length≤4194304) (mono:∀q r (hr:r<xs.length) (hq:q≤r),p xs[r]=true→p xs[q]=true):
    Ev (fun k=>eM.f k xs a) (xs.takeWhile p++a::xs.dropWhile p):=by
  obtain ⟨t,b,t1,t2,t3,t4⟩:=acp xs a p hp hn mono xs.length 0 xs.length (by omega) (by omega) (Nat.le_refl _) (fun q h hl=>by omega) (fun q h hl=>by omega)
  obtain ⟨e1,e2⟩:=BE p xs t t1 t3 t4
  unfold eM.f aE.f
  refine bz t2 ?_
  refine jh (a:=xs) (by unfold bG.f;simp;omega) ?_
  refine aC (by omega) (aC (by omega) (aC (by omega) (cu ?_)))
  rw [Int.toNat_natCast,e1,e2]
theorem Wd (a b:ByteArray):fD.f a b=some (pN a b):=by
  unfold fD.f eg.f
  simp [pN]
theorem Bf (xs:List ByteArray) (x:ByteArray) (hn:xs.length≤4194304) (hc:r9 xs=true):Ev (fun k=>eM.f k xs x) (js x xs):=by
  have hp:=uJ xs hc
  have:=acq xs x (fun y=>pN y x) (fun y=>Wd y x) hn (fun q r hr hq h=>by
    rcases Nat.lt_or_eq_of_le hq with hq|rfl
    · have h2:=List.pairwise_iff_getElem.1 hp q r (by omega) hr hq
      cases h3:pN xs[q] x with
      |true=>rfl
      | false =>
        have:=vK h3 h2
        rw [h] at this
        cases this
    · exact h)
  rwa [Bg x xs hp] at this
theorem Rc (xs:List ByteArray) (x:ByteArray) (hn:xs.length≤1048576):∀(d i:Nat),i+d=xs.length→Ev (fun k=>eG.l0 k xs x (i:Int)) (xs.take i++js x (xs.drop i)):=by
  intro d
  induction d with
  | zero =>
    intro i hi
    have e1:xs.take i=xs:=List.take_of_length_le (by omega)
    have e2:xs.drop i=[]:=List.drop_eq_nil_of_le (by omega)
    refine bf (fun k=>by rw [eG.l0]) ?_
    refine bO (by omega) (jh rfl (aC (by omega) (aC (by omega) ?_)))
    rw [Int.toNat_natCast,e1,e2]
    refine aC (by simp;omega) (jh rfl (aC (by simp;omega) (jh rfl (aC (by simp;omega) (cu ?_)))))
    simp [js]
  | succ d ih =>
    intro i hi
    have fl:i<xs.length:=by omega
    refine bf (fun k=>by rw [eG.l0]) ?_
    refine aC (by omega) (aC (by omega) ?_)
    rw [show aQ ByteArray.empty xs (i:Int)=xs[i] from fy xs i _ fl]
    have e3:xs.drop i=xs[i]::xs.drop (i+1):=List.drop_eq_getElem_cons fl
    by_cases c:pN x xs[i]=true
    · refine aC c (jh rfl (aC (by omega) ?_))
      rw [Int.toNat_natCast]
      refine aC (by simp;omega) (jh rfl (aC (by simp;omega) (jh rfl (aC (by simp;omega) (cu ?_)))))
      rw [e3,js,if_pos c,←e3]
      simp
    · refine bO c ?_
      rw [fK (by omega) (by omega),e3,js,if_neg c,show (i:Int)+1=((i+1:Nat):Int) by omega]
      have:=ih (i+1) (by omega)
      rw [List.take_succ_eq_append_getElem fl,List.append_assoc] at this
      exact this
theorem IN (xs:List ByteArray) (x:ByteArray) (hn:xs.length≤1048576):Ev (fun k=>eG.f k xs x) (js x xs):=by
  have:=Rc xs x hn xs.length 0 (by omega)
  rw [List.take_zero,List.nil_append,List.drop_zero] at this
  exact this
theorem kF (x:ByteArray):∀l,(js x l).Perm (x::l)
  |[]=>List.Perm.refl _
  | y :: r => by
    unfold js
    split
    · exact List.Perm.refl _
    · exact ((kF x r).cons y).trans (List.Perm.swap x y r)
theorem pK:∀l:List ByteArray,l.Pairwise (fun a b=>pN b a=false)→r9 l=true
  |[],_=>rfl
  |[_],_=>rfl
  | a :: b :: r, h => by
    obtain ⟨h1,h2⟩:=List.pairwise_cons.1 h
    simp only [r9,Bool.and_eq_true,Bool.not_eq_true']
    exact ⟨h1 b (by simp),pK (b::r) h2⟩
theorem wm (x:ByteArray):∀l:List ByteArray,l.Pairwise (fun a b=>pN b a=false)→(js x l).Pairwise (fun a b=>pN b a=false)
  |[],_=>List.pairwise_singleton _ _
  | y :: r, h => by
    obtain ⟨h1,h2⟩:=List.pairwise_cons.1 h
    unfold js
    by_cases c:pN x y=true
    · rw [if_pos c]
      refine List.Pairwise.cons (fun z hz=> ?_) h
      rcases List.mem_cons.1 hz with rfl|hz
      · exact tV c
      · exact vK (tV c) (h1 z hz)
    · rw [if_neg c]
      refine List.Pairwise.cons (fun z hz=> ?_) (wm x r h2)
      rcases List.mem_cons.1 ((kF x r).mem_iff.1 hz) with rfl|hz
      · simpa using c
      · exact h1 z hz
def mC (lo hi x:Int):Bool:=decide (x≥lo)&&decide (x≤hi)
theorem fN {lo hi x:Int} :mC lo hi x=true↔lo≤x∧x≤hi:=by simp [mC]
def allI {α:Type} (p:Nat→α→Bool):Nat→List α→Bool
  |_,[]=>true
  |i,x::xs=>p i x&&allI p (i+1) xs
def AF (xs:List ByteArray) (i:Nat) (x:ByteArray):Bool:=decide ((x.size:Int)=24)&&(decide (i=0)||Op.bytesLess (xs.getD (i-1) ByteArray.empty).toList x.toList)
def KW (xs:List ByteArray):Bool:=allI (AF xs) 0 xs&&decide ((xs.length:Int)≤100)
def oH (ys:List ByteArray) (x:ByteArray):Bool:=ys.any fun y=>decide (y.toList=x.toList)
def tC (b:List ByteArray):Bool:=b.all (fun x=>mC 1 15 (x.size:Int))&&decide (b.length≤60)
def mz (outs:List (List ByteArray)) (i:Nat) (x:List ByteArray):Bool:=KW x&&(KW (outs.getD i [])&&x.all (oH (outs.getD i [])))
def jv (K:List Int) (ins outs boxes:List (List ByteArray)) (t:Int):Bool:=mC 1 4 (K.length:Int)&&(K.all (mC 0 65535)&&(decide ((ins.length:Int)=(K.length:Int))&&(decide ((outs.length:Int)=(K.length:Int))&&(decide ((boxes.length:Int)=4)&&(mC 0 60 t&&(allI (mz outs) 0 ins&&boxes.all tC))))))
def cj (ps:List (List ByteArray)):Prop:=ps.length≤1048576∧∀p∈ps,p.length≤1048576
theorem pP (a lo hi:Int):bE.f a lo hi=some (mC lo hi a):=by
  unfold bE.f mC
  by_cases h:a≥lo<;>simp [h]
theorem Ry (xs:List Int) (lo up:Int) (hn:xs.length≤9223372036854775807):∀(d i:Nat),i+d=xs.length→Ev (fun k=>cm.l0 k lo up xs (xs.length:Int) (i:Int)) ((xs.drop i).all (mC lo up)):=by
  intro d
  induction d with
  | zero =>
    intro i hi
    refine bf (fun k=>by rw [cm.l0]) ?_
    refine bO (by omega) (cu ?_)
    rw [List.drop_eq_nil_of_le (by omega)];rfl
  | succ d ih =>
    intro i hi
    have fl:i<xs.length:=by omega
    refine bf (fun k=>by rw [cm.l0]) ?_
    refine aC (by omega) (aC (by omega) (aC (by omega) ?_))
    rw [pJ xs i fl,List.drop_eq_getElem_cons fl,List.all_cons]
    refine jh (pP _ _ _) ?_
    cases h:mC lo up xs[i] with
    | true =>
      refine aC rfl ?_
      rw [fK (by omega) (by omega)]
      simpa using ih (i+1) (by omega)
    |false=>exact bO (by simp) (cu (by simp))
theorem CE (xs:List Int) (lo up:Int) (hn:xs.length≤9223372036854775807):Ev (fun k=>cm.f k xs lo up) (xs.all (mC lo up)):=
  Ry xs lo up hn xs.length 0 (by omega)
theorem MU (xs:List ByteArray) (hn:xs.length≤1048576):∀(d i:Nat),i+d=xs.length→Ev (fun k=>cR.l0 k xs xs (xs.length:Int) (i:Int)) (allI (AF xs) i (xs.drop i)&&decide ((xs.length:Int)≤100)):=by
  intro d
  induction d with
  | zero =>
    intro i hi
    refine bf (fun k=>by rw [cR.l0]) (bO (by omega) (cu ?_))
    rw [List.drop_eq_nil_of_le (by omega)];rfl
  | succ d ih =>
    intro i hi
    have fl:i<xs.length:=by omega
    refine bf (fun k=>by rw [cR.l0]) (aC (by omega) (aC (by omega) (aC (by omega) ?_)))
    rw [show aQ ByteArray.empty xs (i:Int)=xs[i] from fy xs i _ fl,List.drop_eq_getElem_cons fl,fK (x:=(i:Int)+1) (by omega) (by omega)]
    simp only [allI]
    by_cases h:(xs[i].size:Int)=24
    · refine aC h ?_
      by_cases h0:(i:Int)>0
      · refine aC h0 ?_
        rw [fK (x:=(i:Int)-1) (by omega) (by omega)]
        refine aC (by omega) (aC (by omega) ?_)
        have e:aQ ByteArray.empty xs ((i:Int)-1)=xs.getD (i-1) ByteArray.empty:=by
          unfold aQ
          rw [show ((i:Int)-1).toNat=i-1 by omega]
        rw [e]
        have xj:¬i=0:=by omega
        cases hb:Op.bytesLess (xs.getD (i-1) ByteArray.empty).toList xs[i].toList with
        | true =>
          refine aC rfl ?_
          have hp:AF xs i xs[i]=true:=by unfold AF;rw [hb];simp [h]
          rw [hp,Bool.true_and]
          exact ih (i+1) (by omega)
        | false =>
          have hp:AF xs i xs[i]=false:=by unfold AF;rw [hb];simp [xj]
          exact bO (by simp) (cu (by rw [hp];rfl))
      · refine bO h0 ?_
        have xj:i=0:=by omega
        have hp:AF xs i xs[i]=true:=by unfold AF;rw [decide_eq_true h,decide_eq_true xj];rfl
        rw [hp,Bool.true_and]
        exact ih (i+1) (by omega)
    · have hp:AF xs i xs[i]=false:=by unfold AF;simp [h]
      exact bO h (cu (by rw [hp];rfl))
theorem Eo (xs:List ByteArray) (hn:xs.length≤1048576):Ev (fun k=>cR.f k xs) (KW xs):=MU xs hn xs.length 0 (by omega)
theorem KE (ys:List ByteArray) (x:ByteArray) (hn:ys.length≤1048576):∀(d i:Nat),i+d=ys.length→Ev (fun k=>eH.l0 k x ys (ys.length:Int) (i:Int)) (oH (ys.drop i) x):=by
  intro d
  induction d with
  | zero =>
    intro i hi
    refine bf (fun k=>by rw [eH.l0]) (bO (by omega) (cu ?_))
    rw [List.drop_eq_nil_of_le (by omega)];rfl
  | succ d ih =>
    intro i hi
    have fl:i<ys.length:=by omega
    refine bf (fun k=>by rw [eH.l0]) (aC (by omega) (aC (by omega) (aC (by omega) ?_)))
    rw [show aQ ByteArray.empty ys (i:Int)=ys[i] from fy ys i _ fl,List.drop_eq_getElem_cons fl,fK (by omega) (by omega)]
    unfold oH
    rw [List.any_cons]
    by_cases h:ys[i].toList=x.toList
    · exact aC h (cu (by simp [h]))
    · refine bO h ?_
      rw [decide_eq_false h,Bool.false_or]
      exact ih (i+1) (by omega)
theorem AY (ys:List ByteArray) (x:ByteArray) (hn:ys.length≤1048576):Ev (fun k=>eH.f k ys x) (oH ys x):=KE ys x hn ys.length 0 (by omega)
theorem Kz (bs:List (List ByteArray)) (i:Nat) (b:List ByteArray) (hx:b.length≤1048576) (R:Bool) (H:Ev (fun k=>aj.l2 k bs (bs.length:Int) (wrap64 ((i:Int)+1))) R):∀(d j:Nat),j+d=b.length→Ev (fun k=>aj.l3 k b bs (bs.length:Int) (i:Int) b (b.length:Int) (j:Int)) ((b.drop j).all (fun x=>mC 1 15 (x.size:Int))&&(decide (b.length≤60)&&R)):=by
  intro d
  induction d with
  | zero =>
    intro j hj
    refine bf (fun k=>by rw [aj.l3]) (bO (by omega) ?_)
    rw [List.drop_eq_nil_of_le (by omega)]
    by_cases h:(b.length:Int)>60
    · exact aC h (cu (by
     have:¬b.length≤60:=by omega
     simp [this]))
    · have h':b.length≤60:=by omega
      refine bO h ?_
      simpa [h'] using H
  | succ d ih =>
    intro j hj
    have fl:j<b.length:=by omega
    refine bf (fun k=>by rw [aj.l3]) (aC (by omega) (aC (by omega) (aC (by omega) ?_)))
    rw [show aQ ByteArray.empty b (j:Int)=b[j] from fy b j _ fl,List.drop_eq_getElem_cons fl,List.all_cons]
    refine jh (pP _ _ _) ?_
    cases h:mC 1 15 (b[j].size:Int) with
    | true =>
      refine aC rfl ?_
      rw [fK (x:=(j:Int)+1) (by omega) (by omega)]
      exact ih (j+1) (by omega)
    |false=>exact bO (by simp) (cu (by simp))
theorem KA (bs:List (List ByteArray)) (hb:cj bs):∀(d i:Nat),i+d=bs.length→Ev (fun k=>aj.l2 k bs (bs.length:Int) (i:Int)) ((bs.drop i).all tC):=by
  have hn:=hb.1
  intro d
  induction d with
  | zero =>
    intro i hi
    refine bf (fun k=>by rw [aj.l2]) (bO (by omega) (cu ?_))
    rw [List.drop_eq_nil_of_le (by omega)];rfl
  | succ d ih =>
    intro i hi
    have fl:i<bs.length:=by omega
    refine bf (fun k=>by rw [aj.l2]) (aC (by omega) (aC (by omega) (aC (by omega) ?_)))
    rw [show aN bs (i:Int)=bs[i] from fy bs i _ fl,List.drop_eq_getElem_cons fl,List.all_cons]
    have hx:=hb.2 _ (List.getElem_mem fl)
    have:=Kz bs i bs[i] hx _ (by rw [fK (by omega) (by omega)];exact ih (i+1) (by omega)) bs[i].length 0 (by omega)
    unfold tC
    rw [Bool.and_assoc]
    exact this
theorem KB (K:List Int) (ins outs boxes:List (List ByteArray)) (t:Int) (i:Nat) (hi:i<ins.length) (hn:ins.length≤1048576) (ho:i<outs.length) (RV:(outs.getD i []).length≤1048576) (x:List ByteArray) (hx:x.length≤1048576) (R:Bool) (H:Ev (fun k=>aj.l0 k ins (ins.length:Int) (wrap64 ((i:Int)+1)) K ins outs boxes t) R):
    ∀(d j:Nat),j+d=x.length→Ev (fun k=>aj.l1 k (i:Int) ins (ins.length:Int) (i:Int) x (x.length:Int) (j:Int) K ins outs boxes t) ((x.drop j).all (oH (outs.getD i []))&&R):=by
  intro d
  induction d with
  | zero =>
    intro j hj
    refine bf (fun k=>by rw [aj.l1]) (bO (by omega) ?_)
    rw [List.drop_eq_nil_of_le (by omega)]
    exact H
  | succ d ih =>
    intro j hj
    have fl:j<x.length:=by omega
    refine bf (fun k=>by rw [aj.l1]) (aC (by omega) (aC (by omega) (aC (by omega) (aC (by omega) (aC (by omega) ?_)))))
    rw [show aQ ByteArray.empty x (j:Int)=x[j] from fy x j _ fl,List.drop_eq_getElem_cons fl,List.all_cons,fK (x:=(j:Int)+1) (by omega) (by omega),show aN outs (i:Int)=outs.getD i [] from by unfold aN;rw [Int.toNat_natCast]]
    refine bz (AY _ _ RV) ?_
    cases oH (outs.getD i []) x[j] with
    |true=>exact aC rfl (by simpa using ih (j+1) (by omega))
    |false=>exact bO (by simp) (cu (by simp))
theorem KC (K:List Int) (ins outs boxes:List (List ByteArray)) (t:Int) (hi:cj ins) (ho:cj outs) (hb:cj boxes) (hl:outs.length=ins.length):∀(d i:Nat),i+d=ins.length→Ev (fun k=>aj.l0 k ins (ins.length:Int) (i:Int) K ins outs boxes t) (allI (mz outs) i (ins.drop i)&&boxes.all tC):=by
  have hn:=hi.1
  intro d
  induction d with
  | zero =>
    intro i hd
    refine bf (fun k=>by rw [aj.l0]) (bO (by omega) ?_)
    rw [List.drop_eq_nil_of_le (by omega)]
    exact KA boxes hb boxes.length 0 (by omega)
  | succ d ih =>
    intro i hd
    have fl:i<ins.length:=by omega
    refine bf (fun k=>by rw [aj.l0]) (aC (by omega) (aC (by omega) (aC (by omega) ?_)))
    rw [show aN ins (i:Int)=ins[i] from fy ins i _ fl,show aN outs (i:Int)=outs.getD i [] from by unfold aN;rw [Int.toNat_natCast],List.drop_eq_getElem_cons fl]
    have hx:=hi.2 _ (List.getElem_mem fl)
    generalize ins[i]=x at hx
    have RV:(outs.getD i []).length≤1048576:=by
      rw [List.getD_eq_getElem?_getD,List.getElem?_eq_getElem (by omega)]
      exact ho.2 _ (List.getElem_mem _)
    have J:∀b,Ev (fun k=>aj.j2 k (i:Int) x ins (ins.length:Int) (i:Int) b K ins outs boxes t) (!b&&(x.all (oH (outs.getD i []))&&(allI (mz outs) (i+1) (ins.drop (i+1))&&boxes.all tC))):=by
      intro b
      refine bf (fun k=>by rw [aj.j2]) ?_
      cases b with
      |true=>exact aC rfl (cu rfl)
      | false =>
        refine bO (by simp) ?_
        have:=KB K ins outs boxes t i fl hn (by omega) RV x hx _ (by rw [fK (by omega) (by omega)];exact ih (i+1) (by omega)) x.length 0 (by omega)
        exact this
    simp only [allI,mz]
    refine bz (Eo x hx) ?_
    cases h1:KW x with
    |false=>refine bO (by simp) ?_;simpa using J true
    | true =>
      refine aC rfl (aC (by omega) (bz (Eo _ RV) ?_))
      have:=J (!KW (outs.getD i []))
      rw [Bool.not_not] at this
      rw [Bool.true_and,Bool.and_assoc,Bool.and_assoc]
      exact this
theorem KD (K:List Int) (ins outs boxes:List (List ByteArray)) (t:Int) (hi:cj ins) (ho:cj outs) (hb:cj boxes) (b:Bool) (hl:b=false→outs.length=ins.length):Ev (fun k=>aj.j0 k b K ins outs boxes t) (!b&&(allI (mz outs) 0 ins&&boxes.all tC)):=by
  refine bf (fun k=>by rw [aj.j0]) ?_
  cases b with
  |true=>exact aC rfl (cu rfl)
  |false=>exact bO (by simp) (KC K ins outs boxes t hi ho hb (hl rfl) ins.length 0 (by omega))
theorem oP (K:List Int) (ins outs boxes:List (List ByteArray)) (t:Int) (hK:K.length≤1048576) (hi:cj ins) (ho:cj outs) (hb:cj boxes):Ev (fun k=>aj.f k K ins outs boxes t) (jv K ins outs boxes t):=by
  have J:=KD K ins outs boxes t hi ho hb
  unfold aj.f jv
  refine jh (pP _ _ _) ?_
  cases h1:mC 1 4 (K.length:Int) with
  |false=>refine bO (by simp) ?_;simpa using J true (by simp)
  | true =>
    have h1':=fN.1 h1
    refine aC rfl (bz (CE K 0 65535 (by omega)) ?_)
    cases h2:K.all (mC 0 65535) with
    |false=>refine bO (by simp) ?_;simpa using J true (by simp)
    | true =>
      refine aC rfl ?_
      by_cases h3:(ins.length:Int)=(K.length:Int)
      · refine aC h3 ?_
        by_cases h4:(outs.length:Int)=(K.length:Int)
        · refine aC h4 ?_
          by_cases h5:(boxes.length:Int)=4
          · refine aC h5 (jh (pP _ _ _) ?_)
            have:=J (!mC 0 60 t) (fun _=>by omega)
            simpa [h3,h4,h5] using this
          · refine bO h5 ?_;simpa [h5] using J true (by simp)
        · refine bO h4 ?_;simpa [h4] using J true (by simp)
      · refine bO h3 ?_;simpa [h3] using J true (by simp)
theorem aaT (ys:List ByteArray) (x:ByteArray) (hn:ys.length≤1048576):∀(d i:Nat),i+d=ys.length→∃r:Int,Ev (fun k=>bM.l0 k ys x (ys.length:Int) (i:Int)) r∧(r≥0↔oH (ys.drop i) x=true):=by
  intro d
  induction d with
  | zero =>
    intro i hi
    refine ⟨-1,bf (fun k=>by rw [bM.l0]) (bO (by omega) (cu rfl)),?_⟩
    rw [List.drop_eq_nil_of_le (by omega)];simp [oH]
  | succ d ih =>
    intro i hi
    have fl:i<ys.length:=by omega
    obtain ⟨r,h1,h3⟩:=ih (i+1) (by omega)
    unfold oH at h3⊢
    rw [List.drop_eq_getElem_cons fl,List.any_cons]
    by_cases h:x.toList=ys[i].toList
    · refine ⟨(i:Int),bf (fun k=>by rw [bM.l0]) (aC (by omega) (aC (by omega) (aC (by omega) ?_))),by simp [h]⟩
      rw [show aQ ByteArray.empty ys (i:Int)=ys[i] from fy ys i _ fl]
      exact aC h (cu rfl)
    · refine ⟨r,bf (fun k=>by rw [bM.l0]) (aC (by omega) (aC (by omega) (aC (by omega) ?_))),by rw [decide_eq_false (fun z=>h z.symm),Bool.false_or];exact h3⟩
      rw [show aQ ByteArray.empty ys (i:Int)=ys[i] from fy ys i _ fl]
      refine bO h ?_
      rw [fK (by omega) (by omega)]
      exact h1
theorem Bu (ys:List ByteArray) (x:ByteArray) (hn:ys.length≤1048576):Ev (fun k=>cN.f k ys x) (oH ys x):=by
  obtain ⟨r,h1,h3⟩:=aaT ys x hn ys.length 0 (by omega)
  refine bz (f:=fun _ t=>some (decide (t≥0))) h1 (cu ?_)
  rw [List.drop_zero] at h3
  cases e:oH ys x with
  |true=>rw [e] at h3;simpa using h3
  |false=>rw [e] at h3;simpa using h3
def Mg (l:List ByteArray):Prop:=l.length≤100∧(∀x∈l,x.size=24)∧l.Pairwise (fun a b=>pN b a=false)∧l.Nodup
structure GN (n:Nt):Prop where
  k1:1≤n.ks.length
  k4:n.ks.length≤4
  kr:∀x∈n.ks,0≤x∧x≤65535
  pl:n.ps.length=n.ks.length
  sl:n.ss.length=n.ks.length
  il:n.ib.length=4
  sd:0≤n.sd∧n.sd≤60
  po:∀i,Mg (n.ps.getD i [])
  so:∀i,Mg (n.ss.getD i [])
  sub:∀i x,x∈n.ps.getD i []→x∈n.ss.getD i []
  bx:∀b∈n.ib,b.length≤60∧∀x∈b,1≤x.size∧x.size≤15
theorem DO:Mg []:=⟨by simp,by simp,List.Pairwise.nil,List.nodup_nil⟩
theorem zi (l:List ByteArray) (x:ByteArray):oH l x=true↔x∈l:=by
  unfold oH
  rw [List.any_eq_true]
  constructor
  · rintro ⟨y,h1,h2⟩
    have h3:y.toList=x.toList:=of_decide_eq_true h2
    have:y=x:=by
      rw [ByteArray.toList_eq,ByteArray.toList_eq] at h3
      exact ByteArray.ext (Array.toList_inj.1 h3)
    rwa [←this]
  · intro h
    exact ⟨x,h,decide_eq_true rfl⟩
open Classical in
theorem EC {α:Type} :∀(l m:List α),l.Nodup→(∀x∈l,x∈m)→l.length≤m.length
  |[],_,_,_=>Nat.zero_le _
  | x :: r, m, hn, hs => by
    obtain ⟨h1,h2⟩:=List.nodup_cons.1 hn
    have hx:=hs x (by simp)
    have ih:=EC r (m.erase x) h2 (fun y hy=>(List.mem_erase_of_ne (fun e=>h1 (by rw [←e];exact hy))).2 (hs y (by simp [hy])))
    have hp:=List.length_pos_of_mem hx
    rw [List.length_erase_of_mem hx] at ih
    simp only [List.length_cons]
    omega
theorem BO {l:List ByteArray} {x:ByteArray} (h:Mg l) (hx:x.size=24) (hn:x∉l) (hl:l.length<100):Mg (js x l):=by
  obtain ⟨h1,h2,h3,h4⟩:=h
  have hp:=kF x l
  refine ⟨by rw [yJ];omega,fun y hy=> ?_,wm x l h3,(hp.nodup_iff).2 (List.nodup_cons.2 ⟨hn,h4⟩)⟩
  rcases List.mem_cons.1 (hp.mem_iff.1 hy) with rfl|hy
  · exact hx
  · exact h2 y hy
def lK (n:Nt) (i:Nat) (s:ByteArray):Nt:=if oH (n.ss.getD i []) s=true∨(n.ss.getD i []).length=100 then n else ⟨n.ks,n.ps.set i (js s (n.ps.getD i [])),n.ss.set i (js s (n.ss.getD i [])),n.ib,n.sd⟩
theorem JD (n:Nt) (i:Nat) (s:ByteArray) (h1:i<n.ps.length) (h2:i<n.ss.length) (h3:(n.ps.getD i []).length≤1048576) (h4:(n.ss.getD i []).length≤1048576):Ev (fun k=>bQ.f k n (i:Int) s) (lK n i s):=by
  unfold bQ.f lK
  rw [Int.toNat_natCast]
  refine aC ⟨by omega,by omega,by omega⟩ (bz (AY _ s h4) ?_)
  by_cases c:oH (n.ss.getD i []) s=true∨(n.ss.getD i []).length=100
  · rw [if_pos c]
    exact aC c (cu rfl)
  · rw [if_neg c]
    exact bO c (bz (IN _ s h4) (bz (IN _ s h3) (cu rfl)))
theorem JE (n:Nt) (i:Nat) (s:ByteArray) (h1:i<n.ps.length) (h2:i<n.ss.length) (h3:Mg (n.ps.getD i [])) (h4:Mg (n.ss.getD i [])):Ev (fun k=>cv.f k n (i:Int) s) (lK n i s):=by
  obtain ⟨p1,p2,p3,p4⟩:=h3
  obtain ⟨q1,q2,q3,q4⟩:=h4
  unfold cv.f lK
  rw [Int.toNat_natCast]
  refine aC ⟨by omega,by omega,by omega⟩ (bz (Bu _ s (by omega)) ?_)
  by_cases c:oH (n.ss.getD i []) s=true∨(n.ss.getD i []).length=100
  · rw [if_pos c]
    exact aC c (cu rfl)
  · rw [if_neg c]
    exact bO c (bz (Bf _ s (by omega) (pK _ q3)) (bz (Bf _ s (by omega) (pK _ p3)) (cu rfl)))
theorem ny {α:Type} (z:α) (l:List α) (i j:Nat) (x:α):(l.set i x).getD j z=if i=j∧j<l.length then x else l.getD j z:=mM l i j x
theorem D0 {n:Nt} (g:GN n) {i:Nat} {s:ByteArray} (hi:i<n.ks.length) (hs:s.size=24):GN (lK n i s):=by
  unfold lK
  by_cases c:oH (n.ss.getD i []) s=true∨(n.ss.getD i []).length=100
  · rw [if_pos c];exact g
  · rw [if_neg c]
    obtain ⟨c1,c2⟩:=not_or.1 c
    have c1':s∉n.ss.getD i []:=fun h=>c1 ((zi _ _).2 h)
    have hss:=g.so i
    have hps:=g.po i
    have fl:(n.ss.getD i []).length<100:=by have:=hss.1;omega
    have hpl:(n.ps.getD i []).length≤(n.ss.getD i []).length:=EC _ _ hps.2.2.2 (g.sub i)
    refine ⟨g.k1,g.k4,g.kr,by rw [List.length_set];exact g.pl,by rw [List.length_set];exact g.sl,g.il,g.sd,fun j=> ?_,fun j=> ?_,fun j x hx=> ?_,g.bx⟩
    · rw [ny]
      split
      · exact BO hps hs (fun h=>c1' (g.sub i s h)) (by omega)
      · exact g.po j
    · rw [ny]
      split
      · exact BO hss hs c1' fl
      · exact g.so j
    · rw [ny] at hx⊢
      have e1:=g.pl
      have e2:=g.sl
      by_cases L8:i=j
      · subst L8
        rw [if_pos ⟨rfl,by omega⟩] at hx⊢
        rcases List.mem_cons.1 ((kF s _).mem_iff.1 hx) with rfl|hx
        · exact (kF x _).mem_iff.2 (by simp)
        · exact (kF s _).mem_iff.2 (List.mem_cons_of_mem _ (g.sub i x hx))
      · rw [if_neg (fun h=>L8 h.1)] at hx⊢
        exact g.sub j x hx
theorem nL (n:Nt) (i:Nat) (s:ByteArray):(lK n i s).ks=n.ks∧(lK n i s).ib=n.ib∧(lK n i s).sd=n.sd:=by
  unfold lK
  split<;>exact ⟨rfl,rfl,rfl⟩
noncomputable def kX (z:Bool) (i:Nat) (n:Nt) (s:ByteArray):Nt:=match tT (rd n.ks (i:Int)) s with
  |none=>n
  |some (x,y,b)=>if z=false then (if x=1 then lK n (i+1) y else n) else if (2≤x∧x≤5)∧¬b=(⟨#[]⟩:ByteArray)∧(n.ib.getD (x-2).toNat []).length<60 then ⟨n.ks,n.ps,n.ss,n.ib.set (x-2).toNat (n.ib.getD (x-2).toNat []++[b]),n.sd⟩ else n
noncomputable def qi (n:Nt) (i:Nat):Nt:=(n.ps.getD i []).foldl (kX (decide (i+1=n.ks.length)) i) ⟨n.ks,n.ps.set i [],n.ss,n.ib,n.sd⟩
theorem zZ {n:Nt} (g:GN n) {z:Bool} {i:Nat} {s:ByteArray} (hz:z=decide (i+1=n.ks.length)) (hi:i<n.ks.length) (hs:s.size=24):GN (kX z i n s)∧(kX z i n s).ks=n.ks∧(kX z i n s).sd=n.sd:=by
  unfold kX
  split
  · exact ⟨g,rfl,rfl⟩
  · rename_i x y b hp
    obtain ⟨p1,p2,p3,p4⟩:=vE _ _ hs hp
    split
    · rename_i h0
      split
      · have C3:i+1<n.ks.length:=by
          rw [hz] at h0
          have:=of_decide_eq_false h0
          omega
        exact ⟨D0 g C3 p1,(nL _ _ _).1,(nL _ _ _).2.2⟩
      · exact ⟨g,rfl,rfl⟩
    · split
      · rename_i c
        obtain ⟨⟨c1,c2⟩,c3,c4⟩:=c
        refine ⟨⟨g.k1,g.k4,g.kr,g.pl,g.sl,by rw [List.length_set];exact g.il,g.sd,g.po,g.so,g.sub,fun q hq=> ?_⟩,rfl,rfl⟩
        rcases List.mem_or_eq_of_mem_set hq with hq|rfl
        · exact g.bx q hq
        · have vl:1≤b.size:=by
            rcases Nat.eq_zero_or_pos b.size with h|h
            · exact absurd (ByteArray.ext (Array.eq_empty_of_size_eq_zero h)) c3
            · exact h
          refine ⟨by rw [List.length_append];simp only [List.length_cons,List.length_nil];omega,fun w hw=> ?_⟩
          rcases List.mem_append.1 hw with hw|hw
          · have G7:=g.il
            have fl:(x-2).toNat<n.ib.length:=by omega
            rw [List.getD_eq_getElem?_getD,List.getElem?_eq_getElem fl] at hw
            exact (g.bx _ (List.getElem_mem fl)).2 w hw
          · rw [List.mem_singleton.1 hw]
            exact ⟨vl,p4⟩
      · exact ⟨g,rfl,rfl⟩
theorem J9 {z:Bool} {i:Nat} :∀(P:List ByteArray) {n:Nt},GN n→z=decide (i+1=n.ks.length)→i<n.ks.length→(∀s∈P,s.size=24)→GN (P.foldl (kX z i) n)∧(P.foldl (kX z i) n).ks=n.ks∧(P.foldl (kX z i) n).sd=n.sd
  |[],n,g,_,_,_=>⟨g,rfl,rfl⟩
  | s :: P, n, g, hz, hi, hs => by
    obtain ⟨h1,h2,h3⟩:=zZ g hz hi (hs s (by simp))
    obtain ⟨h4,h5,h6⟩:=J9 (z:=z) (i:=i) P h1 (by rw [h2];exact hz) (by rw [h2];exact hi) (fun q hq=>hs q (by simp [hq]))
    exact ⟨h4,h5.trans h2,h6.trans h3⟩
theorem z8 {n:Nt} (g:GN n) (i:Nat):GN ⟨n.ks,n.ps.set i [],n.ss,n.ib,n.sd⟩:=by
  refine ⟨g.k1,g.k4,g.kr,by rw [List.length_set];exact g.pl,g.sl,g.il,g.sd,fun j=> ?_,g.so,fun j x hx=> ?_,g.bx⟩
  · rw [ny]
    split
    · exact DO
    · exact g.po j
  · rw [ny] at hx
    split at hx
    · cases hx
    · exact g.sub j x hx
theorem yf {n:Nt} (g:GN n) {i:Nat} (hi:i<n.ks.length):GN (qi n i)∧(qi n i).ks=n.ks∧(qi n i).sd=n.sd:=
  J9 _ (z8 g i) rfl hi (g.po i).2.1
theorem sZ {n:Nt} (g:GN n) {i:Nat} (s:ByteArray) (hi:i<n.ks.length):Ev (fun k=>bQ.f k n (i:Int) s) (lK n i s):=by
  have h1:=g.po i
  have h2:=g.so i
  have e1:=g.pl
  have e2:=g.sl
  first
  |exact JD n i s (by omega) (by omega) (by have:=h1.1;omega) (by have:=h2.1;omega)
  |exact JE n i s (by omega) (by omega) h1 h2
theorem IA (i:Nat) (z:Bool):∀(P:List ByteArray) (n:Nt),GN n→z=decide (i+1=n.ks.length)→i<n.ks.length→(∀s∈P,s.size=24)→Ev (fun k=>bB.l0 k (i:Int) z P n) (P.foldl (kX z i) n)
  | [], n, _, _, _, _ => by
    simp only [bB.l0]
    exact cu rfl
  | s :: P, n, g, hz, hi, hs => by
    simp only [bB.l0]
    have fl:(i:Int)<(n.ks.length:Int):=by omega
    have hk:0≤rd n.ks (i:Int)∧rd n.ks (i:Int)≤65535:=by
      rw [pJ _ i hi]
      exact g.kr _ (List.getElem_mem hi)
    have sr:=hs s (by simp)
    obtain ⟨g1,g2,g3⟩:=zZ g hz hi sr
    have ih:=IA i z P (kX z i n s) g1 (by rw [g2];exact hz) (by rw [g2];exact hi) (fun q hq=>hs q (by simp [hq]))
    rw [List.foldl_cons]
    refine aC fl (bz (Rd _ s hk sr) ?_)
    unfold kX at ih⊢
    cases hp:tT (rd n.ks (i:Int)) s with
    | none =>
      rw [hp] at ih
      exact aC rfl ih
    | some p =>
      obtain ⟨x,y,b⟩:=p
      rw [hp] at ih
      obtain ⟨p1,p2,p3,p4⟩:=vE _ _ sr hp
      dsimp only [IP] at ih⊢
      refine bO (by decide) ?_
      by_cases h0:z=false
      · rw [if_pos h0] at ih⊢
        refine aC h0 ?_
        by_cases hx:x=1
        · rw [if_pos hx] at ih⊢
          have C3:i+1<n.ks.length:=by
            rw [hz] at h0
            have:=of_decide_eq_false h0
            omega
          refine aC hx (bz (a:=lK n (i+1) y) ?_ ih)
          rw [show wrap64 ((i:Int)+1)=((i+1:Nat):Int) by rw [fK (by have:=g.k4;omega) (by have:=g.k4;omega)];omega]
          exact sZ g y C3
        · rw [if_neg hx] at ih⊢
          exact bO hx ih
      · rw [if_neg h0] at ih⊢
        refine bO h0 ?_
        have hw:=fK (x:=x-2) (by omega) (by omega)
        simp only [hw]
        have Ob:bE.f (x-2) 0 3=some (decide (2≤x∧x≤5)):=by
          unfold bE.f
          by_cases h2:2≤x
          · rw [if_pos (by omega)]
            congr 1
            by_cases h3:x≤5
            · rw [decide_eq_true (show x-2≤3 by omega),decide_eq_true ⟨h2,h3⟩]
            · rw [decide_eq_false (show¬x-2≤3 by omega),decide_eq_false (fun h=>h3 h.2)]
          · rw [if_neg (by omega),decide_eq_false (fun h=>h2 h.1)]
        refine jh Ob ?_
        by_cases hx:2≤x∧x≤5
        · refine bO (by rw [decide_eq_true hx];decide) ?_
          by_cases hb:b=(⟨#[]⟩:ByteArray)
          · rw [if_neg (fun h=>h.2.1 hb)] at ih⊢
            exact aC hb ih
          · refine bO hb (aC (by have:=g.il;omega) ?_)
            by_cases hl:(n.ib.getD (x-2).toNat []).length<60
            · rw [if_pos ⟨hx,hb,hl⟩] at ih⊢
              exact aC hl ih
            · rw [if_neg (fun h=>hl h.2.2)] at ih⊢
              exact bO hl ih
        · rw [if_neg (fun h=>hx h.1)] at ih⊢
          exact aC (decide_eq_false hx) ih
theorem IB {n:Nt} (g:GN n) {i:Nat} (hi:i<n.ks.length):Ev (fun k=>bB.f k n (i:Int)) (qi n i):=by
  have e1:=g.pl
  have e2:=g.il
  have e3:=(g.po i).1
  have e4:=g.k4
  unfold bB.f qi
  rw [Int.toNat_natCast]
  refine aC ⟨by omega,by omega,by omega,by omega,by omega⟩ ?_
  have hz:((i:Int)==wrap64 ((n.ks.length:Int)-1))=decide (i+1=n.ks.length):=by
    rw [fK (by omega) (by omega)]
    by_cases h:i+1=n.ks.length
    · rw [decide_eq_true h,beq_iff_eq];omega
    · rw [decide_eq_false h,beq_eq_false_iff_ne];omega
  rw [hz]
  exact IA i _ _ _ (z8 g i) rfl hi (g.po i).2.1
theorem tc {n:Nt} (g:GN n) {i:Nat} (s:ByteArray) (hi:i<n.ks.length):Ev (fun k=>cv.f k n (i:Int) s) (lK n i s):=by
  have h1:=g.po i
  have h2:=g.so i
  have e1:=g.pl
  have e2:=g.sl
  first
  |exact JD n i s (by omega) (by omega) (by have:=h1.1;omega) (by have:=h2.1;omega)
  |exact JE n i s (by omega) (by omega) h1 h2
theorem IC (i:Nat) (z:Bool):∀(P:List ByteArray) (n:Nt),GN n→z=decide (i+1=n.ks.length)→i<n.ks.length→(∀s∈P,s.size=24)→Ev (fun k=>aV.l0 k (i:Int) z P n) (P.foldl (kX z i) n)
  | [], n, _, _, _, _ => by
    simp only [aV.l0]
    exact cu rfl
  | s :: P, n, g, hz, hi, hs => by
    simp only [aV.l0]
    have fl:(i:Int)<(n.ks.length:Int):=by omega
    have hk:0≤rd n.ks (i:Int)∧rd n.ks (i:Int)≤65535:=by
      rw [pJ _ i hi]
      exact g.kr _ (List.getElem_mem hi)
    have sr:=hs s (by simp)
    obtain ⟨g1,g2,g3⟩:=zZ g hz hi sr
    have ih:=IC i z P (kX z i n s) g1 (by rw [g2];exact hz) (by rw [g2];exact hi) (fun q hq=>hs q (by simp [hq]))
    rw [List.foldl_cons]
    refine aC fl (bz (Re _ s hk sr) ?_)
    unfold kX at ih⊢
    cases hp:tT (rd n.ks (i:Int)) s with
    | none =>
      rw [hp] at ih
      exact aC rfl ih
    | some p =>
      obtain ⟨x,y,b⟩:=p
      rw [hp] at ih
      obtain ⟨p1,p2,p3,p4⟩:=vE _ _ sr hp
      dsimp only [IP] at ih⊢
      refine bO (by decide) ?_
      by_cases h0:z=false
      · rw [if_pos h0] at ih⊢
        refine aC h0 ?_
        by_cases hx:x=1
        · rw [if_pos hx] at ih⊢
          have C3:i+1<n.ks.length:=by
            rw [hz] at h0
            have:=of_decide_eq_false h0
            omega
          refine aC hx (bz (a:=lK n (i+1) y) ?_ ih)
          rw [show wrap64 ((i:Int)+1)=((i+1:Nat):Int) by rw [fK (by have:=g.k4;omega) (by have:=g.k4;omega)];omega]
          exact tc g y C3
        · rw [if_neg hx] at ih⊢
          exact bO hx ih
      · rw [if_neg h0] at ih⊢
        refine bO h0 ?_
        have hw:=fK (x:=x-2) (by omega) (by omega)
        simp only [hw]
        have Ob:bk.f (x-2) 0 3=some (decide (2≤x∧x≤5)):=by
          unfold bk.f
          by_cases h2:2≤x
          · rw [if_pos (by omega)]
            congr 1
            by_cases h3:x≤5
            · rw [decide_eq_true (show x-2≤3 by omega),decide_eq_true ⟨h2,h3⟩]
            · rw [decide_eq_false (show¬x-2≤3 by omega),decide_eq_false (fun h=>h3 h.2)]
          · rw [if_neg (by omega),decide_eq_false (fun h=>h2 h.1)]
        refine jh Ob ?_
        by_cases hx:2≤x∧x≤5
        · refine bO (by rw [decide_eq_true hx];decide) ?_
          by_cases hb:b=(⟨#[]⟩:ByteArray)
          · rw [if_neg (fun h=>h.2.1 hb)] at ih⊢
            exact aC hb ih
          · refine bO hb (aC (by have:=g.il;omega) ?_)
            by_cases hl:(n.ib.getD (x-2).toNat []).length<60
            · rw [if_pos ⟨hx,hb,hl⟩] at ih⊢
              exact aC hl ih
            · rw [if_neg (fun h=>hl h.2.2)] at ih⊢
              exact bO hl ih
        · rw [if_neg (fun h=>hx h.1)] at ih⊢
          exact aC (decide_eq_false hx) ih
theorem ID {n:Nt} (g:GN n) {i:Nat} (hi:i<n.ks.length):Ev (fun k=>aV.f k n (i:Int)) (qi n i):=by
  have e1:=g.pl
  have e2:=g.il
  have e3:=(g.po i).1
  have e4:=g.k4
  unfold aV.f qi
  rw [Int.toNat_natCast]
  refine aC ⟨by omega,by omega,by omega,by omega,by omega⟩ ?_
  have hz:((i:Int)==wrap64 ((n.ks.length:Int)-1))=decide (i+1=n.ks.length):=by
    rw [fK (by omega) (by omega)]
    by_cases h:i+1=n.ks.length
    · rw [decide_eq_true h,beq_iff_eq];omega
    · rw [decide_eq_false h,beq_eq_false_iff_ne];omega
  rw [hz]
  exact IC i _ _ _ (z8 g i) rfl hi (g.po i).2.1
theorem zM {α:Type} {p:Nat→α→Bool} :∀(xs:List α) (i:Nat),allI p i xs=true→∀j (h:j<xs.length),p (i+j) xs[j]=true
  |[],_,_,j,h=>absurd h (Nat.not_lt_zero _)
  | x :: xs, i, ha, j, h => by
    simp only [allI,Bool.and_eq_true] at ha
    cases j with
    |zero=>exact ha.1
    | succ j =>
      have:=zM xs (i+1) ha.2 j (by simpa using h)
      rw [show i+(j+1)=i+1+j by omega]
      exact this
theorem IQ {xs:List ByteArray} (h:KW xs=true):Mg xs:=by
  unfold KW at h
  rw [Bool.and_eq_true] at h
  have ha:=zM xs 0 h.1
  have hl:(xs.length:Int)≤100:=of_decide_eq_true h.2
  have hp:∀j (hj:j<xs.length),(xs[j].size:Int)=24∧(j=0∨pN (xs.getD (j-1) ByteArray.empty) xs[j]=true):=by
    intro j hj
    have:=ha j hj
    rw [Nat.zero_add] at this
    simpa [AF,pN] using this
  have fl:∀d i (hi:i+(d+1)<xs.length),pN (xs[i]'(by omega)) xs[i+(d+1)]=true:=by
    intro d
    induction d with
    | zero =>
      intro i hi
      rcases (hp (i+1) (by omega)).2 with h0|h0
      · omega
      · rw [Nat.add_sub_cancel,List.getD_eq_getElem?_getD,List.getElem?_eq_getElem (by omega)] at h0
        exact h0
    | succ d ih =>
      intro i hi
      refine vJ (ih i (by omega)) ?_
      rcases (hp (i+(d+1+1)) (by omega)).2 with h0|h0
      · omega
      · rw [show i+(d+1+1)-1=i+(d+1) by omega,List.getD_eq_getElem?_getD,List.getElem?_eq_getElem (by omega)] at h0
        exact h0
  have RZ:∀i j (hi:i<xs.length) (hj:j<xs.length),i<j→pN xs[i] xs[j]=true:=by
    intro i j hi hj L8
    have:=fl (j-i-1) i (by omega)
    simpa [show i+(j-i-1+1)=j by omega] using this
  refine ⟨by omega,fun x hx=> ?_,List.pairwise_iff_getElem.2 (fun i j hi hj L8=>tV (RZ i j hi hj L8)),List.pairwise_iff_getElem.2 (fun i j hi hj L8 e=> ?_)⟩
  · obtain ⟨j,hj,rfl⟩:=List.getElem_of_mem hx
    have:=(hp j hj).1
    omega
  · have h1:=RZ i j hi hj L8
    rw [e,IW] at h1
    cases h1
theorem mQ {n:Nt} (h:jv n.ks n.ps n.ss n.ib n.sd=true):GN n:=by
  unfold jv at h
  simp only [Bool.and_eq_true,decide_eq_true_eq] at h
  obtain ⟨h1,h2,h3,h4,h5,h6,h7,h8⟩:=h
  have h1:=fN.1 h1
  have h6:=fN.1 h6
  have hr:=zM _ 0 h7
  have hp:∀i,Mg (n.ps.getD i [])∧Mg (n.ss.getD i [])∧∀x,x∈n.ps.getD i []→x∈n.ss.getD i []:=by
    intro i
    by_cases hi:i<n.ps.length
    · have:=hr i hi
      rw [Nat.zero_add] at this
      simp only [mz,Bool.and_eq_true] at this
      obtain ⟨a1,a2,a3⟩:=this
      have e:n.ps.getD i []=n.ps[i]:=by rw [List.getD_eq_getElem?_getD,List.getElem?_eq_getElem hi];rfl
      rw [e]
      exact ⟨IQ a1,IQ a2,fun x hx=>(zi _ _).1 (List.all_eq_true.1 a3 x hx)⟩
    · have e1:n.ps.getD i []=[]:=by rw [List.getD_eq_getElem?_getD,List.getElem?_eq_none (by omega)];rfl
      have e2:n.ss.getD i []=[]:=by rw [List.getD_eq_getElem?_getD,List.getElem?_eq_none (by omega)];rfl
      rw [e1,e2]
      exact ⟨DO,DO,fun x hx=>hx⟩
  refine ⟨by omega,by omega,fun x hx=>fN.1 (List.all_eq_true.1 h2 x hx),by omega,by omega,by omega,h6,fun i=>(hp i).1,fun i=>(hp i).2.1,fun i=>(hp i).2.2,fun b hb=> ?_⟩
  have:=List.all_eq_true.1 h8 b hb
  simp only [tC,Bool.and_eq_true,decide_eq_true_eq] at this
  refine ⟨this.2,fun x hx=> ?_⟩
  have:=fN.1 (List.all_eq_true.1 this.1 x hx)
  omega
theorem mb {n:Nt} (g:GN n):n.ks.length≤1048576∧cj n.ps∧cj n.ss∧cj n.ib:=by
  have e1:=g.k4
  have e2:=g.pl
  have e3:=g.sl
  have e4:=g.il
  have hx:∀(L:List (List ByteArray)),(∀i,Mg (L.getD i []))→∀p∈L,p.length≤1048576:=by
    intro L h p hp
    obtain ⟨j,hj,rfl⟩:=List.getElem_of_mem hp
    have:=(h j).1
    rw [List.getD_eq_getElem?_getD,List.getElem?_eq_getElem hj] at this
    exact Nat.le_trans this (by decide)
  exact ⟨by omega,⟨by omega,hx _ g.po⟩,⟨by omega,hx _ g.so⟩,⟨by omega,fun p hp=>Nat.le_trans (g.bx p hp).1 (by decide)⟩⟩
theorem VA (l:List (List ByteArray)) (hl:cj l):∀(d i:Nat) (acc:List (List ByteArray)),i+d=l.length→acc.length≤i→Ev (fun k=>dA.l0 k acc l (l.length:Int) (i:Int)) (acc++l.drop i):=by
  obtain ⟨l1,l2⟩:=hl
  intro d
  induction d with
  | zero =>
    intro i acc hi ha
    rw [List.drop_eq_nil_of_le (by omega),List.append_nil]
    exact bf (fun k=>by rw [dA.l0]) (bO (by omega) (cu rfl))
  | succ d ih =>
    intro i acc hi ha
    have fl:i<l.length:=by omega
    have hz:=l2 _ (List.getElem_mem fl)
    have e:aN l (i:Int)=l[i]:=fy l i _ fl
    have:=ih (i+1) (acc++[l[i]]) (by omega) (by simp;omega)
    rw [List.append_assoc,List.singleton_append,←List.drop_eq_getElem_cons fl] at this
    refine bf (fun k=>by rw [dA.l0]) (aC (by omega) (aC (by omega) (aC (by omega) ?_)))
    rw [e,fK (x:=(i:Int)+1) (by omega) (by omega)]
    exact jh rfl (aC (by simp;omega) (aC (by omega) this))
theorem Co (l:List (List ByteArray)) (hl:cj l):Ev (fun k=>dA.f k l) l:=VA l hl l.length 0 [] (by omega) (by simp)
theorem vF (n:Nt) (h1:n.ks.length≤1048576) (h2:cj n.ps) (h3:cj n.ss) (h4:cj n.ib):Ev (fun k=>cT.f k n) n:=by
  unfold cT.f
  exact aC h1 (bz (Co _ h2) (bz (Co _ h3) (bz (Co _ h4) (cu rfl))))
theorem kN (a lo hi:Int):bk.f a lo hi=some (mC lo hi a):=by
  unfold bk.f mC
  by_cases h:a≥lo<;>simp [h]
theorem afW:∀n:Nat,1≤n→n≤6→bits_Mul.f 1 (n:Int)=some (0,(n:Int)):=by
  intro n h1 h6
  obtain rfl|rfl|rfl|rfl|rfl|rfl:n=1∨n=2∨n=3∨n=4∨n=5∨n=6:=by omega
  all_goals decide
theorem M3:∀n:Nat,(⟨(Lib.repeatL [0] n).toArray⟩:ByteArray)=strOfNums (List.replicate n 0):=by
  have h:∀n:Nat,Lib.repeatL [0] n=List.replicate n (0:UInt8):=by
    intro n
    induction n with
    |zero=>rfl
    |succ n ih=>rw [List.replicate_succ,←ih];rfl
  intro n
  unfold strOfNums
  rw [h,List.map_replicate]
  rfl
theorem gw (l:List Int):(strOfNums l).size=l.length:=by
  unfold strOfNums
  show (List.toArray _).size=_
  rw [List.size_toArray,List.length_map]
theorem agG (s:ByteArray):(s.extract 0 22).extract 0 16=s.extract 0 16:=by
  rw [r7,r7,r7]
  show (⟨((List.take 22 s.data.toList).take 16).toArray⟩:ByteArray)=_
  rw [List.take_take]
  rfl
noncomputable def tX (k h:Int) (s:ByteArray):ByteArray:=qD (strOfNums [h%256,OP (s.extract 0 16)%256]++s.extract 0 22) (pL k)
noncomputable def onL (ks hs:List Int):Nat→ByteArray→ByteArray
  |0,s=>s
  |i+1,s=>onL ks hs i (tX (rd ks (i:Int)) (rd hs (i:Int)) s)
def F8 (b:ByteArray):ByteArray:=((b++(⟨#[128]⟩:ByteArray))++strOfNums (List.replicate (15-b.size) 0))++strOfNums (List.replicate 8 0)
noncomputable def onF (ks hs:List Int) (b:ByteArray):ByteArray:=onL ks hs ks.length (F8 b)
theorem tj (k h:Int) (s:ByteArray) (hs:s.size=24):(tX k h s).size=24:=by
  unfold tX
  rw [rP,ByteArray.size_append,gw,ByteArray.size_extract,hs]
  rfl
theorem Ez (ks hs:List Int):∀(i:Nat) (s:ByteArray),s.size=24→(onL ks hs i s).size=24
  |0,s,h=>h
  |i+1,s,h=>Ez ks hs i _ (tj _ _ _ h)
theorem qG (b:ByteArray) (hb:b.size≤15):(F8 b).size=24:=by
  unfold F8
  rw [ByteArray.size_append,ByteArray.size_append,ByteArray.size_append,gw,gw,List.length_replicate,List.length_replicate]
  show b.size+1+(15-b.size)+8=24
  omega
theorem Fo (ks hs:List Int) (hn:ks.length≤4) (hl:hs.length=ks.length) (hk:∀x∈ks,0≤x∧x≤65535):∀(i:Nat) (s:ByteArray),i≤ks.length→s.size=24→Ev (fun k=>aK.l0 k ks hs s ((i:Int)-1)) (onL ks hs i s,true)
  | 0, s, hi, hq => by
    refine bf (fun k=>by rw [aK.l0]) ?_
    exact bO (by omega) (cu rfl)
  | i + 1, s, hi, hq => by
    have fl:i<ks.length:=by omega
    have e:(((i+1:Nat):Int)-1)=(i:Int):=by omega
    have hc:=JF (s.extract 0 16) (by rw [ByteArray.size_extract,hq];decide)
    have Wy:0≤rd ks (i:Int)∧rd ks (i:Int)≤65535:=by rw [pJ ks i fl];exact hk _ (List.getElem_mem fl)
    obtain ⟨p1,p2,p3⟩:=Ct _ Wy
    have h22:(s.extract 0 22).size=22:=by rw [ByteArray.size_extract,hq];rfl
    have ih:=Fo ks hs hn hl hk i (tX (rd ks (i:Int)) (rd hs (i:Int)) s) (by omega) (tj _ _ _ hq)
    refine bf (fun k=>by rw [aK.l0]) ?_
    rw [e]
    refine aC (by omega) (aC (by omega) (aC (by omega) (aC (by omega) (aC (by omega) (aC (by omega) (aC (by omega) ?_))))))
    rw [agG]
    refine bz hc.2.2.1 (jh rfl (aC (by rw [gw];simp;omega) (aC (by omega) (bz p2 (bz (a:=tX (rd ks (i:Int)) (rd hs (i:Int)) s) (m8 fun k=> ?_) ?_)))))
    · unfold iB.f tX
      have hz:(strOfNums [rd hs (i:Int)%256,OP (s.extract 0 16)%256]++s.extract 0 22).size=24:=by rw [ByteArray.size_append,gw,h22];rfl
      rw [if_pos (by omega),if_pos (by omega)]
    · rw [fK (x:=(i:Int)-1) (by omega) (by omega)]
      exact ih
theorem Fp (ks hs:List Int) (hn:ks.length≤4) (hl:hs.length=ks.length) (hk:∀x∈ks,0≤x∧x≤65535):∀(i:Nat) (s:ByteArray),i≤ks.length→s.size=24→Ev (fun k=>dN.l0 k ks hs s ((i:Int)-1)) (onL ks hs i s)
  | 0, s, hi, hq => by
    refine bf (fun k=>by rw [dN.l0]) ?_
    exact bO (by omega) (cu rfl)
  | i + 1, s, hi, hq => by
    have fl:i<ks.length:=by omega
    have e:(((i+1:Nat):Int)-1)=(i:Int):=by omega
    have hc:=JF (s.extract 0 16) (by rw [ByteArray.size_extract,hq];decide)
    have Wy:0≤rd ks (i:Int)∧rd ks (i:Int)≤65535:=by rw [pJ ks i fl];exact hk _ (List.getElem_mem fl)
    obtain ⟨p1,p2,p3⟩:=Ct _ Wy
    have h22:(s.extract 0 22).size=22:=by rw [ByteArray.size_extract,hq];rfl
    have ih:=Fp ks hs hn hl hk i (tX (rd ks (i:Int)) (rd hs (i:Int)) s) (by omega) (tj _ _ _ hq)
    refine bf (fun k=>by rw [dN.l0]) ?_
    rw [e]
    refine aC (by omega) (aC (by omega) (aC (by omega) (aC (by omega) (aC (by omega) ?_))))
    refine bz hc.2.2.2 (jh rfl (aC (by omega) (aC (by omega) (aC (by rw [gw];simp;omega) (aC (by omega) (bz p3 (bz (a:=tX (rd ks (i:Int)) (rd hs (i:Int)) s) (m8 fun k=> ?_) ?_)))))))
    · unfold kG.f tX
      have hz:(strOfNums [rd hs (i:Int)%256,OP (s.extract 0 16)%256]++s.extract 0 22).size=24:=by rw [ByteArray.size_append,gw,h22];rfl
      rw [if_pos (by omega),if_pos (by omega)]
    · rw [fK (x:=(i:Int)-1) (by omega) (by omega)]
      exact ih
theorem Nl (ks hs:List Int) (b:ByteArray) (hn:ks.length≤4) (hl:hs.length=ks.length) (hk:∀x∈ks,0≤x∧x≤65535) (hb:b.size≤15):Ev (fun k=>dN.f k ks hs b) (onF ks hs b):=by
  unfold dN.f onF
  have z1:(b++(⟨#[128]⟩:ByteArray)).size=b.size+1:=by rw [ByteArray.size_append];rfl
  have hr:∀(n:Nat) (k:Nat),n≤15→strings_Repeat.f k (⟨#[0]⟩:ByteArray) (n:Int)=some (strOfNums (List.replicate n 0)):=by
    intro n k hn
    unfold strings_Repeat.f
    have h1:(⟨#[0]⟩:ByteArray).size*((n:Int)).toNat≤140737488355328:=by show 1*_≤_;omega
    rw [if_pos (by omega),if_pos h1,if_pos (by omega)]
    show some (⟨(Lib.repeatL [0] ((n:Int)).toNat).toArray⟩:ByteArray)=_
    rw [Int.toNat_natCast,M3]
  refine bz (a:=(b++(⟨#[128]⟩:ByteArray))++strOfNums (List.replicate (15-b.size) 0)) ?_ (bz (a:=strOfNums (List.replicate 8 0)) (m8 fun k=>hr 8 k (by omega)) ?_)
  · unfold lJ.f
    refine aC (by omega) (bz (a:=strOfNums (List.replicate (15-b.size) 0)) (m8 fun k=> ?_) (aC (by rw [z1,gw,List.length_replicate];omega) (cu rfl)))
    rw [show (15:Int)-(b.size:Int)=((15-b.size:Nat):Int) by omega]
    exact hr _ k (by omega)
  · refine aC (by rw [ByteArray.size_append,z1,gw,gw,List.length_replicate,List.length_replicate];omega) ?_
    rw [fK (x:=(ks.length:Int)-1) (by omega) (by omega)]
    exact Fp ks hs hn hl hk ks.length _ (Nat.le_refl _) (qG b hb)
theorem Nk (ks hs:List Int) (b:ByteArray) (h1:1≤ks.length) (hn:ks.length≤4) (hl:hs.length=ks.length) (hk:∀x∈ks,0≤x∧x≤65535) (hh:∀x∈hs,1≤x∧x≤250) (hb:b.size≤15):Ev (fun k=>aK.f k ks hs b) (onF ks hs b,true):=by
  unfold aK.f onF
  have z1:(b++(⟨#[128]⟩:ByteArray)).size=b.size+1:=by rw [ByteArray.size_append];rfl
  have a1:mC 1 4 (ks.length:Int)=true:=fN.2 ⟨by omega,by omega⟩
  have a2:ks.all (mC 0 65535)=true:=List.all_eq_true.2 fun x hx=>fN.2 (hk x hx)
  have a3:hs.all (mC 1 250)=true:=List.all_eq_true.2 fun x hx=>fN.2 (hh x hx)
  have a4:iu.f b=some true:=by unfold iu.f;rw [decide_eq_true (by omega)]
  refine jh (by rw [pP,a1]) (aC rfl (bz (by have:=CE ks 0 65535 (by omega);rw [a2] at this;exact this) (aC rfl (aC (by omega) (bz (by have:=CE hs 1 250 (by omega);rw [a3] at this;exact this) (aC rfl (jh a4 ?_)))))))
  have hp:gi.f b=some ((b++(⟨#[128]⟩:ByteArray))++strOfNums (List.replicate (15-b.size) 0)):=by
    unfold gi.f
    rw [fK (x:=15-(b.size:Int)) (by omega) (by omega),show (15:Int)-(b.size:Int)=((15-b.size:Nat):Int) by omega,Int.toNat_natCast]
    rw [if_pos (by omega),if_pos (by omega),if_pos (by omega)]
    show (if (b++(⟨#[128]⟩:ByteArray)).size+(strOfNums (List.replicate (15-b.size) 0)).size≤9223372036854775807 then _ else none)=_
    rw [if_pos (by rw [z1,gw,List.length_replicate];omega)]
  refine bf (fun k=>by rw [aK.j0]) ?_
  refine bO (by decide) ?_
  refine jh hp ?_
  refine aC (by decide) ?_
  refine jh rfl ?_
  refine aC (by rw [ByteArray.size_append,z1,gw,gw,List.length_replicate,List.length_replicate];omega) ?_
  rw [fK (x:=(ks.length:Int)-1) (by omega) (by omega)]
  exact Fo ks hs hn hl hk ks.length _ (Nat.le_refl _) (qG b hb)
def wF (m:Nat) (u:Int):List Int:=(List.replicate m 1).set (m-1) (u+2)
theorem Bw (m:Nat) (u:Int):(wF m u).length=m:=by unfold wF;rw [List.length_set,List.length_replicate]
theorem NX (m:Nat) (u:Int) (hu:0≤u∧u≤3):∀x∈wF m u,1≤x∧x≤250:=by
  intro x hx
  unfold wF at hx
  rcases List.mem_or_eq_of_mem_set hx with h|h
  · have:=(List.mem_replicate.1 h).2
    omega
  · omega
noncomputable def Cy (n:Nt) (u:Int) (t:ByteArray):ByteArray:=onF n.ks (wF n.ks.length u) (strOfNums [n.sd+1]++t)
noncomputable def xb (n:Nt) (u:Int) (t:ByteArray):Nt×Bool:=if (0≤u∧u≤3)∧t.size≤14∧¬n.sd=60 then (lK ⟨n.ks,n.ps,n.ss,n.ib,n.sd+1⟩ 0 (Cy n u t),true) else (n,false)
theorem Ey (n:Nt) (u:Int) (t:ByteArray) (ht:t.size≤14):(Cy n u t).size=24:=Ez _ _ _ _ (qG _ (by rw [ByteArray.size_append,gw];show 1+t.size≤15;omega))
theorem DY {n:Nt} (g:GN n) (h:¬n.sd=60):GN ⟨n.ks,n.ps,n.ss,n.ib,n.sd+1⟩:=⟨g.k1,g.k4,g.kr,g.pl,g.sl,g.il,by have:=g.sd;show 0≤n.sd+1∧n.sd+1≤60;omega,g.po,g.so,g.sub,g.bx⟩
theorem YT {n:Nt} (g:GN n) (u:Int) (t:ByteArray):GN (xb n u t).1:=by
  unfold xb
  split
  · rename_i c
    exact D0 (DY g c.2.2) (by have:=g.k1;exact this) (Ey n u t c.2.1)
  · exact g
theorem I8 (m:Nat) (u:Int) (h1:1≤m) (h4:m≤4) (hu:0≤u∧u≤3):wrap64 (((List.replicate m (1:Int)).length:Int)-1)=((m-1:Nat):Int)∧(List.replicate m (1:Int)).set (wrap64 (((List.replicate m (1:Int)).length:Int)-1)).toNat (wrap64 (u+2))=wF m u:=by
  have e:wrap64 (((List.replicate m (1:Int)).length:Int)-1)=((m-1:Nat):Int):=by rw [List.length_replicate,fK (by omega) (by omega)];omega
  rw [e,Int.toNat_natCast,fK (x:=u+2) (by omega) (by omega)]
  exact ⟨rfl,rfl⟩
theorem Vy {n:Nt} (g:GN n) (u:Int) (t:ByteArray):Ev (fun k=>gT.f k n u t) (xb n u t):=by
  have k1:=g.k1
  have k4:=g.k4
  have gs:=g.sd
  unfold gT.f xb
  refine jh (pP _ _ _) ?_
  by_cases hu:0≤u∧u≤3
  · refine bO (by rw [fN.2 hu];decide) ?_
    by_cases h2:t.size≤14
    · refine bO (by omega) ?_
      by_cases h3:n.sd=60
      · rw [if_neg (fun h=>h.2.2 h3)]
        exact aC h3 (cu rfl)
      · rw [if_pos ⟨hu,h2,h3⟩]
        refine bO h3 (aC (by omega) ?_)
        obtain ⟨q1,q2⟩:=I8 n.ks.length u k1 k4 hu
        unfold gT.g
        have hsd:wrap64 (n.sd+1)=n.sd+1:=fK (by omega) (by omega)
        rw [q2,q1,hsd,show (n.sd+1)%256=n.sd+1 by omega]
        have gs2:=DY g h3
        exact aC ⟨by omega,by rw [List.length_replicate];omega⟩ (bz (Nk n.ks (wF n.ks.length u) _ k1 k4 (Bw _ _) g.kr (NX _ _ hu) (by rw [ByteArray.size_append,gw];show 1+t.size≤15;omega)) (aC rfl (bz (sZ gs2 (i:=0) (Cy n u t) (by show 0<n.ks.length;omega)) (cu rfl))))
    · rw [if_neg (fun h=>h2 h.2.1)]
      exact aC (by omega) (cu rfl)
  · rw [if_neg (fun h=>hu h.1)]
    refine aC ?_ (cu rfl)
    rw [Bool.eq_false_iff]
    intro h
    exact hu (fN.1 h)
theorem Vz {n:Nt} (g:GN n) (u:Int) (t:ByteArray):Ev (fun k=>dR.f k n u t) (xb n u t):=by
  have k1:=g.k1
  have k4:=g.k4
  have gs:=g.sd
  unfold dR.f xb
  refine jh (kN _ _ _) ?_
  by_cases hu:0≤u∧u≤3
  · refine bO (by rw [fN.2 hu];decide) ?_
    by_cases h2:t.size≤14
    · refine bO (by omega) ?_
      by_cases h3:n.sd=60
      · rw [if_neg (fun h=>h.2.2 h3)]
        exact aC h3 (cu rfl)
      · rw [if_pos ⟨hu,h2,h3⟩]
        have hr:fm.f [1] (n.ks.length:Int)=some (List.replicate n.ks.length 1):=by
          unfold fm.f
          rw [if_pos (by omega),if_pos (by omega),if_pos (by rfl),afW _ k1 (by omega)]
          simp [rd]
        refine bO h3 (jh hr ?_)
        obtain ⟨q1,q2⟩:=I8 n.ks.length u k1 k4 hu
        unfold dR.g
        have hsd:wrap64 (n.sd+1)=n.sd+1:=fK (by omega) (by omega)
        rw [q2,q1,hsd,show (n.sd+1)%256=n.sd+1 by omega]
        have gs2:=DY g h3
        exact aC ⟨by omega,by rw [List.length_replicate];omega⟩ (bz (Nl n.ks (wF n.ks.length u) _ k4 (Bw _ _) g.kr (by rw [ByteArray.size_append,gw];show 1+t.size≤15;omega)) (bz (tc gs2 (i:=0) (Cy n u t) (by show 0<n.ks.length;omega)) (cu rfl)))
    · rw [if_neg (fun h=>h2 h.2.1)]
      exact aC (by omega) (cu rfl)
  · rw [if_neg (fun h=>hu h.1)]
    refine aC ?_ (cu rfl)
    rw [Bool.eq_false_iff]
    intro h
    exact hu (fN.1 h)
noncomputable def jA (n:Nt) (a b:Int) (x:ByteArray):Nt×Bool:=
  if a=1 then xb n b x else if x=(⟨#[]⟩:ByteArray) then
    (if a = 2 then (if 0 ≤ b ∧ b < (n.ks.length : Int) then (qi n b.toNat, true) else (n, false))
     else if a=3 then (if 0≤b∧b<((n.ss.getD 0 []).length:Int) then (lK n 0 (aQ ByteArray.empty (n.ss.getD 0 []) b),true) else (n,false)) else (n,false))
  else (n,false)
theorem KH {n:Nt} (g:GN n) {b:Int} (h0:0≤b) (h1:b<((n.ss.getD 0 []).length:Int)):(aQ ByteArray.empty (n.ss.getD 0 []) b).size=24:=by
  obtain ⟨j,rfl⟩:=Int.eq_ofNat_of_zero_le h0
  have hj:j<(n.ss.getD 0 []).length:=by omega
  rw [show aQ ByteArray.empty (n.ss.getD 0 []) (j:Int)=(n.ss.getD 0 [])[j] from fy _ j _ hj]
  exact (g.so 0).2.1 _ (List.getElem_mem hj)
theorem uZ {n:Nt} (g:GN n) (a b:Int) (x:ByteArray):GN (jA n a b x).1:=by
  have k1:=g.k1
  unfold jA
  split
  · exact YT g b x
  · split
    · split
      · split
        · rename_i h
          exact (yf g (by omega)).1
        · exact g
      · split
        · split
          · rename_i h
            exact D0 g (by omega) (KH g h.1 h.2)
          · exact g
        · exact g
    · exact g
theorem IG {n:Nt} (g:GN n) (a b:Int) (x:ByteArray):Ev (fun k=>bP.f k n a b x) (jA n a b x):=by
  have k1:=g.k1
  have k4:=g.k4
  have sl:=g.sl
  unfold bP.f jA
  by_cases a1:a=1
  · rw [if_pos a1]
    exact aC a1 (Vy g b x)
  rw [if_neg a1]
  refine bO a1 ?_
  by_cases e:x=(⟨#[]⟩:ByteArray)
  · rw [if_pos e]
    refine aC e ?_
    by_cases hb:b<0
    · have n1:¬(0≤b∧b<(n.ks.length:Int)):=fun h=>by omega
      have n2:¬(0≤b∧b<((n.ss.getD 0 []).length:Int)):=fun h=>by omega
      rw [if_neg n1,if_neg n2,ite_self,ite_self]
      exact aC hb (cu rfl)
    · refine bO hb ?_
      by_cases a2:a=2
      · rw [if_pos a2]
        refine aC a2 ?_
        by_cases hl:b<(n.ks.length:Int)
        · rw [if_pos ⟨by omega,hl⟩]
          obtain ⟨j,rfl⟩:=Int.eq_ofNat_of_zero_le (show 0≤b by omega)
          rw [Int.toNat_natCast]
          exact aC hl (bz (IB g (by omega)) (cu rfl))
        · rw [if_neg (fun h=>hl h.2)]
          exact bO hl (cu rfl)
      · rw [if_neg a2]
        refine bO a2 ?_
        by_cases a3:a=3
        · rw [if_pos a3]
          refine aC a3 (aC (by omega) ?_)
          by_cases hl:b<((n.ss.getD 0 []).length:Int)
          · rw [if_pos ⟨by omega,hl⟩]
            exact aC hl (bz (sZ g (i:=0) _ (by omega)) (cu rfl))
          · rw [if_neg (fun h=>hl h.2)]
            exact bO hl (cu rfl)
        · rw [if_neg a3]
          exact bO a3 (cu rfl)
  · rw [if_neg e]
    exact bO e (cu rfl)
theorem QY {n:Nt} (g:GN n) (a b:Int) (x:ByteArray):Ev (fun k=>bh.f k n a b x) (jA n a b x):=by
  have k1:=g.k1
  have k4:=g.k4
  have sl:=g.sl
  have hs:=(g.so 0).1
  unfold bh.f jA
  by_cases a1:a=1
  · rw [if_pos a1]
    exact aC a1 (Vz g b x)
  rw [if_neg a1]
  refine bO a1 ?_
  by_cases e:x=(⟨#[]⟩:ByteArray)
  · rw [if_pos e]
    refine aC e ?_
    by_cases a2:a=2
    · rw [if_pos a2]
      refine aC a2 (jh (kN _ _ _) ?_)
      rw [fK (x:=(n.ks.length:Int)-1) (by omega) (by omega)]
      by_cases hl:0≤b∧b<(n.ks.length:Int)
      · rw [if_pos hl]
        obtain ⟨j,rfl⟩:=Int.eq_ofNat_of_zero_le hl.1
        rw [Int.toNat_natCast]
        exact aC (fN.2 ⟨by omega,by omega⟩) (bz (ID g (by omega)) (cu rfl))
      · rw [if_neg hl]
        exact bO (fun h=>hl (by have:=fN.1 h;omega)) (cu rfl)
    · rw [if_neg a2]
      refine bO a2 ?_
      by_cases a3:a=3
      · rw [if_pos a3]
        refine aC a3 (aC (by omega) (jh (kN _ _ _) ?_))
        rw [fK (x:=((n.ss.getD 0 []).length:Int)-1) (by omega) (by omega)]
        by_cases hl:0≤b∧b<((n.ss.getD 0 []).length:Int)
        · rw [if_pos hl]
          exact aC (fN.2 ⟨by omega,by omega⟩) (aC hl (bz (tc g (i:=0) _ (by omega)) (cu rfl)))
        · rw [if_neg hl]
          exact bO (fun h=>hl (by have:=fN.1 h;omega)) (cu rfl)
      · rw [if_neg a3]
        exact bO a3 (cu rfl)
  · rw [if_neg e]
    exact bO e (cu rfl)
theorem Fw (xs:List Int) (lo up:Int) (hn:xs.length≤9223372036854775807):∀(d i:Nat),i+d=xs.length→Ev (fun k=>dO.l0 k lo up xs (xs.length:Int) (i:Int)) ((xs.drop i).all (mC lo up)):=by
  intro d
  induction d with
  | zero =>
    intro i hi
    refine bf (fun k=>by rw [dO.l0]) ?_
    refine bO (by omega) (cu ?_)
    rw [List.drop_eq_nil_of_le (by omega)];rfl
  | succ d ih =>
    intro i hi
    have fl:i<xs.length:=by omega
    refine bf (fun k=>by rw [dO.l0]) ?_
    refine aC (by omega) (aC (by omega) (aC (by omega) ?_))
    rw [pJ xs i fl,List.drop_eq_getElem_cons fl,List.all_cons]
    refine jh (kN _ _ _) ?_
    cases h:mC lo up xs[i] with
    | true =>
      refine aC rfl ?_
      rw [fK (by omega) (by omega)]
      simpa using ih (i+1) (by omega)
    |false=>exact bO (by simp) (cu (by simp))
theorem Fx (xs:List Int) (lo up:Int) (hn:xs.length≤9223372036854775807):Ev (fun k=>dO.f k xs lo up) (xs.all (mC lo up)):=
  Fw xs lo up hn xs.length 0 (by omega)
theorem NA (K:List Int) (h:K.length≤8):Ev (fun k=>eX.f k K) (K.all (mC 0 65535)):=by
  unfold eX.f
  exact aC (by omega) (bz (Fx K 0 65535 (by omega)) (cu rfl))
def ql (K:List Int):List Int×List (List ByteArray)×List (List ByteArray)×List (List ByteArray)×Int×Bool:=if (mC 1 4 (K.length:Int)&&K.all (mC 0 65535))=true then (K,List.replicate K.length [],List.replicate K.length [],List.replicate 4 [],0,true) else ([],[],[],[],0,false)
theorem mw (n:Nat) (hn:n≤1048576):cj (List.replicate n []):=⟨by rw [List.length_replicate];exact hn,fun p hp=>by rw [(List.mem_replicate.1 hp).2];simp⟩
theorem Rm:KW []=true:=rfl
theorem Bd (n:Nat):∀(m i:Nat),allI (mz (List.replicate n [])) i (List.replicate m [])=true
  |0,_=>rfl
  | m + 1, i => by
    have e:(List.replicate n ([]:List ByteArray)).getD i []=[]:=by
      rw [List.getD_eq_getElem?_getD,List.getElem?_replicate]
      split<;>rfl
    rw [List.replicate_succ,allI,Bd n m (i+1),mz,e,Rm]
    rfl
theorem Bz (K:List Int):jv K (List.replicate K.length []) (List.replicate K.length []) (List.replicate 4 []) 0=(mC 1 4 (K.length:Int)&&K.all (mC 0 65535)):=by
  unfold jv
  rw [Bd,List.length_replicate,List.length_replicate,show mC 0 60 0=true from by decide,show (List.replicate 4 ([]:List ByteArray)).all tC=true from rfl]
  simp
theorem yy (K:List Int) (hn:K.length≤1048576):Ev (fun k=>dU.f k K) (ql K):=by
  unfold dU.f ql
  refine aC hn (bz (oP K _ _ _ 0 hn (mw _ hn) (mw _ hn) (mw 4 (by decide))) ?_)
  rw [Bz]
  cases (mC 1 4 (K.length:Int)&&K.all (mC 0 65535)) with
  |true=>exact cu rfl
  |false=>exact cu rfl
theorem NL (K:List Int) (hn:K.length≤1048576):Ev (fun k=>eu.f k K) (ql K):=by
  unfold eu.f ql
  refine jh (kN _ _ _) ?_
  cases h:mC 1 4 (K.length:Int) with
  |false=>exact bO (by decide) (cu rfl)
  | true =>
    have h':=fN.1 h
    refine aC rfl (bz (NA K (by omega)) ?_)
    cases K.all (mC 0 65535) with
    |false=>exact bO (by decide) (cu rfl)
    |true=>exact aC rfl (aC hn (cu rfl))
theorem ED (K:List Int) (hn:K.length≤1048576):(ql K).1.length≤1048576∧cj (ql K).2.1∧cj (ql K).2.2.1∧cj (ql K).2.2.2.1:=by
  have h0:cj []:=⟨by simp,fun _ h=>by cases h⟩
  unfold ql
  split
  · exact ⟨hn,mw _ hn,mw _ hn,mw 4 (by decide)⟩
  · exact ⟨by simp,h0,h0,h0⟩
noncomputable def wk:List mK→Nt→List Bool→Nt×List Bool
  |[],n,d=>(n,d)
  |s::r,n,d=>wk r (jA n s.f0 s.f1 s.f2).1 (d++[(jA n s.f0 s.f1 s.f2).2])
theorem QX {n:Nt} {a b:Int} {x:ByteArray} (h:(jA n a b x).2=false):(jA n a b x).1=n:=by
  have hs:∀(u:Int) (t:ByteArray),(xb n u t).2=false→(xb n u t).1=n:=by
    intro u t h
    unfold xb at h⊢
    split at h
    · cases h
    · rename_i c
      rw [if_neg c]
  unfold jA at h⊢
  split at h
  · rename_i c
    rw [if_pos c]
    exact hs b x h
  · rename_i c
    rw [if_neg c]
    split at h
    · rename_i c
      rw [if_pos c]
      split at h
      · rename_i c
        rw [if_pos c]
        split at h
        · cases h
        · rename_i c
          rw [if_neg c]
      · rename_i c
        rw [if_neg c]
        split at h
        · rename_i c
          rw [if_pos c]
          split at h
          · cases h
          · rename_i c
            rw [if_neg c]
        · rename_i c
          rw [if_neg c]
    · rename_i c
      rw [if_neg c]
theorem DZ:∀(l:List mK) (n:Nt) (d:List Bool),GN n→GN (wk l n d).1∧(wk l n d).2.length=d.length+l.length
  |[],n,d,g=>⟨g,rfl⟩
  | s :: r, n, d, g => by
    obtain ⟨h1,h2⟩:=DZ r (jA n s.f0 s.f1 s.f2).1 (d++[(jA n s.f0 s.f1 s.f2).2]) (uZ g _ _ _)
    refine ⟨h1,?_⟩
    simp only [wk]
    rw [h2,List.length_append,List.length_cons]
    simp only [List.length_cons,List.length_nil]
    omega
theorem IL:∀(l:List mK) (n:Nt) (d:List Bool),GN n→Ev (fun k=>cU.l0 k l n d) (wk l n d)
  | [], n, d, g => by
    simp only [cU.l0]
    exact cu rfl
  | s :: r, n, d, g => by
    simp only [cU.l0]
    obtain ⟨s1,s2,s3,s4⟩:=mb g
    have ih:=IL r (jA n s.f0 s.f1 s.f2).1 (d++[(jA n s.f0 s.f1 s.f2).2]) (uZ g _ _ _)
    refine bz (vF n s1 s2 s3 s4) (bz (IG g s.f0 s.f1 s.f2) ?_)
    have hn:=QX (n:=n) (a:=s.f0) (b:=s.f1) (x:=s.f2)
    simp only [wk]
    generalize jA n s.f0 s.f1 s.f2=p at*
    obtain ⟨m,q⟩:=p
    cases q with
    | false =>
      have e:m=n:=hn rfl
      subst e
      exact ih
    |true=>exact ih
def Bk (K:List Int):Nt:=⟨K,List.replicate K.length [],List.replicate K.length [],List.replicate 4 [],0⟩
theorem Io {K:List Int} (h1:mC 1 4 (K.length:Int)=true) (h2:K.all (mC 0 65535)=true):GN (Bk K):=by
  apply mQ
  show jv K (List.replicate K.length []) (List.replicate K.length []) (List.replicate 4 []) 0=true
  rw [Bz,h1,h2]
  rfl
noncomputable def IM (K:List Int) (l:List mK):Nt×List Bool×Bool:=if (mC 1 4 (K.length:Int)&&K.all (mC 0 65535))=true∧l.length≤60 then ((wk l (Bk K) []).1,(wk l (Bk K) []).2,true) else (⟨[],[],[],[],0⟩,[],false)
theorem Rb (K:List Int) (l:List mK) (hK:K.length≤1048576):Ev (fun k=>cU.f k K l) (IM K l):=by
  unfold cU.f IM
  have e:=yy K hK
  unfold ql at e
  by_cases hg:(mC 1 4 (K.length:Int)&&K.all (mC 0 65535))=true
  · rw [if_pos hg] at e
    have h12:=hg
    rw [Bool.and_eq_true] at h12
    have g:=Io h12.1 h12.2
    refine bz e (bO (by decide) ?_)
    by_cases hl:l.length≤60
    · rw [if_pos ⟨hg,hl⟩]
      obtain ⟨g2,_⟩:=DZ l (Bk K) [] g
      obtain ⟨s1,s2,s3,s4⟩:=mb g2
      exact bO (by omega) (bz (IL l (Bk K) [] g) (bz (vF _ s1 s2 s3 s4) (cu rfl)))
    · rw [if_neg (fun h=>hl h.2)]
      exact aC (by omega) (cu rfl)
  · rw [if_neg hg] at e
    rw [if_neg (fun h=>hg h.1)]
    exact bz e (aC rfl (cu rfl))
theorem NK (xs:List ByteArray) (hn:xs.length≤1048576):∀(d i:Nat),i+d=xs.length→Ev (fun k=>cS.l0 k xs xs (xs.length:Int) (i:Int)) (allI (AF xs) i (xs.drop i)&&decide ((xs.length:Int)≤100)):=by
  intro d
  induction d with
  | zero =>
    intro i hi
    refine bf (fun k=>by rw [cS.l0]) (bO (by omega) (cu ?_))
    rw [List.drop_eq_nil_of_le (by omega)];rfl
  | succ d ih =>
    intro i hi
    have fl:i<xs.length:=by omega
    refine bf (fun k=>by rw [cS.l0]) (aC (by omega) (aC (by omega) (aC (by omega) ?_)))
    rw [show aQ ByteArray.empty xs (i:Int)=xs[i] from fy xs i _ fl,List.drop_eq_getElem_cons fl,fK (x:=(i:Int)+1) (by omega) (by omega)]
    simp only [allI]
    by_cases h:(xs[i].size:Int)=24
    · refine aC h ?_
      by_cases h0:(i:Int)>0
      · refine aC h0 ?_
        rw [fK (x:=(i:Int)-1) (by omega) (by omega)]
        refine aC (by omega) (aC (by omega) ?_)
        have e:aQ ByteArray.empty xs ((i:Int)-1)=xs.getD (i-1) ByteArray.empty:=by
          unfold aQ
          rw [show ((i:Int)-1).toNat=i-1 by omega]
        rw [e]
        have xj:¬i=0:=by omega
        cases hb:Op.bytesLess (xs.getD (i-1) ByteArray.empty).toList xs[i].toList with
        | true =>
          refine aC rfl ?_
          have hp:AF xs i xs[i]=true:=by unfold AF;rw [hb];simp [h]
          rw [hp,Bool.true_and]
          exact ih (i+1) (by omega)
        | false =>
          have hp:AF xs i xs[i]=false:=by unfold AF;rw [hb];simp [xj]
          exact bO (by simp) (cu (by rw [hp];rfl))
      · refine bO h0 ?_
        have xj:i=0:=by omega
        have hp:AF xs i xs[i]=true:=by unfold AF;rw [decide_eq_true h,decide_eq_true xj];rfl
        rw [hp,Bool.true_and]
        exact ih (i+1) (by omega)
    · have hp:AF xs i xs[i]=false:=by unfold AF;simp [h]
      exact bO h (cu (by rw [hp];rfl))
theorem EL (xs:List ByteArray) (hn:xs.length≤1048576):Ev (fun k=>cS.f k xs) (KW xs):=NK xs hn xs.length 0 (by omega)
theorem Ou (x:ByteArray):iE.f x=some (!mC 1 15 (x.size:Int)):=by
  unfold iE.f
  rw [kN];rfl
theorem aaU (xs:List ByteArray) (hn:xs.length≤1048576):∀(d i:Nat),i+d=xs.length→∃r:Int,Ev (fun k=>bF.l0 k xs (xs.length:Int) (i:Int)) r∧(r≥0↔(xs.drop i).all (fun x=>mC 1 15 (x.size:Int))=false):=by
  intro d
  induction d with
  | zero =>
    intro i hi
    refine ⟨-1,bf (fun k=>by rw [bF.l0]) (bO (by omega) (cu rfl)),?_⟩
    rw [List.drop_eq_nil_of_le (by omega)];simp
  | succ d ih =>
    intro i hi
    have fl:i<xs.length:=by omega
    obtain ⟨r,h1,h3⟩:=ih (i+1) (by omega)
    rw [List.drop_eq_getElem_cons fl,List.all_cons]
    cases h:mC 1 15 (xs[i].size:Int) with
    | false =>
      refine ⟨(i:Int),bf (fun k=>by rw [bF.l0]) (aC (by omega) (aC (by omega) (aC (by omega) ?_))),by simp⟩
      rw [show aQ ByteArray.empty xs (i:Int)=xs[i] from fy xs i _ fl]
      exact jh (Ou _) (aC (by rw [h];rfl) (cu rfl))
    | true =>
      refine ⟨r,bf (fun k=>by rw [bF.l0]) (aC (by omega) (aC (by omega) (aC (by omega) ?_))),by rw [Bool.true_and];exact h3⟩
      rw [show aQ ByteArray.empty xs (i:Int)=xs[i] from fy xs i _ fl]
      refine jh (Ou _) (bO (by rw [h];decide) ?_)
      rw [fK (by omega) (by omega)]
      exact h1
theorem abI (xs:List ByteArray) (hn:xs.length≤1048576):Ev (fun k=>eD.f k xs) (!xs.all (fun x=>mC 1 15 (x.size:Int))):=by
  obtain ⟨r,h1,h3⟩:=aaU xs hn xs.length 0 (by omega)
  refine bz (f:=fun _ t=>some (decide (t≥0))) h1 (cu ?_)
  rw [List.drop_zero] at h3
  cases e:xs.all (fun x=>mC 1 15 (x.size:Int)) with
  |true=>rw [e] at h3;simpa using h3
  |false=>rw [e] at h3;simpa using h3
theorem La (bs:List (List ByteArray)) (hb:cj bs):∀(d i:Nat),i+d=bs.length→Ev (fun k=>ax.l2 k bs (bs.length:Int) (i:Int)) ((bs.drop i).all tC):=by
  have hn:=hb.1
  intro d
  induction d with
  | zero =>
    intro i hi
    refine bf (fun k=>by rw [ax.l2]) (bO (by omega) (cu ?_))
    rw [List.drop_eq_nil_of_le (by omega)];rfl
  | succ d ih =>
    intro i hi
    have fl:i<bs.length:=by omega
    refine bf (fun k=>by rw [ax.l2]) (aC (by omega) (aC (by omega) (aC (by omega) ?_)))
    rw [show aN bs (i:Int)=bs[i] from fy bs i _ fl,List.drop_eq_getElem_cons fl,List.all_cons,fK (by omega) (by omega)]
    have hx:=hb.2 _ (List.getElem_mem fl)
    generalize bs[i]=b at hx
    unfold tC
    by_cases h:(b.length:Int)>60
    · exact aC h (cu (by
     have:¬b.length≤60:=by omega
     simp [this]))
    · refine bO h (bz (abI b hx) ?_)
      have h':b.length≤60:=by omega
      cases hh:b.all (fun x=>mC 1 15 (x.size:Int)) with
      |false=>exact aC rfl (cu (by simp))
      | true =>
        refine bO (by simp) ?_
        rw [decide_eq_true h',Bool.true_and,Bool.true_and]
        exact ih (i+1) (by omega)
theorem Lb (K:List Int) (ins outs boxes:List (List ByteArray)) (t:Int) (i:Nat) (hi:i<ins.length) (hn:ins.length≤1048576) (ho:i<outs.length) (RV:(outs.getD i []).length≤1048576) (x:List ByteArray) (hx:x.length≤1048576) (R:Bool) (H:Ev (fun k=>ax.l0 k ins (ins.length:Int) (wrap64 ((i:Int)+1)) K ins outs boxes t) R):
    ∀(d j:Nat),j+d=x.length→Ev (fun k=>ax.l1 k (i:Int) ins (ins.length:Int) (i:Int) x (x.length:Int) (j:Int) K ins outs boxes t) ((x.drop j).all (oH (outs.getD i []))&&R):=by
  intro d
  induction d with
  | zero =>
    intro j hj
    refine bf (fun k=>by rw [ax.l1]) (bO (by omega) ?_)
    rw [List.drop_eq_nil_of_le (by omega)]
    exact H
  | succ d ih =>
    intro j hj
    have fl:j<x.length:=by omega
    refine bf (fun k=>by rw [ax.l1]) (aC (by omega) (aC (by omega) (aC (by omega) (aC (by omega) (aC (by omega) ?_)))))
    rw [show aQ ByteArray.empty x (j:Int)=x[j] from fy x j _ fl,List.drop_eq_getElem_cons fl,List.all_cons,fK (x:=(j:Int)+1) (by omega) (by omega),show aN outs (i:Int)=outs.getD i [] from by unfold aN;rw [Int.toNat_natCast]]
    refine bz (Bu _ _ RV) ?_
    cases oH (outs.getD i []) x[j] with
    |true=>exact aC rfl (by simpa using ih (j+1) (by omega))
    |false=>exact bO (by simp) (cu (by simp))
theorem Lc (K:List Int) (ins outs boxes:List (List ByteArray)) (t:Int) (hi:cj ins) (ho:cj outs) (hb:cj boxes) (hl:outs.length=ins.length):∀(d i:Nat),i+d=ins.length→Ev (fun k=>ax.l0 k ins (ins.length:Int) (i:Int) K ins outs boxes t) (allI (mz outs) i (ins.drop i)&&boxes.all tC):=by
  have hn:=hi.1
  intro d
  induction d with
  | zero =>
    intro i hd
    refine bf (fun k=>by rw [ax.l0]) (bO (by omega) ?_)
    rw [List.drop_eq_nil_of_le (by omega)]
    exact La boxes hb boxes.length 0 (by omega)
  | succ d ih =>
    intro i hd
    have fl:i<ins.length:=by omega
    refine bf (fun k=>by rw [ax.l0]) (aC (by omega) (aC (by omega) (aC (by omega) ?_)))
    rw [show aN ins (i:Int)=ins[i] from fy ins i _ fl,show aN outs (i:Int)=outs.getD i [] from by unfold aN;rw [Int.toNat_natCast],List.drop_eq_getElem_cons fl]
    have hx:=hi.2 _ (List.getElem_mem fl)
    generalize ins[i]=x at hx
    have RV:(outs.getD i []).length≤1048576:=by
      rw [List.getD_eq_getElem?_getD,List.getElem?_eq_getElem (by omega)]
      exact ho.2 _ (List.getElem_mem _)
    have J:∀b,Ev (fun k=>ax.j2 k (i:Int) x ins (ins.length:Int) (i:Int) b K ins outs boxes t) (!b&&(x.all (oH (outs.getD i []))&&(allI (mz outs) (i+1) (ins.drop (i+1))&&boxes.all tC))):=by
      intro b
      refine bf (fun k=>by rw [ax.j2]) ?_
      cases b with
      |true=>exact aC rfl (cu rfl)
      | false =>
        refine bO (by simp) ?_
        have:=Lb K ins outs boxes t i fl hn (by omega) RV x hx _ (by rw [fK (by omega) (by omega)];exact ih (i+1) (by omega)) x.length 0 (by omega)
        exact this
    simp only [allI,mz]
    refine bz (EL x hx) ?_
    cases h1:KW x with
    |false=>refine bO (by simp) ?_;simpa using J true
    | true =>
      refine aC rfl (aC (by omega) (bz (EL _ RV) ?_))
      have:=J (!KW (outs.getD i []))
      rw [Bool.not_not] at this
      rw [Bool.true_and,Bool.and_assoc,Bool.and_assoc]
      exact this
theorem Ld (K:List Int) (ins outs boxes:List (List ByteArray)) (t:Int) (hi:cj ins) (ho:cj outs) (hb:cj boxes) (b:Bool) (hl:b=false→outs.length=ins.length):Ev (fun k=>ax.j0 k b K ins outs boxes t) (!b&&(allI (mz outs) 0 ins&&boxes.all tC)):=by
  refine bf (fun k=>by rw [ax.j0]) ?_
  cases b with
  |true=>exact aC rfl (cu rfl)
  |false=>exact bO (by simp) (Lc K ins outs boxes t hi ho hb (hl rfl) ins.length 0 (by omega))
theorem oU (K:List Int) (ins outs boxes:List (List ByteArray)) (t:Int) (hK:K.length≤1048576) (hi:cj ins) (ho:cj outs) (hb:cj boxes):Ev (fun k=>ax.f k K ins outs boxes t) (jv K ins outs boxes t):=by
  have J:=Ld K ins outs boxes t hi ho hb
  unfold ax.f jv
  refine jh (kN _ _ _) ?_
  cases h1:mC 1 4 (K.length:Int) with
  |false=>refine bO (by simp) ?_;simpa using J true (by simp)
  | true =>
    have h1':=fN.1 h1
    refine aC rfl (bz (NA K (by omega)) ?_)
    cases h2:K.all (mC 0 65535) with
    |false=>refine bO (by simp) ?_;simpa using J true (by simp)
    | true =>
      refine aC rfl ?_
      by_cases h3:(ins.length:Int)=(K.length:Int)
      · refine aC h3 ?_
        by_cases h4:(outs.length:Int)=(K.length:Int)
        · refine aC h4 ?_
          by_cases h5:(boxes.length:Int)=4
          · refine aC h5 (jh (kN _ _ _) ?_)
            have:=J (!mC 0 60 t) (fun _=>by omega)
            simpa [h3,h4,h5] using this
          · refine bO h5 ?_;simpa [h5] using J true (by simp)
        · refine bO h4 ?_;simpa [h4] using J true (by simp)
      · refine bO h3 ?_;simpa [h3] using J true (by simp)
theorem OM (l:List ByteArray) (hl:l.length≤1048576):bG.f l=some l:=by
  unfold bG.f
  show (if ([]:List ByteArray).length+l.length<_ then some ([]++l) else none)=_
  rw [if_pos (by simp;omega),List.nil_append]
theorem ON (l:List Int) (hl:l.length≤1048576):cY.f l=some l:=by
  unfold cY.f
  show (if ([]:List Int).length+l.length<_ then some ([]++l) else none)=_
  rw [if_pos (by simp;omega),List.nil_append]
theorem V4 (l:List (List ByteArray)) (hl:cj l):∀(d i:Nat) (acc:List (List ByteArray)),i+d=l.length→acc.length≤i→Ev (fun k=>dh.l0 k acc l (l.length:Int) (i:Int)) (acc++l.drop i):=by
  obtain ⟨l1,l2⟩:=hl
  intro d
  induction d with
  | zero =>
    intro i acc hi ha
    rw [List.drop_eq_nil_of_le (by omega),List.append_nil]
    exact bf (fun k=>by rw [dh.l0]) (bO (by omega) (cu rfl))
  | succ d ih =>
    intro i acc hi ha
    have fl:i<l.length:=by omega
    have hz:=l2 _ (List.getElem_mem fl)
    have e:aN l (i:Int)=l[i]:=fy l i _ fl
    have:=ih (i+1) (acc++[l[i]]) (by omega) (by simp;omega)
    rw [List.append_assoc,List.singleton_append,←List.drop_eq_getElem_cons fl] at this
    refine bf (fun k=>by rw [dh.l0]) (aC (by omega) (aC (by omega) (aC (by omega) ?_)))
    rw [e,fK (x:=(i:Int)+1) (by omega) (by omega)]
    exact jh (OM _ hz) (aC (by omega) this)
theorem tf (l:List (List ByteArray)) (hl:cj l):Ev (fun k=>dh.f k l) l:=V4 l hl l.length 0 [] (by omega) (by simp)
theorem Nh (n:Nt) (h1:n.ks.length≤1048576) (h2:cj n.ps) (h3:cj n.ss) (h4:cj n.ib):Ev (fun k=>ep.f k n) n:=by
  unfold ep.f
  exact jh (ON _ h1) (bz (tf _ h2) (bz (tf _ h3) (bz (tf _ h4) (cu rfl))))
noncomputable def pG:Nat→Nat→Nt→Nt
  |0,_,n=>n
  |d+1,j,n=>pG d (j+1) (qi n j)
noncomputable def Cn (n:Nt):Nt:=pG n.ks.length 0 n
theorem z6:∀(d j:Nat) {n:Nt},GN n→j+d=n.ks.length→GN (pG d j n)∧(pG d j n).ks=n.ks∧(pG d j n).sd=n.sd
  |0,_,n,g,_=>⟨g,rfl,rfl⟩
  | d + 1, j, n, g, h => by
    obtain ⟨h1,h2,h3⟩:=yf g (show j<n.ks.length by omega)
    obtain ⟨h4,h5,h6⟩:=z6 d (j+1) h1 (by rw [h2];omega)
    exact ⟨h4,h5.trans h2,h6.trans h3⟩
theorem BY {n:Nt} (g:GN n):GN (Cn n):=(z6 n.ks.length 0 g (by omega)).1
theorem IJ:∀(d j:Nat) {n:Nt},GN n→j+d=n.ks.length→Ev (fun k=>ct.l0 k d j n) (pG d j n)
  | 0, _, n, g, _ => by
    simp only [ct.l0]
    exact cu rfl
  | d + 1, j, n, g, h => by
    obtain ⟨h1,h2,h3⟩:=yf g (show j<n.ks.length by omega)
    simp only [ct.l0]
    exact bz (ID g (by omega)) (IJ d (j+1) h1 (by rw [h2];omega))
def vn:Nt:=⟨[],[],[],[],0⟩
theorem yA:vn.ks.length≤1048576∧cj vn.ps∧cj vn.ss∧cj vn.ib:=by
  have h0:cj []:=⟨by simp,fun _ h=>by cases h⟩
  exact ⟨by decide,h0,h0,h0⟩
open Classical in
noncomputable def jN (n:Nt):Nt×Bool:=if jv n.ks n.ps n.ss n.ib n.sd=true then (Cn n,true) else (vn,false)
theorem KG (n:Nt) (h1:n.ks.length≤1048576) (h2:cj n.ps) (h3:cj n.ss) (h4:cj n.ib):Ev (fun k=>iD.f k n) (jN n):=by
  unfold iD.f jN
  refine bz (oU n.ks n.ps n.ss n.ib n.sd h1 h2 h3 h4) ?_
  by_cases hg:jv n.ks n.ps n.ss n.ib n.sd=true
  · rw [if_pos hg,hg]
    have g:=mQ hg
    refine bO (by decide) (bz (Nh n h1 h2 h3 h4) (bz (a:=Cn n) ?_ (cu rfl)))
    unfold ct.f
    exact aC h1 (IJ _ 0 g (by omega))
  · rw [if_neg hg]
    exact aC (by simpa using hg) (cu rfl)
theorem AD (n:Nt):(jN n).1.ks.length≤1048576∧cj (jN n).1.ps∧cj (jN n).1.ss∧cj (jN n).1.ib:=by
  unfold jN
  split
  · rename_i hg
    exact mb (BY (mQ hg))
  · exact yA
theorem II:∀(d j:Nat) {n:Nt},GN n→j+d=n.ks.length→Ev (fun k=>dW.l0 k d j n) (pG d j n)
  | 0, _, n, g, _ => by
    simp only [dW.l0]
    exact cu rfl
  | d + 1, j, n, g, h => by
    obtain ⟨h1,h2,h3⟩:=yf g (show j<n.ks.length by omega)
    simp only [dW.l0]
    exact bz (IB g (by omega)) (II d (j+1) h1 (by rw [h2];omega))
theorem KF (n:Nt) (h1:n.ks.length≤1048576) (h2:cj n.ps) (h3:cj n.ss) (h4:cj n.ib):Ev (fun k=>dW.f k n) (jN n):=by
  unfold dW.f jN
  refine bz (oP n.ks n.ps n.ss n.ib n.sd h1 h2 h3 h4) ?_
  by_cases hg:jv n.ks n.ps n.ss n.ib n.sd=true
  · rw [if_pos hg,hg]
    have g:=mQ hg
    obtain ⟨s1,s2,s3,s4⟩:=mb (BY g)
    exact bO (by decide) (bz (vF n h1 h2 h3 h4) (aC h1 (bz (II _ 0 g (by omega)) (bz (vF _ s1 s2 s3 s4) (cu rfl)))))
  · rw [if_neg hg]
    exact aC (by simpa using hg) (cu rfl)
open Classical in
noncomputable def mm (n:Nt) (a b:Int) (x:ByteArray):Nt×Bool:=if jv n.ks n.ps n.ss n.ib n.sd=true∧(jA n a b x).2=true then ((jA n a b x).1,true) else (vn,false)
theorem MR (n:Nt) (a b:Int) (x:ByteArray) (h1:n.ks.length≤1048576) (h2:cj n.ps) (h3:cj n.ss) (h4:cj n.ib):Ev (fun k=>eP.f k n a b x) (mm n a b x):=by
  unfold eP.f mm
  refine bz (oP n.ks n.ps n.ss n.ib n.sd h1 h2 h3 h4) ?_
  by_cases hg:jv n.ks n.ps n.ss n.ib n.sd=true
  · have g:=mQ hg
    obtain ⟨s1,s2,s3,s4⟩:=mb (uZ g a b x)
    have e:=IG g a b x
    refine bO (by rw [hg];decide) (bz (vF n h1 h2 h3 h4) (bz e ?_))
    generalize jA n a b x=p at*
    obtain ⟨m,q⟩:=p
    cases q with
    |false=>rw [if_neg (by simp)];exact aC rfl (cu rfl)
    |true=>rw [if_pos ⟨hg,rfl⟩];exact bO (by decide) (bz (vF _ s1 s2 s3 s4) (cu rfl))
  · rw [if_neg (fun h=>hg h.1)]
    exact aC (by simpa using hg) (cu rfl)
theorem MS (n:Nt) (a b:Int) (x:ByteArray) (h1:n.ks.length≤1048576) (h2:cj n.ps) (h3:cj n.ss) (h4:cj n.ib):Ev (fun k=>jP.f k n a b x) (mm n a b x):=by
  unfold jP.f mm
  refine bz (oU n.ks n.ps n.ss n.ib n.sd h1 h2 h3 h4) ?_
  by_cases hg:jv n.ks n.ps n.ss n.ib n.sd=true
  · have g:=mQ hg
    have e:=QY g a b x
    refine bO (by rw [hg];decide) (bz (Nh n h1 h2 h3 h4) (bz e ?_))
    generalize jA n a b x=p at*
    obtain ⟨m,q⟩:=p
    cases q with
    |false=>rw [if_neg (by simp)];exact aC rfl (cu rfl)
    |true=>rw [if_pos ⟨hg,rfl⟩];exact bO (by decide) (cu rfl)
  · rw [if_neg (fun h=>hg h.1)]
    exact aC (by simpa using hg) (cu rfl)
theorem En (n:Nt) (a b:Int) (x:ByteArray):(mm n a b x).1.ks.length≤1048576∧cj (mm n a b x).1.ps∧cj (mm n a b x).1.ss∧cj (mm n a b x).1.ib:=by
  unfold mm
  split
  · rename_i h
    exact mb (uZ (mQ h.1) a b x)
  · exact yA
section
variable {α:Type} (key:α→Int)
def fO (xs ys:List α):Prop:=∀c,xs.filter (fun x=>decide (key x=c))=ys.filter (fun x=>decide (key x=c))
def nh (xs:List α):Prop:=xs.Pairwise (fun x y=>key x≤key y)
variable {key}
theorem fO.refl (xs:List α):fO key xs xs:=fun _=>rfl
theorem fO.symm {xs ys:List α} (h:fO key xs ys):fO key ys xs:=fun c=>(h c).symm
theorem fO.trans {xs ys zs:List α} (h:fO key xs ys) (k:fO key ys zs):fO key xs zs:=fun c=>(h c).trans (k c)
theorem fO.app {xs ys us vs:List α} (h:fO key xs ys) (k:fO key us vs):fO key (xs++us) (ys++vs):=fun c=>by rw [List.filter_append,List.filter_append,h c,k c]
theorem fO.mid {xs ys:List α} (h:fO key xs ys) (P Q:List α):fO key (P++xs++Q) (P++ys++Q):=((fO.refl P).app h).app (fO.refl Q)
theorem fO.swap {A B:List α} (h:∀a∈A,∀b∈B,key a≠key b):fO key (A++B) (B++A):=fun c=>by
  rw [List.filter_append,List.filter_append]
  by_cases q:∃a∈A,key a=c
  · obtain ⟨a,ha,e⟩:=q
    have:B.filter (fun x=>decide (key x=c))=[]:=by
      rw [List.filter_eq_nil_iff]
      intro b hb
      have:=h a ha b hb
      simp only [decide_eq_true_eq]
      omega
    rw [this,List.append_nil,List.nil_append]
  · have:A.filter (fun x=>decide (key x=c))=[]:=by
      rw [List.filter_eq_nil_iff]
      intro a ha
      simp only [decide_eq_true_eq]
      exact fun e=>q ⟨a,ha,e⟩
    rw [this,List.append_nil,List.nil_append]
theorem fO.mem {xs ys:List α} (h:fO key xs ys) (x:α) (hx:x∈xs):x∈ys:=by
  have h1:x∈xs.filter (fun y=>decide (key y=key x)):=List.mem_filter.2 ⟨hx,by simp⟩
  rw [h (key x)] at h1
  exact (List.mem_filter.1 h1).1
theorem fO.nil {ys:List α} (h:fO key [] ys):ys=[]:=by
  cases ys with
  |nil=>rfl
  |cons y r=>exact absurd (h.symm.mem y List.mem_cons_self) (by simp)
theorem nh.eq:∀ {xs ys:List α},nh key xs→nh key ys→fO key xs ys→xs=ys
  |[],_,_,_,h=>h.nil.symm
  |x::xs,[],_,_,h=>absurd h.symm.nil (by simp)
  | x :: xs, y :: ys, hx, hy, h => by
    obtain ⟨x1,x2⟩:=List.pairwise_cons.1 hx
    obtain ⟨y1,y2⟩:=List.pairwise_cons.1 hy
    have e1:key x≤key y:=by
      rcases List.mem_cons.1 (h.symm.mem y List.mem_cons_self) with e|e
      · rw [e];exact Int.le_refl _
      · exact x1 y e
    have e2:key y≤key x:=by
      rcases List.mem_cons.1 (h.mem x List.mem_cons_self) with e|e
      · rw [e];exact Int.le_refl _
      · exact y1 x e
    have e:key x=key y:=Int.le_antisymm e1 e2
    have hc:=h (key x)
    rw [List.filter_cons_of_pos (by simp),List.filter_cons_of_pos (by simp [e])] at hc
    injection hc with h1 h2
    subst h1
    rw [nh.eq x2 y2 (fun c=> ?_)]
    by_cases q:key x=c
    · subst q;exact h2
    · have:=h c
      rwa [List.filter_cons_of_neg (by simpa using q),List.filter_cons_of_neg (by simpa using q)] at this
theorem nh.app {A B:List α} (ha:nh key A) (hb:nh key B) (h:∀a∈A,∀b∈B,key a≤key b):nh key (A++B):=List.pairwise_append.2 ⟨ha,hb,h⟩
theorem nh.left {A B:List α} (h:nh key (A++B)):nh key A:=(List.pairwise_append.1 h).1
theorem nh.right {A B:List α} (h:nh key (A++B)):nh key B:=(List.pairwise_append.1 h).2.1
theorem nh.le {A B:List α} (h:nh key (A++B)):∀a∈A,∀b∈B,key a≤key b:=(List.pairwise_append.1 h).2.2
variable (key)
def ins (x:α):List α→List α
  |[]=>[x]
  |y::r=>if key y≤key x then y::ins x r else x::y::r
def mH (l:List α):List α:=l.foldl (fun acc x=>ins key x acc) []
variable {key}
theorem yW (x:α):∀l:List α,nh key l→∃l1 l2,l=l1++l2∧ins key x l=l1++x::l2∧(∀y∈l1,key y≤key x)∧∀y∈l2,key x<key y
  |[],_=>⟨[],[],rfl,rfl,by simp,by simp⟩
  | y :: r, h => by
    obtain ⟨h1,h2⟩:=List.pairwise_cons.1 h
    by_cases q:key y≤key x
    · obtain ⟨l1,l2,e1,e2,e3,e4⟩:=yW x r h2
      refine ⟨y::l1,l2,by rw [e1];rfl,by rw [ins,if_pos q,e2];rfl,?_,e4⟩
      intro z hz
      rcases List.mem_cons.1 hz with rfl|hz
      · exact q
      · exact e3 z hz
    · refine ⟨[],y::r,rfl,by rw [ins,if_neg q];rfl,by simp,?_⟩
      intro z hz
      rcases List.mem_cons.1 hz with rfl|hz
      · omega
      · have:=h1 z hz;omega
theorem GQ (x:α) (l:List α) (h:nh key l):nh key (ins key x l)∧fO key (l++[x]) (ins key x l):=by
  obtain ⟨l1,l2,e1,e2,e3,e4⟩:=yW x l h
  rw [e2]
  subst e1
  refine ⟨nh.app h.left (List.pairwise_cons.2 ⟨fun y hy=>Int.le_of_lt (e4 y hy),h.right⟩) ?_,?_⟩
  · intro a ha b hb
    rcases List.mem_cons.1 hb with rfl|hb
    · exact e3 a ha
    · exact h.le a ha b hb
  · rw [List.append_assoc]
    refine (fO.refl l1).app (fO.swap ?_)
    intro a ha b hb
    rw [List.mem_singleton.1 hb]
    have:=e4 a ha
    omega
theorem yV (x:α):∀l:List α,(ins key x l).length=l.length+1
  |[]=>rfl
  | y :: r => by
    unfold ins
    split
    · simp [yV x r]
    · simp
theorem yx (l:List α) (x:α):mH key (l++[x])=ins key x (mH key l):=by simp [mH]
theorem k6 (l:List α):nh key (mH key l)∧fO key l (mH key l):=by
  induction hn:l.length generalizing l with
  |zero=>rw [List.length_eq_zero_iff.1 hn];exact ⟨List.Pairwise.nil,fO.refl _⟩
  | succ n ih =>
    obtain ⟨l',x,rfl⟩:∃l' x,l=l'++[x]:=⟨l.dropLast,l.getLast (by intro e;rw [e] at hn;cases hn),(List.dropLast_concat_getLast _).symm⟩
    obtain ⟨h1,h2⟩:=ih l' (by simpa using hn)
    obtain ⟨h3,h4⟩:=GQ x _ h1
    rw [yx]
    exact ⟨h3,(h2.app (fO.refl [x])).trans h4⟩
theorem Vw {l ys:List α} (h1:nh key ys) (h2:fO key l ys):ys=mH key l:=nh.eq h1 (k6 l).1 (h2.symm.trans (k6 l).2)
theorem xH {l:List α} {x:α} (h:x∈mH key l):x∈l:=(k6 l).2.symm.mem x h
end
section
variable {α:Type} {z:α}
theorem Xp (P:List α) (x:α) (R:List α) (i:Nat) (h:i=P.length):(P++x::R).getD i z=x:=by
  subst h
  rw [List.getD_eq_getElem?_getD,List.getElem?_append_right (Nat.le_refl _),Nat.sub_self]
  rfl
theorem QZ (P:List α) (x y:α) (R:List α) (i:Nat) (h:i=P.length):(P++x::R).set i y=P++y::R:=by
  subst h
  rw [List.set_append_right _ _ (Nat.le_refl _),Nat.sub_self]
  rfl
end
abbrev k0 (s:ByteArray):Int:=bt s 0
theorem E9 (a b:ByteArray) (ha:0<a.size) (hb:0<b.size):cC.f a b=some (k0 a-k0 b):=by
  unfold cC.f
  have:=nN a 0
  have:=nN b 0
  rw [if_pos (by omega),if_pos (by omega),fK (x:=bt a 0) (by omega) (by omega),fK (x:=bt b 0) (by omega) (by omega),fK (by omega) (by omega)]
theorem lV (P:List ByteArray) (x:ByteArray) (R:List ByteArray) (i:Int) (h:i=P.length):aQ ByteArray.empty (P++x::R) i=x:=Xp P x R i.toNat (by omega)
theorem pH (P:List ByteArray) (x y:ByteArray) (R:List ByteArray) (i:Int) (h:i=P.length):(P++x::R).set i.toNat y=P++y::R:=QZ P x y R i.toNat (by omega)
def NE (xs:List ByteArray):Prop:=∀x∈xs,0<x.size
theorem aaV (P:List ByteArray) (x:ByteArray) (R:List ByteArray) (b i:Nat) (hb:b≤4294967296) (hi:i<b) (hx:0<x.size):∀(n:Nat) (S1 S2:List ByteArray),S1.length=n→NE S1→nh k0 (S1++S2)→(∀s∈S2,k0 x<k0 s)→P.length+S1.length≤i→
    ∃T,nh k0 T∧fO k0 (S1++x::S2) T∧T.length=S1.length+S2.length+1∧∀r,Ev (fun k=>af.l0 k (P++T++R) (P.length:Int) (b:Int) ((i:Int)+1)) r→Ev (fun k=>af.l1 k (P++(S1++x::S2)++R) (P.length:Int) (b:Int) (i:Int) ((P.length:Int)+(S1.length:Int))) r:=by
  intro n
  induction n with
  | zero =>
    intro S1 S2 hn _ hs h2 _
    obtain rfl:=List.length_eq_zero_iff.1 hn
    refine ⟨x::S2,List.pairwise_cons.2 ⟨fun y hy=>Int.le_of_lt (h2 y hy),hs⟩,fO.refl _,by simp,fun r hr=> ?_⟩
    refine bf (fun k=>by rw [af.l1]) (bO (by simp) ?_)
    rw [fK (by omega) (by omega)]
    exact hr
  | succ n ih =>
    intro S1 S2 hn iP hs h2 fl
    obtain ⟨S,y,rfl⟩:∃S y,S1=S++[y]:=⟨S1.dropLast,S1.getLast (by intro e;rw [e] at hn;cases hn),(List.dropLast_concat_getLast _).symm⟩
    have hl:(S++[y]).length=S.length+1:=by simp
    have hy:0<y.size:=iP y (by simp)
    have e1:P++(S++[y]++x::S2)++R=(P++S++[y])++x::(S2++R):=by simp
    have e2:P++(S++[y]++x::S2)++R=(P++S)++y::x::(S2++R):=by simp
    have g1:aQ ByteArray.empty (P++(S++[y]++x::S2)++R) ((P.length:Int)+((S++[y]).length:Int))=x:=by rw [e1];exact lV _ _ _ _ (by simp<;>omega)
    have g2:aQ ByteArray.empty (P++(S++[y]++x::S2)++R) ((P.length:Int)+((S++[y]).length:Int)-1)=y:=by rw [e2];exact lV _ _ _ _ (by simp<;>omega)
    by_cases q:k0 x<k0 y
    · have hs':nh k0 (S++(y::S2)):=by simpa using hs
      obtain ⟨T,t1,t2,t3,t4⟩:=ih S (y::S2) (by simpa using hn) (fun s h=>iP s (by simp [h])) hs' (fun s h=>by
        rcases List.mem_cons.1 h with rfl|h
        · exact q
        · exact h2 s h) (by omega)
      refine ⟨T,t1,fO.trans ?_ t2,by rw [t3,hl];simp;omega,fun r hr=> ?_⟩
      · have:=((fO.refl (key:=k0) S).app (fO.swap (key:=k0) (A:=[y]) (B:=[x]) (by simp<;>omega))).app (fO.refl S2)
        simpa using this
      · refine bf (fun k=>by rw [af.l1]) (aC (by omega) (aC (by omega) (aC (by simp<;>omega) ?_)))
        rw [fK (x:=(P.length:Int)+((S++[y]).length:Int)-1) (by omega) (by omega)]
        refine aC (by omega) (aC (by simp<;>omega) (jh (by rw [g1,g2];exact E9 x y hx hy) (aC (by omega) ?_)))
        have e3:((P++(S++[y]++x::S2)++R).set ((P.length:Int)+((S++[y]).length:Int)).toNat (aQ ByteArray.empty (P++(S++[y]++x::S2)++R) ((P.length:Int)+((S++[y]).length:Int)-1))).set ((P.length:Int)+((S++[y]).length:Int)-1).toNat (aQ ByteArray.empty (P++(S++[y]++x::S2)++R) ((P.length:Int)+((S++[y]).length:Int)))=P++(S++x::(y::S2))++R:=by
          rw [show aQ ByteArray.empty (P++(S++[y]++x::S2)++R) ((P.length:Int)+((S++[y]).length:Int)-1)=y from g2,show aQ ByteArray.empty (P++(S++[y]++x::S2)++R) ((P.length:Int)+((S++[y]).length:Int))=x from g1,e1,pH _ _ _ _ _ (by simp<;>omega),show P++S++[y]++y::(S2++R)=(P++S)++y::(y::(S2++R)) by simp,pH _ _ _ _ _ (by simp<;>omega)]
          simp
        rw [e3]
        have:=t4 r hr
        rw [show (P.length:Int)+((S++[y]).length:Int)-1=(P.length:Int)+(S.length:Int) by rw [hl];omega]
        exact this
    · refine ⟨S++[y]++x::S2,?_,fO.refl _,by simp<;>omega,fun r hr=> ?_⟩
      · refine nh.app hs.left (List.pairwise_cons.2 ⟨fun s h=>Int.le_of_lt (h2 s h),hs.right⟩) ?_
        intro a ha c hc
        rcases List.mem_cons.1 hc with rfl|hc
        · have h1:=hs.left
          rcases List.mem_append.1 ha with ha|ha
          · have:=h1.le a ha y (by simp);omega
          · rw [List.mem_singleton.1 ha];omega
        · exact hs.le a ha c hc
      · refine bf (fun k=>by rw [af.l1]) (aC (by omega) (aC (by omega) (aC (by simp<;>omega) ?_)))
        rw [fK (x:=(P.length:Int)+((S++[y]).length:Int)-1) (by omega) (by omega)]
        refine aC (by omega) (aC (by simp<;>omega) (jh (by rw [g1,g2];exact E9 x y hx hy) (bO (by omega) ?_)))
        rw [fK (by omega) (by omega)]
        exact hr
theorem NH (P R:List ByteArray) (b:Nat) (hb:b≤4294967296):∀(U S:List ByteArray),nh k0 S→NE (S++U)→P.length+S.length+U.length=b→
    ∃T,nh k0 T∧fO k0 (S++U) T∧T.length=S.length+U.length∧Ev (fun k=>af.l0 k (P++(S++U)++R) (P.length:Int) (b:Int) ((P.length:Int)+(S.length:Int))) (P++T++R)
  |[],S,hs,_,hl=>⟨S,hs,by rw [List.append_nil];exact fO.refl _,by simp,bf (fun k=>by rw [af.l0]) (bO (by simp at hl;omega) (cu (by simp)))⟩
  | x :: U, S, hs, iP, hl => by
    obtain ⟨T,t1,t2,t3,t4⟩:=aaV P x (U++R) b (P.length+S.length) hb (by simp at hl;omega) (iP x (by simp)) S.length S [] rfl (fun s h=>iP s (by simp [h])) (by simpa using hs) (by simp) (by omega)
    obtain ⟨T2,s1,s2,s3,s4⟩:=NH P R b hb U T t1 (fun s h=>by
      rcases List.mem_append.1 h with h|h
      · have:=t2.symm.mem s h
        exact iP s (by simp at this⊢;rcases this with h|h<;>simp [h])
      · exact iP s (by simp [h])) (by rw [t3];simp at hl⊢;omega)
    refine ⟨T2,s1,fO.trans ?_ s2,by rw [s3,t3];simp;omega,?_⟩
    · have:=t2.app (fO.refl U)
      simpa using this
    · refine bf (fun k=>by rw [af.l0]) (aC (by simp at hl;omega) ?_)
      have h5:=t4 _ (by
        have h6:=s4
        rw [t3,show (P.length:Int)+((S.length+([]:List ByteArray).length+1:Nat):Int)=((P.length+S.length:Nat):Int)+1 by simp<;>omega,show P++(T++U)++R=P++T++(U++R) by simp] at h6
        exact h6)
      rw [show P++(S++x::U)++R=P++(S++[x])++(U++R) by simp,show (P.length:Int)+(S.length:Int)=((P.length+S.length:Nat):Int) by omega]
      have h7:((P.length+S.length:Nat):Int)=(P.length:Int)+(S.length:Int):=by omega
      rw [←h7] at h5
      exact h5
theorem CF (P S R:List ByteArray) (b:Nat) (hb:b≤4294967296) (iP:NE S) (hl:P.length+S.length=b):∃T,nh k0 T∧fO k0 S T∧T.length=S.length∧Ev (fun k=>af.f k (P++S++R) (P.length:Int) (b:Int)) (P++T++R):=by
  unfold af.f
  rw [fK (by omega) (by omega)]
  cases S with
  | nil =>
    refine ⟨[],List.Pairwise.nil,fO.refl _,rfl,bf (fun k=>by rw [af.l0]) (bO (by simp at hl;omega) (cu rfl))⟩
  | cons x S =>
    obtain ⟨T,t1,t2,t3,t4⟩:=NH P R b hb S [x] (List.pairwise_singleton _ _) (by simpa using iP) (by simp at hl⊢;omega)
    exact ⟨T,t1,by simpa using t2,by rw [t3];simp;omega,by simpa using t4⟩
theorem swp (P M Q:List ByteArray) (hb:P.length+M.length+Q.length≤4294967296) (n:Nat) (hn:n≤4294967296):∀(A2 B2 A1 B1:List ByteArray),A1.length=B1.length→A2.length=B2.length→A1.length+A2.length=n→
    Ev (fun k=>au.l0 k (P++B1++A2++M++A1++B2++Q) (P.length:Int) ((P.length:Int)+(n:Int)+(M.length:Int)) (n:Int) (A1.length:Int)) (P++(B1++B2)++M++(A1++A2)++Q)
  |[],[],A1,B1,h1,_,hl=>bf (fun k=>by rw [au.l0]) (bO (by simp at hl;omega) (cu (by simp)))
  | a :: A2, b :: B2, A1, B1, h1, h2, hl => by
    simp only [List.length_cons] at h2 hl
    have e1:P++B1++(a::A2)++M++A1++(b::B2)++Q=(P++B1)++a::(A2++M++A1++b::(B2++Q)):=by simp
    have e2:P++B1++(a::A2)++M++A1++(b::B2)++Q=(P++B1++(a::A2)++M++A1)++b::(B2++Q):=by simp
    have l1:(P++B1).length=P.length+A1.length:=by simp;omega
    have l2:(P++B1++(a::A2)++M++A1).length=P.length+n+M.length+A1.length:=by simp;omega
    have l3:(P++B1++(a::A2)++M++A1++(b::B2)++Q).length=P.length+n+M.length+n+Q.length:=by simp;omega
    have g1:aQ ByteArray.empty (P++B1++(a::A2)++M++A1++(b::B2)++Q) ((P.length:Int)+(A1.length:Int))=a:=by rw [e1];exact lV _ _ _ _ (by rw [l1];omega)
    have g2:aQ ByteArray.empty (P++B1++(a::A2)++M++A1++(b::B2)++Q) ((P.length:Int)+(n:Int)+(M.length:Int)+(A1.length:Int))=b:=by rw [e2];exact lV _ _ _ _ (by rw [l2];omega)
    refine bf (fun k=>by rw [au.l0]) (aC (by omega) ?_)
    rw [fK (x:=(P.length:Int)+(n:Int)+(M.length:Int)+(A1.length:Int)) (by omega) (by omega),fK (x:=(P.length:Int)+(A1.length:Int)) (by omega) (by omega),fK (x:=(A1.length:Int)+1) (by omega) (by omega),g1,g2]
    refine aC (by omega) (aC (by rw [l3];omega) (aC (by omega) (aC (by rw [l3];omega) ?_)))
    have e3:((P++B1++(a::A2)++M++A1++(b::B2)++Q).set ((P.length:Int)+(A1.length:Int)).toNat b).set ((P.length:Int)+(n:Int)+(M.length:Int)+(A1.length:Int)).toNat a=P++(B1++[b])++A2++M++(A1++[a])++B2++Q:=by
      rw [e1,pH _ _ _ _ _ (by rw [l1];omega),show (P++B1)++b::(A2++M++A1++b::(B2++Q))=(P++B1++(b::A2)++M++A1)++b::(B2++Q) by simp,pH _ _ _ _ _ (by simp<;>omega)]
      simp
    rw [e3]
    have:=swp P M Q hb n hn A2 B2 (A1++[a]) (B1++[b]) (by simp;omega) (by omega) (by simp;omega)
    rw [show (((A1++[a]).length:Nat):Int)=(A1.length:Int)+1 by simp] at this
    simpa using this
theorem Vv (P A M B Q:List ByteArray) (hb:P.length+M.length+Q.length≤4294967296) (hn:A.length≤4294967296) (h:A.length=B.length) (a b n:Int) (ha:a=P.length) (Dz:b=P.length+A.length+M.length) (hn':n=A.length):
    Ev (fun k=>au.f k (P++A++M++B++Q) a b n) (P++B++M++A++Q):=by
  subst ha Dz hn'
  have:=swp P M Q hb A.length hn A B [] [] rfl h (by simp)
  unfold au.f
  simpa using this
theorem rot (n:Nat):∀(P X Y Q:List ByteArray),X.length+Y.length≤n→0<X.length→0<Y.length→P.length+X.length+Y.length+Q.length≤4294967296→∀m i j:Int,m=P.length+X.length→i=X.length→j=Y.length→Ev (fun k=>bp.l0 k (P++X++Y++Q) m i j) (P++Y++X++Q):=by
  induction n with
  |zero=>intro P X Y Q h hx;omega
  | succ n ih =>
    intro P X Y Q h hx hy hb m i j hm hi hj
    subst hm hi hj
    refine bf (fun k=>by rw [bp.l0]) ?_
    by_cases q:(X.length:Int)=(Y.length:Int)
    · refine aC q (bz (a:=P++Y++X++Q) ?_ (cu rfl))
      rw [fK (by omega) (by omega)]
      have:=Vv P X [] Y Q (by simp;omega) (by omega) (by omega) ((P.length:Int)+X.length-X.length) ((P.length:Int)+X.length) (X.length:Int) (by omega) (by simp) rfl
      simpa using this
    · refine bO q ?_
      by_cases g:(X.length:Int)>(Y.length:Int)
      · refine aC g ?_
        have hX:X=X.take Y.length++X.drop Y.length:=(List.take_append_drop _ _).symm
        have l1:(X.take Y.length).length=Y.length:=by rw [List.length_take];omega
        have l2:(X.drop Y.length).length=X.length-Y.length:=List.length_drop
        generalize X.take Y.length=X1 at*
        generalize X.drop Y.length=X2 at*
        subst hX
        simp only [List.length_append] at*
        rw [fK (by omega) (by omega),fK (by omega) (by omega)]
        refine bz (a:=P++Y++X2++X1++Q) ?_ ?_
        · have:=Vv P X1 X2 Y Q (by omega) (by omega) l1 ((P.length:Int)+((X1.length+X2.length:Nat):Int)-((X1.length+X2.length:Nat):Int)) ((P.length:Int)+((X1.length+X2.length:Nat):Int)) (Y.length:Int) (by omega) (by omega) (by omega)
          simpa using this
        · have:=ih (P++Y) X2 X1 Q (by omega) (by omega) (by omega) (by simp;omega) ((P.length:Int)+((X1.length+X2.length:Nat):Int)) (((X1.length+X2.length:Nat):Int)-(Y.length:Int)) (Y.length:Int) (by simp;omega) (by omega) (by omega)
          simpa using this
      · refine bO g ?_
        have hY:Y=Y.take (Y.length-X.length)++Y.drop (Y.length-X.length):=(List.take_append_drop _ _).symm
        have l1:(Y.take (Y.length-X.length)).length=Y.length-X.length:=by rw [List.length_take];omega
        have l2:(Y.drop (Y.length-X.length)).length=X.length:=by rw [List.length_drop];omega
        generalize Y.take (Y.length-X.length)=Y1 at*
        generalize Y.drop (Y.length-X.length)=Y2 at*
        subst hY
        simp only [List.length_append] at*
        rw [fK (x:=(P.length:Int)+(X.length:Int)-(X.length:Int)) (by omega) (by omega),fK (x:=(P.length:Int)+(X.length:Int)+((Y1.length+Y2.length:Nat):Int)) (by omega) (by omega),fK (by omega) (by omega),fK (by omega) (by omega)]
        refine bz (a:=P++Y2++Y1++X++Q) ?_ ?_
        · have:=Vv P X Y1 Y2 Q (by omega) (by omega) l2.symm ((P.length:Int)+(X.length:Int)-(X.length:Int)) ((P.length:Int)+(X.length:Int)+((Y1.length+Y2.length:Nat):Int)-(X.length:Int)) (X.length:Int) (by omega) (by omega) rfl
          simpa using this
        · have:=ih P Y2 Y1 (X++Q) (by omega) (by omega) (by omega) (by simp;omega) ((P.length:Int)+(X.length:Int)) (X.length:Int) (((Y1.length+Y2.length:Nat):Int)-(X.length:Int)) (by omega) (by omega) (by omega)
          simpa using this
theorem afn (P X Y Q:List ByteArray) (hx:0<X.length) (hy:0<Y.length) (hb:P.length+X.length+Y.length+Q.length≤4294967296) (a m b:Int) (ha:a=P.length) (hm:m=P.length+X.length) (Dz:b=P.length+X.length+Y.length):Ev (fun k=>bp.f k (P++X++Y++Q) a m b) (P++Y++X++Q):=by
  unfold bp.f
  subst ha hm Dz
  rw [fK (by omega) (by omega),fK (by omega) (by omega)]
  exact rot _ P X Y Q (Nat.le_refl _) hx hy hb _ _ _ rfl (by omega) (by omega)
theorem IU (i j:Nat) (h:i+j≤9223372036854775807):wrap64 ((IntKind.u64.wrap (wrap64 ((i:Int)+(j:Int))))/2)=(((i+j)/2:Nat):Int):=by
  rw [fK (x:=(i:Int)+(j:Int)) (by omega) (by omega),nF _ (by omega) (by omega),fK (by omega) (by omega)]
  omega
theorem m5 {B:List ByteArray} (h:nh k0 B) (t u:Nat) (htu:t≤u) (hu:u<B.length):k0 (B.getD t ByteArray.empty)≤k0 (B.getD u ByteArray.empty):=by
  rw [List.getD_eq_getElem?_getD,List.getD_eq_getElem?_getD,List.getElem?_eq_getElem hu,List.getElem?_eq_getElem (by omega)]
  rcases Nat.lt_or_eq_of_le htu with h1|h1
  · exact List.pairwise_iff_getElem.1 h t u (by omega) hu h1
  · subst h1;exact Int.le_refl _
theorem uF (P B R:List ByteArray) (t:Nat) (h:t<B.length) (i:Int) (hi:i=((P.length+t:Nat):Int)):aQ ByteArray.empty (P++B++R) i=B.getD t ByteArray.empty:=by
  subst hi
  unfold aQ
  rw [Int.toNat_natCast,List.append_assoc,List.getD_eq_getElem?_getD,List.getElem?_append_right (by omega),List.getElem?_append_left (by omega),List.getD_eq_getElem?_getD]
  congr 2
  omega
theorem DB (B:List ByteArray) (t:Nat) (h:t<B.length):B.getD t ByteArray.empty∈B:=by
  rw [List.getD_eq_getElem?_getD,List.getElem?_eq_getElem h]
  exact List.getElem_mem h
theorem up (P:List ByteArray) (x:ByteArray) (R:List ByteArray) (hb:P.length≤4294967296):∀(B D:List ByteArray),D.length+B.length≤4294967296→Ev (fun k=>aa.l1 k (P++D++x::(B++R)) (((P.length+D.length+B.length:Nat):Int)+1) ((P.length:Int)+(D.length:Int))) (P++(D++B)++x::R)
  | [], D, hl => by
    refine bf (fun k=>by rw [aa.l1]) ?_
    rw [fK (by simp at*;omega) (by simp at*;omega)]
    exact bO (by simp<;>omega) (cu (by simp))
  | y :: B, D, hl => by
    simp only [List.length_cons] at hl
    have e1:P++D++x::(y::B++R)=(P++D)++x::(y::(B++R)):=by simp
    have e2:P++D++x::(y::B++R)=(P++D++[x])++y::(B++R):=by simp
    have g1:aQ ByteArray.empty (P++D++x::(y::B++R)) ((P.length:Int)+(D.length:Int))=x:=by rw [e1];exact lV _ _ _ _ (by simp)
    have g2:aQ ByteArray.empty (P++D++x::(y::B++R)) ((P.length:Int)+(D.length:Int)+1)=y:=by rw [e2];exact lV _ _ _ _ (by simp<;>omega)
    have l3:(P++D++x::(y::B++R)).length=P.length+D.length+B.length+2+R.length:=by simp;omega
    refine bf (fun k=>by rw [aa.l1]) ?_
    rw [fK (x:=(((P.length+D.length+(y::B).length:Nat):Int)+1)-1) (by simp;omega) (by simp;omega),fK (x:=(P.length:Int)+(D.length:Int)+1) (by omega) (by omega),g1,g2]
    refine aC (by simp;omega) (aC (by omega) (aC (by rw [l3];omega) (aC (by omega) (aC (by rw [l3];omega) ?_))))
    have e3:((P++D++x::(y::B++R)).set ((P.length:Int)+(D.length:Int)).toNat y).set ((P.length:Int)+(D.length:Int)+1).toNat x=P++(D++[y])++x::(B++R):=by
      rw [e1,pH _ _ _ _ _ (by simp),show (P++D)++y::(y::(B++R))=(P++D++[y])++y::(B++R) by simp,pH _ _ _ _ _ (by simp<;>omega)]
      simp
    rw [e3]
    have:=up P x R hb B (D++[y]) (by simp;omega)
    rw [show (((P.length+(D++[y]).length+B.length:Nat):Int)+1)=(((P.length+D.length+(y::B).length:Nat):Int)+1) by simp;omega,show (P.length:Int)+((D++[y]).length:Int)=(P.length:Int)+(D.length:Int)+1 by simp;omega,show P++(D++[y]++B)++x::R=P++(D++y::B)++x::R by simp] at this
    exact this
theorem upF (P:List ByteArray) (x:ByteArray) (B R:List ByteArray) (hb:P.length≤4294967296) (hB:B.length≤4294967296) (i j:Int) (hi:i=P.length+B.length+1) (hj:j=P.length):Ev (fun k=>aa.l1 k (P++x::(B++R)) i j) (P++B++x::R):=by
  subst hi hj
  have:=up P x R hb B [] (by simpa using hB)
  simpa using this
theorem down (P:List ByteArray) (x:ByteArray) (R:List ByteArray) (hb:P.length≤4294967296) (n:Nat):∀(A D:List ByteArray),A.length=n→A.length≤4294967296→Ev (fun k=>aa.l3 k (P++A++x::(D++R)) (P.length:Int) ((P.length:Int)+(A.length:Int))) (P++x::(A++D++R)):=by
  induction n with
  | zero =>
    intro A D hn _
    obtain rfl:=List.length_eq_zero_iff.1 hn
    exact bf (fun k=>by rw [aa.l3]) (bO (by simp) (cu (by simp)))
  | succ n ih =>
    intro A D hn hA
    obtain ⟨S,y,rfl⟩:∃S y,A=S++[y]:=⟨A.dropLast,A.getLast (by intro e;rw [e] at hn;cases hn),(List.dropLast_concat_getLast _).symm⟩
    have hl:(S++[y]).length=S.length+1:=by simp
    have e1:P++(S++[y])++x::(D++R)=(P++S++[y])++x::(D++R):=by simp
    have e2:P++(S++[y])++x::(D++R)=(P++S)++y::(x::(D++R)):=by simp
    have g1:aQ ByteArray.empty (P++(S++[y])++x::(D++R)) ((P.length:Int)+((S++[y]).length:Int))=x:=by rw [e1];exact lV _ _ _ _ (by simp<;>omega)
    have g2:aQ ByteArray.empty (P++(S++[y])++x::(D++R)) ((P.length:Int)+((S++[y]).length:Int)-1)=y:=by rw [e2];exact lV _ _ _ _ (by simp<;>omega)
    have l3:(P++(S++[y])++x::(D++R)).length=P.length+S.length+2+D.length+R.length:=by simp;omega
    refine bf (fun k=>by rw [aa.l3]) ?_
    rw [fK (x:=(P.length:Int)+((S++[y]).length:Int)-1) (by omega) (by omega),g1,g2]
    refine aC (by omega) (aC (by omega) (aC (by rw [l3];omega) (aC (by omega) (aC (by rw [l3];omega) ?_))))
    have e3:((P++(S++[y])++x::(D++R)).set ((P.length:Int)+((S++[y]).length:Int)).toNat y).set ((P.length:Int)+((S++[y]).length:Int)-1).toNat x=P++S++x::((y::D)++R):=by
      rw [e1,pH _ _ _ _ _ (by simp<;>omega),show (P++S++[y])++y::(D++R)=(P++S)++y::(y::(D++R)) by simp,pH _ _ _ _ _ (by simp<;>omega)]
      simp
    rw [e3]
    have:=ih S (y::D) (by omega) (by omega)
    rw [show (P.length:Int)+((S++[y]).length:Int)-1=(P.length:Int)+(S.length:Int) by omega,show P++x::(S++[y]++D++R)=P++x::(S++y::D++R) by simp]
    exact this
theorem abG (P A:List ByteArray) (x:ByteArray) (R:List ByteArray) (hb:P.length≤4294967296) (hA:A.length≤4294967296) (i j:Int) (hi:i=P.length) (hj:j=P.length+A.length):Ev (fun k=>aa.l3 k (P++A++x::R) i j) (P++x::(A++R)):=by
  subst hi hj
  have:=down P x R hb A.length A [] rfl hA
  simpa using this
theorem vu {A T:List ByteArray} (h1:nh k0 T) (h2:fO k0 A T):T=mH k0 A:=Vw h1 h2
theorem abr (P:List ByteArray) (x:ByteArray) (B Q:List ByteArray) (hx:0<x.size) (iP:NE B) (hB:nh k0 B) (hb:P.length+B.length+Q.length≤2147483648) (r:List ByteArray):∀(n lo hi:Nat),hi-lo≤n→lo≤hi→hi≤B.length→(∀t,t<lo→k0 (B.getD t ByteArray.empty)<k0 x)→(∀t,hi≤t→t<B.length→k0 x≤k0 (B.getD t ByteArray.empty))→
    Ev (fun k=>aa.l0 k (P++x::(B++Q)) (P.length:Int) (((P.length+1+lo:Nat):Int)) (((P.length+1+hi:Nat):Int))) (P++mH k0 (x::B)++Q):=by
  intro n
  induction n with
  | zero =>
    intro lo hi h0 h1 h2 h3 h4
    obtain rfl:lo=hi:=by omega
    refine bf (fun k=>by rw [aa.l0]) (bO (by omega) ?_)
    have e:B=B.take lo++B.drop lo:=(List.take_append_drop _ _).symm
    have hl:(B.take lo).length=lo:=by rw [List.length_take];omega
    have a1:∀y∈B.take lo,k0 y<k0 x:=by
      intro y hy
      obtain ⟨t,ht,rfl⟩:=List.getElem_of_mem hy
      have:=h3 t (by omega)
      rw [List.getD_eq_getElem?_getD,List.getElem?_eq_getElem (by omega)] at this
      simpa using this
    have a2:∀y∈B.drop lo,k0 x≤k0 y:=by
      intro y hy
      obtain ⟨t,ht,rfl⟩:=List.getElem_of_mem hy
      have ht':lo+t<B.length:=by rw [List.length_drop] at ht;omega
      have:=h4 (lo+t) (by omega) ht'
      rw [List.getD_eq_getElem?_getD,List.getElem?_eq_getElem ht'] at this
      simpa using this
    rw [e] at hB⊢
    generalize B.take lo=B1 at*
    generalize B.drop lo=B2 at*
    have hT:B1++x::B2=mH k0 (x::(B1++B2)):=by
      refine vu (nh.app hB.left (List.pairwise_cons.2 ⟨a2,hB.right⟩) ?_) ?_
      · intro a ha b Dz
        rcases List.mem_cons.1 Dz with rfl|Dz
        · exact Int.le_of_lt (a1 a ha)
        · exact hB.le a ha b Dz
      · have:=(fO.swap (key:=k0) (A:=[x]) (B:=B1) (by
          intro a ha b Dz
          rw [List.mem_singleton.1 ha]
          have:=a1 b Dz;omega)).app (fO.refl B2)
        simpa using this
    rw [←hT]
    have:=upF P x B1 (B2++Q) (by omega) (by omega) ((P.length+1+lo:Nat):Int) (P.length:Int) (by omega) rfl
    simpa using this
  | succ n ih =>
    intro lo hi h0 h1 h2 h3 h4
    by_cases q:lo=hi
    · exact ih lo hi (by omega) h1 h2 h3 h4
    · refine bf (fun k=>by rw [aa.l0]) (aC (by omega) ?_)
      have ec:(P.length+1+lo+(P.length+1+hi))/2=P.length+1+(lo+hi)/2:=by omega
      rw [IU _ _ (by omega),ec]
      have qA:lo≤(lo+hi)/2:=by omega
      have hc2:(lo+hi)/2<hi:=by omega
      generalize (lo+hi)/2=c at*
      have g1:aQ ByteArray.empty (P++x::(B++Q)) ((P.length+1+c:Nat):Int)=B.getD c ByteArray.empty:=by
        have:=uF (P++[x]) B Q c (by omega) ((P.length+1+c:Nat):Int) (by simp)
        simpa using this
      have g2:aQ ByteArray.empty (P++x::(B++Q)) (P.length:Int)=x:=lV _ _ _ _ rfl
      have l3:(P++x::(B++Q)).length=P.length+1+B.length+Q.length:=by simp;omega
      refine aC (by omega) (aC (by rw [l3];omega) (aC (by omega) (aC (by rw [l3];omega) (jh (by rw [g1,g2];exact E9 _ x (iP _ (DB B c (by omega))) hx) ?_))))
      by_cases g:k0 (B.getD c ByteArray.empty)<k0 x
      · refine aC (by omega) ?_
        rw [fK (by omega) (by omega),show ((P.length+1+c:Nat):Int)+1=((P.length+1+(c+1):Nat):Int) by omega]
        refine ih (c+1) hi (by omega) (by omega) h2 (fun t ht=> ?_) h4
        have:=m5 hB t c (by omega) (by omega)
        omega
      · refine bO (by omega) ?_
        refine ih lo c (by omega) (by omega) (by omega) h3 (fun t ht htl=> ?_)
        have:=m5 hB c t ht htl
        omega
theorem abq (P A:List ByteArray) (x:ByteArray) (Q:List ByteArray) (hx:0<x.size) (iP:NE A) (hA:nh k0 A) (hb:P.length+A.length+Q.length≤2147483648):∀(n lo hi:Nat),hi-lo≤n→lo≤hi→hi≤A.length→(∀t,t<lo→k0 (A.getD t ByteArray.empty)≤k0 x)→(∀t,hi≤t→t<A.length→k0 x<k0 (A.getD t ByteArray.empty))→
    Ev (fun k=>aa.l2 k (P++A++x::Q) ((P.length+A.length:Nat):Int) ((P.length+lo:Nat):Int) ((P.length+hi:Nat):Int)) (P++mH k0 (A++[x])++Q):=by
  intro n
  induction n with
  | zero =>
    intro lo hi h0 h1 h2 h3 h4
    obtain rfl:lo=hi:=by omega
    refine bf (fun k=>by rw [aa.l2]) (bO (by omega) ?_)
    have e:A=A.take lo++A.drop lo:=(List.take_append_drop _ _).symm
    have hl:(A.take lo).length=lo:=by rw [List.length_take];omega
    have hl2:(A.drop lo).length=A.length-lo:=List.length_drop
    have a1:∀y∈A.take lo,k0 y≤k0 x:=by
      intro y hy
      obtain ⟨t,ht,rfl⟩:=List.getElem_of_mem hy
      have:=h3 t (by omega)
      rw [List.getD_eq_getElem?_getD,List.getElem?_eq_getElem (by omega)] at this
      simpa using this
    have a2:∀y∈A.drop lo,k0 x<k0 y:=by
      intro y hy
      obtain ⟨t,ht,rfl⟩:=List.getElem_of_mem hy
      have ht':lo+t<A.length:=by omega
      have:=h4 (lo+t) (by omega) ht'
      rw [List.getD_eq_getElem?_getD,List.getElem?_eq_getElem ht'] at this
      simpa using this
    rw [e] at hA⊢
    generalize A.take lo=A1 at*
    generalize A.drop lo=A2 at*
    subst e
    have hT:A1++x::A2=mH k0 (A1++A2++[x]):=by
      refine vu (nh.app hA.left (List.pairwise_cons.2 ⟨fun y hy=>Int.le_of_lt (a2 y hy),hA.right⟩) ?_) ?_
      · intro a ha b Dz
        rcases List.mem_cons.1 Dz with rfl|Dz
        · exact a1 a ha
        · exact hA.le a ha b Dz
      · have:=(fO.refl (key:=k0) A1).app (fO.swap (key:=k0) (A:=A2) (B:=[x]) (by
          intro a ha b Dz
          rw [List.mem_singleton.1 Dz]
          have:=a2 a ha;omega))
        simpa using this
    rw [←hT]
    have:=abG (P++A1) A2 x Q (by simp;omega) (by omega) ((P.length+lo:Nat):Int) ((P.length+(A1++A2).length:Nat):Int) (by simp;omega) (by simp;omega)
    simpa using this
  | succ n ih =>
    intro lo hi h0 h1 h2 h3 h4
    by_cases q:lo=hi
    · exact ih lo hi (by omega) h1 h2 h3 h4
    · refine bf (fun k=>by rw [aa.l2]) (aC (by omega) ?_)
      have ec:(P.length+lo+(P.length+hi))/2=P.length+(lo+hi)/2:=by omega
      rw [IU _ _ (by omega),ec]
      have qA:lo≤(lo+hi)/2:=by omega
      have hc2:(lo+hi)/2<hi:=by omega
      generalize (lo+hi)/2=c at*
      have g1:aQ ByteArray.empty (P++A++x::Q) ((P.length+c:Nat):Int)=A.getD c ByteArray.empty:=uF P A (x::Q) c (by omega) _ rfl
      have g2:aQ ByteArray.empty (P++A++x::Q) ((P.length+A.length:Nat):Int)=x:=lV (P++A) _ _ _ (by simp)
      have l3:(P++A++x::Q).length=P.length+A.length+1+Q.length:=by simp;omega
      refine aC (by omega) (aC (by rw [l3];omega) (aC (by omega) (aC (by rw [l3];omega) (jh (by rw [g1,g2];exact E9 x _ hx (iP _ (DB A c (by omega)))) ?_))))
      by_cases g:k0 x<k0 (A.getD c ByteArray.empty)
      · refine aC (by omega) ?_
        refine ih lo c (by omega) (by omega) (by omega) h3 (fun t ht htl=> ?_)
        have:=m5 hA c t ht htl
        omega
      · refine bO (by omega) ?_
        rw [fK (by omega) (by omega),show ((P.length+c:Nat):Int)+1=((P.length+(c+1):Nat):Int) by omega]
        refine ih (c+1) hi (by omega) (by omega) h2 (fun t ht=> ?_) h4
        have:=m5 hA t c (by omega) (by omega)
        omega
theorem cutAt (P A B Q:List ByteArray) (hA:nh k0 A) (hB:nh k0 B) (nA:NE A) (nB:NE B) (hb:P.length+A.length+B.length+Q.length≤1073741824) (s0 r0 mid:Nat) (Ww:mid=(P.length+(P.length+A.length+B.length))/2)
    (rY:s0=if P.length+A.length>mid then mid+(P.length+A.length)-(P.length+A.length+B.length) else P.length) (ff:r0=if P.length+A.length>mid then mid else P.length+A.length) (a2 a3:Int) (F:List ByteArray)
    (zf:∀s:Nat,s0≤s→s≤r0→(∀c,s0≤c→c<s→k0 (A.getD (c-P.length) ByteArray.empty)≤k0 (B.getD (mid-1-c) ByteArray.empty))→(∀c,s≤c→c<r0→k0 (B.getD (mid-1-c) ByteArray.empty)<k0 (A.getD (c-P.length) ByteArray.empty))→
      Ev (fun k=>if (s:Int)<a2 then (aa.j6 k (P++A++B++Q) (P.length:Int) a2 a3 (mid:Int) (s:Int) (wrap64 (((mid+(P.length+A.length):Nat):Int)-(s:Int))) (decide (a2<(wrap64 (((mid+(P.length+A.length):Nat):Int)-(s:Int)))))) else (aa.j6 k (P++A++B++Q) (P.length:Int) a2 a3 (mid:Int) (s:Int) (wrap64 (((mid+(P.length+A.length):Nat):Int)-(s:Int))) false)) F):
    ∀ (n lo hi : Nat), hi - lo ≤ n → s0 ≤ lo → lo ≤ hi → hi ≤ r0 → (∀ c, s0 ≤ c → c < lo → k0 (A.getD (c - P.length) ByteArray.empty) ≤ k0 (B.getD (mid - 1 - c) ByteArray.empty)) → (∀ c, hi ≤ c → c < r0 → k0 (B.getD (mid - 1 - c) ByteArray.empty) < k0 (A.getD (c - P.length) ByteArray.empty)) →
      Ev (fun k=>aa.l4 k (P++A++B++Q) (P.length:Int) a2 a3 (mid:Int) ((mid+(P.length+A.length):Nat):Int) (lo:Int) (hi:Int) (((mid+(P.length+A.length):Nat):Int)-1)) F:=by
  intro n
  induction n with
  | zero =>
    intro lo hi h0 h1 h2 h3 h4 h5
    obtain rfl:lo=hi:=by omega
    exact bf (fun k=>by rw [aa.l4]) (bO (by omega) (zf lo h1 h3 h4 h5))
  | succ n ih =>
    intro lo hi h0 h1 h2 h3 h4 h5
    by_cases q:lo=hi
    · exact ih lo hi (by omega) h1 h2 h3 h4 h5
    · refine bf (fun k=>by rw [aa.l4]) (aC (by omega) ?_)
      rw [IU _ _ (by split at ff<;>omega)]
      have qA:lo≤(lo+hi)/2:=by omega
      have hc2:(lo+hi)/2<hi:=by omega
      generalize (lo+hi)/2=c at*
      have hca:P.length≤c∧c<P.length+A.length∧c<mid∧mid-1-c<B.length:=by split at rY<;>split at ff<;>omega
      have g1:aQ ByteArray.empty (P++A++B++Q) (wrap64 (((mid+(P.length+A.length):Nat):Int)-1-(c:Int)))=B.getD (mid-1-c) ByteArray.empty:=by
        rw [fK (by omega) (by omega)]
        exact uF (P++A) B Q (mid-1-c) (by omega) _ (by simp;omega)
      have g2:aQ ByteArray.empty (P++A++B++Q) (c:Int)=A.getD (c-P.length) ByteArray.empty:=by
        have:=uF P A (B++Q) (c-P.length) (by omega) (c:Int) (by omega)
        simpa using this
      have l3:(P++A++B++Q).length=P.length+A.length+B.length+Q.length:=by simp;omega
      have w1:wrap64 (((mid+(P.length+A.length):Nat):Int)-1-(c:Int))=(((mid+(P.length+A.length):Nat):Int)-1-(c:Int)):=fK (by omega) (by omega)
      refine aC (by rw [w1];omega) (aC (by rw [w1,l3];omega) (aC (by omega) (aC (by rw [l3];omega) (jh (by rw [g1,g2];exact E9 _ _ (nB _ (DB B _ (by omega))) (nA _ (DB A _ (by omega)))) ?_))))
      by_cases g:k0 (B.getD (mid-1-c) ByteArray.empty)<k0 (A.getD (c-P.length) ByteArray.empty)
      · refine aC (by omega) ?_
        refine ih lo c (by omega) h1 (by omega) (by omega) h4 (fun d hd hdr=> ?_)
        have hda:d<P.length+A.length∧d<mid:=by split at ff<;>omega
        have m1:=m5 hA (c-P.length) (d-P.length) (by omega) (by omega)
        have m2:=m5 hB (mid-1-d) (mid-1-c) (by omega) (by omega)
        omega
      · refine bO (by omega) ?_
        rw [fK (by omega) (by omega),show ((c:Int)+1)=((c+1:Nat):Int) by omega]
        refine ih (c+1) hi (by omega) (by omega) (by omega) h3 (fun d hd hdr=> ?_) h5
        have hda:P.length≤d∧mid-1-d<B.length:=by split at rY<;>split at ff<;>omega
        have m1:=m5 hA (d-P.length) (c-P.length) (by omega) (by omega)
        have m2:=m5 hB (mid-1-c) (mid-1-d) (by omega) (by omega)
        omega
theorem IX {A:List ByteArray} {v:Int} (h:∀t,t<A.length→k0 (A.getD t ByteArray.empty)≤v):∀y∈A,k0 y≤v:=by
  intro y hy
  obtain ⟨t,ht,rfl⟩:=List.getElem_of_mem hy
  have:=h t ht
  rwa [List.getD_eq_getElem?_getD,List.getElem?_eq_getElem ht] at this
theorem IY {A:List ByteArray} {v:Int} (h:∀t,t<A.length→v≤k0 (A.getD t ByteArray.empty)):∀y∈A,v≤k0 y:=by
  intro y hy
  obtain ⟨t,ht,rfl⟩:=List.getElem_of_mem hy
  have:=h t ht
  rwa [List.getD_eq_getElem?_getD,List.getElem?_eq_getElem ht] at this
theorem JA (A:List ByteArray) (n t:Nat) (h:t<n):(A.take n).getD t ByteArray.empty=A.getD t ByteArray.empty:=by
  rw [List.getD_eq_getElem?_getD,List.getElem?_take_of_lt h,List.getD_eq_getElem?_getD]
theorem JB (A:List ByteArray) (n t:Nat):(A.drop n).getD t ByteArray.empty=A.getD (n+t) ByteArray.empty:=by
  rw [List.getD_eq_getElem?_getD,List.getElem?_drop,List.getD_eq_getElem?_getD]
theorem iA (A:List ByteArray):(mH k0 A).length=A.length:=by
  induction hn:A.length generalizing A with
  |zero=>rw [List.length_eq_zero_iff.1 hn];rfl
  | succ n ih =>
    obtain ⟨S,y,rfl⟩:∃S y,A=S++[y]:=⟨A.dropLast,A.getLast (by intro e;rw [e] at hn;cases hn),(List.dropLast_concat_getLast _).symm⟩
    rw [yx,yV,ih S (by simpa using hn)]
theorem oO {A:List ByteArray} (h:nh k0 A):mH k0 A=A:=(vu h (fO.refl A)).symm
theorem NE.mH {A:List ByteArray} (h:NE A):NE (mH k0 A):=fun x hx=>h x (xH hx)
theorem merge:∀(n:Nat) (P A B Q:List ByteArray),A.length+B.length≤n→0<A.length→0<B.length→nh k0 A→nh k0 B→NE A→NE B→P.length+A.length+B.length+Q.length≤1073741824→∀a m b:Int,a=P.length→m=P.length+A.length→b=P.length+A.length+B.length→
    Ev (fun k=>aa.f k (P++A++B++Q) a m b) (P++mH k0 (A++B)++Q):=by
  intro n
  induction n with
  |zero=>intro P A B Q h ha;omega
  | succ n ih =>
    intro P A B Q hn hA0 hB0 hA hB nA nB hb a m b ha hm Dz
    subst ha hm Dz
    refine bf (fun k=>by rw [aa.f]) ?_
    rw [fK (x:=(P.length:Int)+(A.length:Int)-(P.length:Int)) (by omega) (by omega),fK (x:=(P.length:Int)+(A.length:Int)+(B.length:Int)-((P.length:Int)+(A.length:Int))) (by omega) (by omega)]
    by_cases q1:A.length=1
    · obtain ⟨x,rfl⟩:=List.length_eq_one_iff.1 q1
      refine aC (by omega) ?_
      have:=abr P x B Q (nA x (by simp)) nB hB (by omega) [] B.length 0 B.length (by omega) (by omega) (Nat.le_refl _) (fun t ht=>absurd ht (Nat.not_lt_zero _)) (fun t h1 h2=>absurd h2 (by omega))
      rw [show ((P.length+1+0:Nat):Int)=(P.length:Int)+(([x]:List ByteArray).length:Int) by simp,show ((P.length+1+B.length:Nat):Int)=(P.length:Int)+(([x]:List ByteArray).length:Int)+(B.length:Int) by simp] at this
      simpa using this
    · refine bO (by omega) ?_
      by_cases q2:B.length=1
      · obtain ⟨x,rfl⟩:=List.length_eq_one_iff.1 q2
        refine aC (by simp<;>omega) ?_
        have:=abq P A x Q (nB x (by simp)) nA hA (by simp at hb;omega) A.length 0 A.length (by omega) (by omega) (Nat.le_refl _) (fun t ht=>absurd ht (Nat.not_lt_zero _)) (fun t h1 h2=>absurd h2 (by omega))
        rw [show ((P.length+0:Nat):Int)=(P.length:Int) by simp,show ((P.length+A.length:Nat):Int)=(P.length:Int)+(A.length:Int) by omega] at this
        simpa using this
      · refine bO (by omega) ?_
        rw [show (P.length:Int)+((P.length:Int)+(A.length:Int)+(B.length:Int))=((P.length:Nat):Int)+((P.length+A.length+B.length:Nat):Int) by omega,IU _ _ (by omega)]
        have hmd:∃mid,mid=(P.length+(P.length+A.length+B.length))/2:=⟨_,rfl⟩
        obtain ⟨mid,Ww⟩:=hmd
        rw [←Ww]
        rw [show (mid:Int)+((P.length:Int)+(A.length:Int))=((mid+(P.length+A.length):Nat):Int) by omega,fK (x:=((mid+(P.length+A.length):Nat):Int)) (by omega) (by omega)]
        have C:=cutAt P A B Q hA hB nA nB hb _ _ mid Ww rfl rfl ((P.length:Int)+(A.length:Int)) ((P.length:Int)+(A.length:Int)+(B.length:Int)) (P++mH k0 (A++B)++Q) (fun s Tx D4 hl hr=> ?_)
        · by_cases q3:P.length+A.length>mid
          · refine aC (by omega) (bf (fun k=>by rw [aa.j4]) ?_)
            rw [if_pos q3,if_pos q3] at C
            have:=C _ (mid+(P.length+A.length)-(P.length+A.length+B.length)) mid (Nat.le_refl _) (Nat.le_refl _) (by omega) (Nat.le_refl _) (fun c h1 h2=>absurd h2 (by omega)) (fun c h1 h2=>absurd h2 (by omega))
            rw [fK (x:=((mid+(P.length+A.length):Nat):Int)-1) (by omega) (by omega),fK (by omega) (by omega),show ((mid+(P.length+A.length):Nat):Int)-((P.length:Int)+(A.length:Int)+(B.length:Int))=((mid+(P.length+A.length)-(P.length+A.length+B.length):Nat):Int) by omega]
            exact this
          · refine bO (by omega) (bf (fun k=>by rw [aa.j4]) ?_)
            rw [if_neg q3,if_neg q3] at C
            have:=C _ P.length (P.length+A.length) (Nat.le_refl _) (Nat.le_refl _) (by omega) (Nat.le_refl _) (fun c h1 h2=>absurd h2 (by omega)) (fun c h1 h2=>absurd h2 (by omega))
            rw [fK (x:=((mid+(P.length+A.length):Nat):Int)-1) (by omega) (by omega),show (P.length:Int)+(A.length:Int)=((P.length+A.length:Nat):Int) by omega] at*
            exact this
        ·
          have hsb:P.length≤s∧s≤P.length+A.length∧s≤mid∧mid-s≤B.length:=by split at Tx<;>split at D4<;>omega
          have eA:A=A.take (s-P.length)++A.drop (s-P.length):=(List.take_append_drop _ _).symm
          have eB:B=B.take (mid-s)++B.drop (mid-s):=(List.take_append_drop _ _).symm
          have lA1:(A.take (s-P.length)).length=s-P.length:=by rw [List.length_take];omega
          have lA2:(A.drop (s-P.length)).length=P.length+A.length-s:=by rw [List.length_drop];omega
          have lB1:(B.take (mid-s)).length=mid-s:=by rw [List.length_take];omega
          have lB2:(B.drop (mid-s)).length=B.length-(mid-s):=List.length_drop
          have r1:∀x∈A.drop (s-P.length),∀y∈B.take (mid-s),k0 y<k0 x:=by
            intro x hx y hy
            have Tq:0<(A.drop (s-P.length)).length:=List.length_pos_of_mem hx
            have nV:0<(B.take (mid-s)).length:=List.length_pos_of_mem hy
            have hsr:s<(if P.length+A.length>mid then mid else P.length+A.length):=by split<;>omega
            have h1:=hr s (Nat.le_refl _) hsr
            have h2:∀y∈B.take (mid-s),k0 y≤k0 (B.getD (mid-1-s) ByteArray.empty):=IX (fun t ht=>by
              rw [JA _ _ _ (by omega)]
              exact m5 hB t (mid-1-s) (by omega) (by omega))
            have h3:∀x∈A.drop (s-P.length),k0 (A.getD (s-P.length) ByteArray.empty)≤k0 x:=IY (fun t ht=>by
              rw [JB]
              exact m5 hA (s-P.length) (s-P.length+t) (by omega) (by omega))
            have:=h2 y hy
            have:=h3 x hx
            omega
          have r2:∀x∈A.take (s-P.length),∀y∈B.drop (mid-s),k0 x≤k0 y:=by
            intro x hx y hy
            have Tq:0<(A.take (s-P.length)).length:=List.length_pos_of_mem hx
            have nV:0<(B.drop (mid-s)).length:=List.length_pos_of_mem hy
            have hsr:(if P.length+A.length>mid then mid+(P.length+A.length)-(P.length+A.length+B.length) else P.length)≤s-1:=by split<;>omega
            have h1:=hl (s-1) hsr (by omega)
            have h2:∀x∈A.take (s-P.length),k0 x≤k0 (A.getD (s-1-P.length) ByteArray.empty):=IX (fun t ht=>by
              rw [JA _ _ _ (by omega)]
              exact m5 hA t (s-1-P.length) (by omega) (by omega))
            have h3:∀y∈B.drop (mid-s),k0 (B.getD (mid-1-(s-1)) ByteArray.empty)≤k0 y:=IY (fun t ht=>by
              rw [JB]
              exact m5 hB (mid-1-(s-1)) (mid-s+t) (by omega) (by omega))
            have:=h2 x hx
            have:=h3 y hy
            omega
          have hAB:A.length=(A.take (s-P.length)).length+(A.drop (s-P.length)).length∧B.length=(B.take (mid-s)).length+(B.drop (mid-s)).length:=by omega
          clear hl hr Tx D4
          generalize A.take (s-P.length)=A1 at*
          generalize A.drop (s-P.length)=A2 at*
          generalize B.take (mid-s)=B1 at*
          generalize B.drop (mid-s)=B2 at*
          subst eA eB
          clear hAB
          simp only [List.length_append] at*
          have sA1:=hA.left;have sA2:=hA.right;have sB1:=hB.left;have sB2:=hB.right
          have nA1:NE A1:=fun x h=>nA x (by simp [h])
          have nA2:NE A2:=fun x h=>nA x (by simp [h])
          have nB1:NE B1:=fun x h=>nB x (by simp [h])
          have nB2:NE B2:=fun x h=>nB x (by simp [h])
          have key:mH k0 (A1++B1)++mH k0 (A2++B2)=mH k0 (A1++A2++(B1++B2)):=by
            refine vu (nh.app (k6 _).1 (k6 _).1 ?_) ?_
            · intro x hx y hy
              have hx:=xH hx
              have hy:=xH hy
              rcases List.mem_append.1 hx with hx|hx<;>rcases List.mem_append.1 hy with hy|hy
              · exact hA.le x hx y hy
              · exact r2 x hx y hy
              · exact Int.le_of_lt (r1 y hy x hx)
              · exact hB.le x hx y hy
            · have h1:=((fO.refl (key:=k0) A1).app (fO.swap (key:=k0) (A:=A2) (B:=B1) (fun a ha b hb=>by have:=r1 a ha b hb;omega))).app (fO.refl B2)
              have h2:=(k6 (key:=k0) (A1++B1)).2.app (k6 (key:=k0) (A2++B2)).2
              refine fO.trans ?_ h2
              simpa using h1
          rw [←key,show ((P.length:Int)+((A1.length+A2.length:Nat):Int))=(s:Int)+(A2.length:Int) by omega,fK (x:=((mid+(P.length+(A1.length+A2.length)):Nat):Int)-(s:Int)) (by omega) (by omega),show ((mid+(P.length+(A1.length+A2.length)):Nat):Int)-(s:Int)=(mid:Int)+(A2.length:Int) by omega]
          have J7:Ev (fun k=>aa.j7 k (P++A1++B1++A2++B2++Q) (P.length:Int) ((s:Int)+(A2.length:Int)+((B1.length+B2.length:Nat):Int)) (mid:Int) (s:Int) ((mid:Int)+(A2.length:Int))) (P++(mH k0 (A1++B1)++mH k0 (A2++B2))++Q):=by
            refine bf (fun k=>by rw [aa.j7]) ?_
            have R8:∀(T:List ByteArray),T.length=A1.length+B1.length→Ev (fun k=>if (mid:Int)<(mid:Int)+(A2.length:Int) then (if (mid:Int)+(A2.length:Int)<(s:Int)+(A2.length:Int)+((B1.length+B2.length:Nat):Int) then ((aa.f k (P++T++A2++B2++Q) (mid:Int) ((mid:Int)+(A2.length:Int)) ((s:Int)+(A2.length:Int)+((B1.length+B2.length:Nat):Int))).bind fun afg=>(some afg)) else (some (P++T++A2++B2++Q))) else (some (P++T++A2++B2++Q))) (P++(T++mH k0 (A2++B2))++Q):=by
              intro T hT
              by_cases z1:0<A2.length
              · refine aC (by omega) ?_
                by_cases z2:0<B2.length
                · refine aC (by omega) (bz (a:=P++(T++mH k0 (A2++B2))++Q) ?_ (cu rfl))
                  have:=ih (P++T) A2 B2 Q (by omega) z1 z2 sA2 sB2 nA2 nB2 (by simp;omega) (mid:Int) ((mid:Int)+(A2.length:Int)) ((s:Int)+(A2.length:Int)+((B1.length+B2.length:Nat):Int)) (by simp;omega) (by simp;omega) (by simp;omega)
                  simpa using this
                · obtain rfl:B2=[]:=List.length_eq_zero_iff.1 (by omega)
                  refine bO (by simp;omega) (cu ?_)
                  rw [show mH k0 (A2++[])=A2 by rw [List.append_nil,oO sA2]]
                  simp
              · obtain rfl:A2=[]:=List.length_eq_zero_iff.1 (by omega)
                refine bO (by simp) (cu ?_)
                rw [show mH k0 ([]++B2)=B2 by rw [List.nil_append,oO sB2]]
                simp
            by_cases z1:0<A1.length
            · refine aC (by omega) (bf (fun k=>by rw [aa.j8]) ?_)
              by_cases z2:0<B1.length
              · refine aC (by simp;omega) (bz (a:=P++mH k0 (A1++B1)++A2++B2++Q) ?_ (R8 _ (by rw [iA];simp)))
                have:=ih P A1 B1 (A2++B2++Q) (by omega) z1 z2 sA1 sB1 nA1 nB1 (by simp;omega) (P.length:Int) (s:Int) (mid:Int) rfl (by omega) (by omega)
                simpa using this
              · obtain rfl:B1=[]:=List.length_eq_zero_iff.1 (by omega)
                refine bO (by simp at*;omega) ?_
                have:=R8 (A1++[]) (by simp)
                rw [show mH k0 (A1++[])=A1++[] by rw [List.append_nil,oO sA1]]
                simpa using this
            · obtain rfl:A1=[]:=List.length_eq_zero_iff.1 (by omega)
              refine bO (by simp at*;omega) (bf (fun k=>by rw [aa.j8]) (bO (by decide) ?_))
              have:=R8 ([]++B1) (by simp)
              rw [show mH k0 ([]++B1)=[]++B1 by rw [List.nil_append,oO sB1]]
              simpa using this
          have e4:P++(A1++A2)++(B1++B2)++Q=P++A1++A2++B1++(B2++Q):=by simp
          by_cases z1:0<A2.length
          · refine aC (by omega) (bf (fun k=>by rw [aa.j6]) ?_)
            by_cases z2:0<B1.length
            · refine aC (by simp;omega) (bz (a:=P++A1++B1++A2++B2++Q) ?_ J7)
              rw [e4]
              have:=afn (P++A1) A2 B1 (B2++Q) z1 z2 (by simp;omega) (s:Int) ((s:Int)+(A2.length:Int)) ((mid:Int)+(A2.length:Int)) (by simp;omega) (by simp;omega) (by simp;omega)
              simpa using this
            · obtain rfl:B1=[]:=List.length_eq_zero_iff.1 (by omega)
              refine bO (by simp at*;omega) ?_
              simpa using J7
          · obtain rfl:A2=[]:=List.length_eq_zero_iff.1 (by omega)
            refine bO (by simp) (bf (fun k=>by rw [aa.j6]) (bO (by decide) ?_))
            simpa using J7
inductive AQ (s:Nat):List ByteArray→Prop
  |last {l:List ByteArray} :l.length≤s→nh k0 l→AQ s l
  |more {A R:List ByteArray} :A.length=s→nh k0 A→AQ s R→AQ s (A++R)
theorem AQ.cut {s:Nat} {l:List ByteArray} (h:AQ s l) (hl:s<l.length):∃A R,l=A++R∧A.length=s∧nh k0 A∧AQ s R:=by
  cases h with
  |last h1 h2=>omega
  |more h1 h2 h3=>exact ⟨_,_,rfl,h1,h2,h3⟩
theorem AQ.srt {s:Nat} {l:List ByteArray} (h:AQ s l) (hl:l.length≤s):nh k0 l:=by
  cases h with
  |last h1 h2=>exact h2
  | more h1 h2 h3 =>
    rename_i A R
    obtain rfl:R=[]:=List.length_eq_zero_iff.1 (by simp at hl;omega)
    simpa using h2
theorem K9 (n:Nat) (hn:n≤1073741824):∀(d:Nat) (P U:List ByteArray),U.length≤d→P.length+U.length=n→NE U→∃T,AQ 20 T∧fO k0 U T∧T.length=U.length∧∀r,Ev (fun k=>ai.l1 k (P++T) (n:Int) 20) r→Ev (fun k=>ai.l0 k (P++U) (n:Int) 20 (P.length:Int) ((P.length:Int)+20)) r:=by
  intro d
  induction d with
  | zero =>
    intro P U hd hl iP
    obtain rfl:=List.length_eq_zero_iff.1 (Nat.le_zero.1 hd)
    refine ⟨[],AQ.last (by simp) List.Pairwise.nil,fO.refl _,rfl,fun r hr=> ?_⟩
    refine bf (fun k=>by rw [ai.l0]) (bO (by simp at hl;omega) ?_)
    obtain ⟨T,t1,t2,t3,t4⟩:=CF P [] [] n (by omega) iP (by simpa using hl)
    obtain rfl:=List.length_eq_zero_iff.1 t3
    exact bz (by simpa using t4) (by simpa using hr)
  | succ d ih =>
    intro P U hd hl iP
    by_cases q:P.length+20≤n
    · have eU:U=U.take 20++U.drop 20:=(List.take_append_drop _ _).symm
      have l1:(U.take 20).length=20:=by rw [List.length_take];omega
      have l2:(U.drop 20).length=U.length-20:=List.length_drop
      generalize U.take 20=A at*
      generalize U.drop 20=R at*
      subst eU
      obtain ⟨T,t1,t2,t3,t4⟩:=CF P A R (P.length+20) (by omega) (fun x h=>iP x (by simp [h])) (by omega)
      obtain ⟨T2,s1,s2,s3,s4⟩:=ih (P++T) R (by simp at hd;omega) (by simp at hl⊢;omega) (fun x h=>iP x (by simp [h]))
      refine ⟨T++T2,AQ.more (by omega) t1 s1,t2.app s2,by simp;omega,fun r hr=> ?_⟩
      refine bf (fun k=>by rw [ai.l0]) (aC (by omega) ?_)
      refine bz (a:=P++T++R) (by rw [show P++(A++R)=P++A++R by simp,show (P.length:Int)+20=((P.length+20:Nat):Int) by omega];exact t4) ?_
      have:=s4 r (by simpa using hr)
      rw [show ((P++T).length:Int)=(P.length:Int)+20 by simp;omega] at this
      rw [fK (by omega) (by omega)]
      exact this
    · obtain ⟨T,t1,t2,t3,t4⟩:=CF P U [] n (by omega) iP hl
      refine ⟨T,AQ.last (by omega) t1,t2,t3,fun r hr=> ?_⟩
      refine bf (fun k=>by rw [ai.l0]) (bO (by omega) (bz (a:=P++T) (by simpa using t4) hr))
theorem K5 (n s:Nat) (hn:n≤1073741824) (hs:0<s) (hsn:s<n):∀(d:Nat) (P U:List ByteArray),U.length≤d→P.length+U.length=n→NE U→AQ s U→∃T,AQ (2*s) T∧fO k0 U T∧T.length=U.length∧∀r,Ev (fun k=>ai.l1 k (P++T) (n:Int) ((2*s:Nat):Int)) r→Ev (fun k=>ai.l2 k (P++U) (n:Int) (s:Int) (P.length:Int) ((P.length:Int)+((2*s:Nat):Int))) r:=by
  intro d
  induction d with
  | zero =>
    intro P U hd hl iP hB
    obtain rfl:=List.length_eq_zero_iff.1 (Nat.le_zero.1 hd)
    refine ⟨[],AQ.last (by simp) List.Pairwise.nil,fO.refl _,rfl,fun r hr=> ?_⟩
    refine bf (fun k=>by rw [ai.l2]) (bO (by simp at hl;omega) (bO (by rw [fK (by omega) (by omega)];simp at hl;omega) ?_))
    rw [fK (by omega) (by omega),show (s:Int)*2=((2*s:Nat):Int) by omega]
    exact hr
  | succ d ih =>
    intro P U hd hl iP hB
    by_cases q:P.length+2*s≤n
    · obtain ⟨A,R0,rfl,lA,sA,hR0⟩:=hB.cut (by omega)
      simp only [List.length_append] at hl hd
      obtain ⟨B,R,rfl,lB,sB,hR⟩:∃B R,R0=B++R∧B.length=s∧nh k0 B∧AQ s R:=by
        by_cases z:s<R0.length
        · exact hR0.cut z
        · exact ⟨R0,[],by simp,by omega,hR0.srt (by omega),AQ.last (by simp) List.Pairwise.nil⟩
      simp only [List.length_append] at hl hd
      have nA:NE A:=fun x h=>iP x (by simp [h])
      have nB:NE B:=fun x h=>iP x (by simp [h])
      obtain ⟨T2,s1,s2,s3,s4⟩:=ih (P++mH k0 (A++B)) R (by omega) (by simp [iA];omega) (fun x h=>iP x (by simp [h])) hR
      refine ⟨mH k0 (A++B)++T2,AQ.more (by rw [iA];simp;omega) (k6 _).1 s1,?_,by simp [iA];omega,fun r hr=> ?_⟩
      · have:=(k6 (key:=k0) (A++B)).2.app s2
        simpa using this
      · refine bf (fun k=>by rw [ai.l2]) (aC (by omega) ?_)
        have hm:=merge _ P A B R (Nat.le_refl _) (by omega) (by omega) sA sB nA nB (by omega) (P.length:Int) (wrap64 ((P.length:Int)+(s:Int))) ((P.length:Int)+((2*s:Nat):Int)) rfl (by rw [fK (by omega) (by omega)];omega) (by omega)
        refine bz (a:=P++mH k0 (A++B)++R) (by simpa using hm) ?_
        have:=s4 r (by simpa using hr)
        rw [show ((P++mH k0 (A++B)).length:Int)=(P.length:Int)+((2*s:Nat):Int) by simp [iA];omega] at this
        rw [fK (x:=2*(s:Int)) (by omega) (by omega),show 2*(s:Int)=((2*s:Nat):Int) by omega,fK (by omega) (by omega)]
        exact this
    · refine ?_
      by_cases z:s<U.length
      · obtain ⟨A,B,rfl,lA,sA,hR0⟩:=hB.cut z
        simp only [List.length_append] at hl hd z
        have nA:NE A:=fun x h=>iP x (by simp [h])
        have nB:NE B:=fun x h=>iP x (by simp [h])
        have sB:=hR0.srt (by omega)
        refine ⟨mH k0 (A++B),AQ.last (by rw [iA];simp;omega) (k6 _).1,(k6 _).2,iA _,fun r hr=> ?_⟩
        refine bf (fun k=>by rw [ai.l2]) (bO (by omega) (aC (by rw [fK (by omega) (by omega)];omega) ?_))
        have hm:=merge _ P A B [] (Nat.le_refl _) (by omega) (by omega) sA sB nA nB (by simp;omega) (P.length:Int) (wrap64 ((P.length:Int)+(s:Int))) (n:Int) rfl (by rw [fK (by omega) (by omega)];omega) (by omega)
        refine bz (a:=P++mH k0 (A++B)) (by simpa using hm) ?_
        rw [fK (by omega) (by omega),show (s:Int)*2=((2*s:Nat):Int) by omega]
        exact hr
      · refine ⟨U,AQ.last (by omega) (hB.srt (by omega)),fO.refl _,rfl,fun r hr=> ?_⟩
        refine bf (fun k=>by rw [ai.l2]) (bO (by omega) (bO (by rw [fK (by omega) (by omega)];omega) ?_))
        rw [fK (by omega) (by omega),show (s:Int)*2=((2*s:Nat):Int) by omega]
        exact hr
theorem NE.of {U T:List ByteArray} (h:NE U) (e:fO k0 U T):NE T:=fun x hx=>h x (e.symm.mem x hx)
theorem VR (n:Nat) (hn:n≤1073741824):∀(d s:Nat) (U:List ByteArray),n-s≤d→0<s→U.length=n→NE U→AQ s U→Ev (fun k=>ai.l1 k U (n:Int) (s:Int)) (mH k0 U):=by
  intro d
  induction d with
  | zero =>
    intro s U hd hs hl iP hB
    exact bf (fun k=>by rw [ai.l1]) (bO (by omega) (cu (oO (hB.srt (by omega))).symm))
  | succ d ih =>
    intro s U hd hs hl iP hB
    by_cases q:s<n
    · refine bf (fun k=>by rw [ai.l1]) (aC (by omega) ?_)
      obtain ⟨T,t1,t2,t3,t4⟩:=K5 n s hn hs q n [] U (by omega) (by simpa using hl) iP hB
      have h:=ih (2*s) T (by omega) (by omega) (by omega) (iP.of t2) t1
      rw [show mH k0 T=mH k0 U from vu (k6 T).1 (t2.trans (k6 T).2)] at h
      have:=t4 _ (by simpa using h)
      rw [fK (x:=2*(s:Int)) (by omega) (by omega)]
      simpa using this
    · exact bf (fun k=>by rw [ai.l1]) (bO (by omega) (cu (oO (hB.srt (by omega))).symm))
theorem MT (U:List ByteArray) (hn:U.length≤1048576) (iP:NE U):Ev (fun k=>dj.f k U) (mH k0 U):=by
  unfold dj.f ai.f
  obtain ⟨T,t1,t2,t3,t4⟩:=K9 U.length (by omega) U.length [] U (Nat.le_refl _) (by simp) iP
  have h:=VR U.length (by omega) U.length 20 T (by omega) (by decide) t3 (iP.of t2) t1
  rw [show mH k0 T=mH k0 U from vu (k6 T).1 (t2.trans (k6 T).2)] at h
  refine bz ?_ (cu rfl)
  have:=t4 _ (by simpa using h)
  simpa using this
def AM (x:ByteArray):ByteArray:=x.extract 1 x.size
theorem OG (W:List ByteArray):∀(R D:List ByteArray),D.length+R.length=W.length→W.length≤1048576→NE R→Ev (fun k=>dc.l0 k (D.map AM++R) (W.length:Int) (D.length:Int)) ((D++R).map AM)
  |[],D,hl,_,_=>bf (fun k=>by rw [dc.l0]) (bO (by simp at hl;omega) (cu (by simp)))
  | x :: R, D, hl, hn, iP => by
    simp only [List.length_cons] at hl
    have hx:0<x.size:=iP x (by simp)
    have g1:aQ ByteArray.empty (D.map AM++x::R) (D.length:Int)=x:=lV _ _ _ _ (by simp)
    refine bf (fun k=>by rw [dc.l0]) (aC (by omega) (aC (by omega) (aC (by simp;omega) ?_)))
    rw [g1,pH _ _ _ _ _ (by simp),fK (by omega) (by omega)]
    refine aC (by omega) ?_
    have:=OG W R (D++[x]) (by simp;omega) hn (fun y h=>iP y (by simp [h]))
    rw [show ((D++[x]).length:Int)=(D.length:Int)+1 by simp] at this
    simpa [AM] using this
theorem Le (K:List Int) (ins outs boxes:List (List ByteArray)) (t:Int) (u:Nat) (hu:u<boxes.length) (hn:(boxes.getD u []).length≤1048576) (iP:NE (boxes.getD u [])):Ev (fun k=>dc.f k K ins outs boxes t (u:Int)) ((mH k0 (boxes.getD u [])).map AM):=by
  unfold dc.f
  refine aC (by omega) (aC (by omega) ?_)
  rw [show aN boxes (u:Int)=boxes.getD u [] from by unfold aN;rw [Int.toNat_natCast]]
  generalize boxes.getD u []=B at*
  refine jh (a:=B) (by unfold bG.f;rw [Option.bind_some,if_pos (by simp;omega)];rfl) (bz (MT B hn iP) ?_)
  have:=OG B (mH k0 B) [] (by simp [iA]) hn iP.mH
  simpa using this
def tr (K:List Int) (ins outs boxes:List (List ByteArray)) (t u:Int):List ByteArray×Bool:=if (jv K ins outs boxes t&&mC 0 3 u)=true then ((mH k0 (boxes.getD u.toNat [])).map AM,true) else ([],false)
theorem vN {K:List Int} {ins outs boxes:List (List ByteArray)} {t u:Int} (h:jv K ins outs boxes t=true) (hu:mC 0 3 u=true):∃v:Nat,u=v∧v<boxes.length∧NE (boxes.getD v [])∧(boxes.getD v []).length≤60:=by
  unfold jv at h
  simp only [Bool.and_eq_true,decide_eq_true_eq] at h
  obtain ⟨-,-,-,-,h5,-,-,h8⟩:=h
  have hu':=fN.1 hu
  have hv:u.toNat<boxes.length:=by omega
  have hb:=List.all_eq_true.1 h8 _ (List.getElem_mem hv)
  have e:boxes.getD u.toNat []=boxes[u.toNat]:=by rw [List.getD_eq_getElem?_getD,List.getElem?_eq_getElem hv];rfl
  unfold tC at hb
  simp only [Bool.and_eq_true,decide_eq_true_eq] at hb
  refine ⟨u.toNat,by omega,hv,?_,by rw [e];exact hb.2⟩
  intro x hx
  rw [e] at hx
  have:=fN.1 (List.all_eq_true.1 hb.1 x hx)
  omega
theorem NN (K:List Int) (ins outs boxes:List (List ByteArray)) (t u:Int) (hK:K.length≤1048576) (hi:cj ins) (ho:cj outs) (hb:cj boxes):Ev (fun k=>jQ.f k K ins outs boxes t u) (tr K ins outs boxes t u):=by
  unfold jQ.f tr
  refine bz (oU K ins outs boxes t hK hi ho hb) ?_
  cases h1:jv K ins outs boxes t with
  |false=>exact bO (by decide) (cu rfl)
  | true =>
    refine aC rfl (jh (kN _ _ _) ?_)
    cases h2:mC 0 3 u with
    |false=>exact bO (by decide) (cu rfl)
    | true =>
      obtain ⟨v,rfl,hv,iP,hl⟩:=vN h1 h2
      refine aC rfl (bz (Le K ins outs boxes t v hv (by omega) iP) (cu ?_))
      simp
theorem CI (K:List Int) (ins outs boxes:List (List ByteArray)) (t u:Int):(tr K ins outs boxes t u).1.length≤1048576:=by
  unfold tr
  split
  · rename_i h
    simp only [Bool.and_eq_true] at h
    obtain ⟨v,rfl,hv,iP,hl⟩:=vN h.1 h.2
    simp [iA];simp at hl;omega
  · simp
theorem AW (x:ByteArray) (hx:0<x.size) (B:List ByteArray) (W j:Int) (r:List ByteArray×Bool) (S:List ByteArray) (hn:S.length≤1048576) (H:Ev (fun k=>aT.l0 k (ins k0 x S) B W (wrap64 (j+1))) r):∀(R D:List ByteArray),S=D++R→NE S→(∀y∈D,k0 y≤k0 x)→nh k0 S→Ev (fun k=>aT.l1 k S x (D.length:Int) B W j) r
  | [], D, hS, iP, hD, hs => by
    subst hS
    have e:ins k0 x (D++[])=D++[x]:=by
      obtain ⟨l1,l2,e1,e2,e3,e4⟩:=yW x _ hs
      rw [e2]
      simp only [List.append_nil] at e1
      cases l2 with
      | nil =>
        rw [List.append_nil] at e1
        rw [e1]
      | cons y l2 =>
        have h1:=e4 y (by simp)
        have h2:=hD y (by rw [e1];simp)
        omega
    rw [e] at H
    refine bf (fun k=>by rw [aT.l1]) ?_
    refine bO (by simp) ?_
    simp only [List.append_nil] at hn⊢
    refine jh rfl (aC (by omega) (aC (by omega) ?_))
    refine jh rfl (aC (by simp;omega) ?_)
    refine jh rfl (aC (by simp;omega) ?_)
    refine jh rfl ?_
    refine jh rfl (aC (by simp;omega) ?_)
    simpa using H
  | y :: R, D, hS, iP, hD, hs => by
    subst hS
    have g1:aQ ByteArray.empty (D++y::R) (D.length:Int)=y:=lV _ _ _ _ rfl
    have hy:0<y.size:=iP y (by simp)
    refine bf (fun k=>by rw [aT.l1]) (aC (by simp;omega) (aC (by omega) ?_))
    rw [g1]
    refine aC (by omega) (aC (by omega) ?_)
    by_cases q:bt y 0≤bt x 0
    · refine aC q ?_
      rw [fK (by omega) (by simp at hn;omega)]
      have:=AW x hx B W j r (D++y::R) hn H R (D++[y]) (by simp) iP (fun z h=>by
        rcases List.mem_append.1 h with h|h
        · exact hD z h
        · rw [List.mem_singleton.1 h];exact q) hs
      rw [show ((D++[y]).length:Int)=(D.length:Int)+1 by simp] at this
      exact this
    · have e:ins k0 x (D++y::R)=D++x::y::R:=by
        refine nh.eq (GQ x _ hs).1 (nh.app hs.left (List.pairwise_cons.2 ⟨?_,hs.right⟩) ?_) ((GQ x _ hs).2.symm.trans ?_)
        · intro z hz
          rcases List.mem_cons.1 hz with rfl|hz
          · show bt x 0≤bt z 0;omega
          · have:=(List.pairwise_cons.1 hs.right).1 z hz
            have:bt y 0≤bt z 0:=this
            show bt x 0≤bt z 0;omega
        · intro a ha b hb
          rcases List.mem_cons.1 hb with rfl|hb
          · exact hD a ha
          · exact hs.le a ha b hb
        · rw [List.append_assoc]
          refine (fO.refl D).app ((fO.swap (A:=y::R) (B:=[x]) ?_).trans (by simpa using fO.refl _))
          intro a ha b hb
          rw [List.mem_singleton.1 hb]
          have h1:bt y 0≤bt a 0:=by
            rcases List.mem_cons.1 ha with rfl|ha
            · exact Int.le_refl _
            · exact (List.pairwise_cons.1 hs.right).1 a ha
          show bt a 0≠bt x 0
          omega
      rw [e] at H
      refine bO q ?_
      simp only [List.length_append,List.length_cons] at hn
      refine jh rfl (aC (by simp;omega) ?_)
      refine jh rfl (aC (by simp;omega) ?_)
      refine jh rfl (aC (by simp;omega) ?_)
      refine jh rfl ?_
      refine jh rfl (aC (by simp;omega) ?_)
      simpa using H
theorem yz (S:List ByteArray) (hn:S.length≤1048576):∀(R D:List ByteArray),S=D++R→NE R→Ev (fun k=>aT.l2 k S (D.map AM) (S.length:Int) (D.length:Int)) (S.map AM,true)
  | [], D, hS, _ => by
    subst hS
    exact bf (fun k=>by rw [aT.l2]) (bO (by simp) (cu (by simp)))
  | x :: R, D, hS, iP => by
    subst hS
    have g1:aQ ByteArray.empty (D++x::R) (D.length:Int)=x:=lV _ _ _ _ rfl
    have hx:0<x.size:=iP x (by simp)
    simp only [List.length_append,List.length_cons] at hn
    refine bf (fun k=>by rw [aT.l2]) (aC (by simp;omega) (aC (by omega) (aC (by simp;omega) ?_)))
    rw [g1,fK (by omega) (by omega)]
    refine aC (by omega) (aC (by simp;omega) ?_)
    have:=yz (D++x::R) (by simp;omega) R (D++[x]) (by simp) (fun y h=>iP y (by simp [h]))
    rw [show ((D++[x]).length:Int)=(D.length:Int)+1 by simp] at this
    simpa [AM] using this
theorem AZ (B:List ByteArray) (hn:B.length≤1048576) (iP:NE B):∀(R D:List ByteArray),B=D++R→Ev (fun k=>aT.l0 k (mH k0 D) B (B.length:Int) (D.length:Int)) ((mH k0 B).map AM,true)
  | [], D, hB => by
    subst hB
    refine bf (fun k=>by rw [aT.l0]) (bO (by simp) ?_)
    rw [List.append_nil] at*
    have:=yz (mH k0 D) (by rw [iA];exact hn) (mH k0 D) [] rfl iP.mH
    simpa using this
  | x :: R, D, hB => by
    subst hB
    have g1:aQ ByteArray.empty (D++x::R) (D.length:Int)=x:=lV _ _ _ _ rfl
    have hl:=hn
    simp only [List.length_append,List.length_cons] at hl
    refine bf (fun k=>by rw [aT.l0]) (aC (by simp;omega) (aC (by omega) (aC (by simp;omega) ?_)))
    rw [g1]
    refine AW x (iP x (by simp)) _ _ _ _ (mH k0 D) (by rw [iA];omega) ?_ (mH k0 D) [] rfl (fun y h=>iP y (by have:=xH h;simp [this])) (by simp) (k6 D).1
    rw [←yx,fK (by omega) (by omega)]
    have:=AZ (D++x::R) hn iP R (D++[x]) (by simp)
    rw [show ((D++[x]).length:Int)=(D.length:Int)+1 by simp] at this
    exact this
theorem MX (K:List Int) (ins outs boxes:List (List ByteArray)) (t u:Int) (hK:K.length≤1048576) (hi:cj ins) (ho:cj outs) (hb:cj boxes):Ev (fun k=>aT.f k K ins outs boxes t u) (tr K ins outs boxes t u):=by
  unfold aT.f tr
  refine bz (oP K ins outs boxes t hK hi ho hb) ?_
  cases h1:jv K ins outs boxes t with
  | false =>
    refine bO (by decide) (bf (fun k=>by rw [aT.j0]) ?_)
    exact aC rfl (cu rfl)
  | true =>
    refine aC rfl (jh (pP _ _ _) ?_)
    cases h2:mC 0 3 u with
    | false =>
      refine bf (fun k=>by rw [aT.j0]) ?_
      exact aC rfl (cu rfl)
    | true =>
      obtain ⟨v,rfl,hv,iP,hl⟩:=vN h1 h2
      refine bf (fun k=>by rw [aT.j0]) (bO (by decide) (aC (by omega) (aC (by omega) ?_)))
      rw [show aN boxes (v:Int)=boxes.getD v [] from by unfold aN;rw [Int.toNat_natCast]]
      have:=AZ (boxes.getD v []) (by omega) iP (boxes.getD v []) [] rfl
      rw [show mH k0 ([]:List ByteArray)=[] from rfl] at this
      simpa using this
theorem DJ {α:Type} {p:Nat→α→Bool} :∀(xs:List α) (i:Nat),(∀j (h:j<xs.length),p (i+j) xs[j]=true)→allI p i xs=true
  |[],_,_=>rfl
  | x :: xs, i, h => by
    simp only [allI,Bool.and_eq_true]
    refine ⟨h 0 (by simp),DJ xs (i+1) (fun j hj=> ?_)⟩
    have:=h (j+1) (by simpa using hj)
    rw [show i+1+j=i+(j+1) by omega]
    exact this
theorem JT {xs:List ByteArray} (h:Mg xs):KW xs=true:=by
  obtain ⟨h1,h2,h3,h4⟩:=h
  unfold KW
  rw [Bool.and_eq_true]
  refine ⟨DJ xs 0 (fun j hj=> ?_),decide_eq_true (by omega)⟩
  rw [Nat.zero_add]
  unfold AF
  rw [Bool.and_eq_true,Bool.or_eq_true]
  refine ⟨decide_eq_true (by have:=h2 xs[j] (List.getElem_mem hj);omega),?_⟩
  by_cases c:j=0
  · exact .inl (decide_eq_true c)
  · refine .inr ?_
    have hj1:j-1<xs.length:=by omega
    rw [show xs.getD (j-1) ByteArray.empty=xs[j-1] from fy _ (j-1) _ hj1]
    show pN xs[j-1] xs[j]=true
    have a:=List.pairwise_iff_getElem.1 h3 (j-1) j hj1 hj (by omega)
    have b:=List.pairwise_iff_getElem.1 h4 (j-1) j hj1 hj (by omega)
    cases e:pN xs[j-1] xs[j]
    · exact absurd (xI e a) b
    · rfl
theorem z7 {n:Nt} (g:GN n):jv n.ks n.ps n.ss n.ib n.sd=true:=by
  unfold jv
  simp only [Bool.and_eq_true,decide_eq_true_eq]
  have h1:=g.k1;have h2:=g.k4;have h3:=g.pl;have h4:=g.sl;have h5:=g.il
  refine ⟨fN.2 (by omega),List.all_eq_true.2 (fun x hx=>fN.2 (g.kr x hx)),by omega,by omega,by omega,fN.2 g.sd,DJ _ 0 (fun j hj=> ?_),List.all_eq_true.2 (fun b hb=> ?_)⟩
  · rw [Nat.zero_add]
    have e:n.ps[j]=n.ps.getD j []:=(fy _ j _ hj).symm
    simp only [mz,Bool.and_eq_true]
    rw [e]
    exact ⟨JT (g.po j),JT (g.so j),List.all_eq_true.2 (fun x hx=>(zi _ _).2 (g.sub j x hx))⟩
  · simp only [tC,Bool.and_eq_true,decide_eq_true_eq]
    obtain ⟨b1,b2⟩:=g.bx b hb
    exact ⟨List.all_eq_true.2 (fun x hx=>fN.2 (by have:=b2 x hx;omega)),b1⟩
def cZ:List (List ByteArray)→Int
  |[]=>0
  |x::xs=>(x.length:Int)+cZ xs
theorem wC:∀xs,0≤cZ xs
  |[]=>Int.le_refl _
  |x::xs=>by have:=wC xs;simp only [cZ];omega
theorem NM (ins:List (List ByteArray)) (hi:cj ins) (h4:ins.length≤4):∀(d i:Nat) (c:Int),i+d=ins.length→0≤c→c≤1048576*(i:Int)→Ev (fun k=>dw.l0 k c ins (ins.length:Int) (i:Int)) (c+cZ (ins.drop i)):=by
  intro d
  induction d with
  | zero =>
    intro i c hd h0 h1
    refine bf (fun k=>by rw [dw.l0]) (bO (by omega) (cu ?_))
    rw [List.drop_eq_nil_of_le (by omega)];simp [cZ]
  | succ d ih =>
    intro i c hd h0 h1
    have fl:i<ins.length:=by omega
    have hx:=hi.2 _ (List.getElem_mem fl)
    refine bf (fun k=>by rw [dw.l0]) (aC (by omega) (aC (by omega) (aC (by omega) ?_)))
    rw [show aN ins (i:Int)=ins[i] from fy ins i _ fl,List.drop_eq_getElem_cons fl,fK (x:=c+_) (by omega) (by omega),fK (by omega) (by omega)]
    simp only [cZ]
    rw [←Int.add_assoc]
    exact ih (i+1) _ (by omega) (by omega) (by push_cast;omega)
theorem BA {K:List Int} {ins outs boxes:List (List ByteArray)} {t:Int} (g:jv K ins outs boxes t=true):ins.length≤4:=by
  unfold jv at g
  simp only [Bool.and_eq_true,decide_eq_true_eq] at g
  have:=fN.1 g.1
  have:=g.2.2.1
  omega
def nI (K:List Int) (ins outs boxes:List (List ByteArray)) (t:Int):Int×Bool:=if jv K ins outs boxes t=true then (cZ ins,true) else (0,false)
theorem yY (K:List Int) (ins outs boxes:List (List ByteArray)) (t:Int) (hK:K.length≤1048576) (hi:cj ins) (ho:cj outs) (hb:cj boxes):Ev (fun k=>gp.f k K ins outs boxes t) (nI K ins outs boxes t):=by
  unfold gp.f nI
  refine bz (oU K ins outs boxes t hK hi ho hb) ?_
  cases g:jv K ins outs boxes t with
  |false=>exact bO (by simp) (cu (by simp))
  | true =>
    refine aC rfl ?_
    have:=NM ins hi (BA g) ins.length 0 0 (by omega) (by omega) (by omega)
    rw [Int.zero_add] at this
    exact bz this (cu (by simp))
theorem MV (ins:List (List ByteArray)) (hi:cj ins) (h4:ins.length≤4):∀(d i:Nat) (c:Int),i+d=ins.length→0≤c→c≤1048576*(i:Int)→Ev (fun k=>dF.l0 k c ins (ins.length:Int) (i:Int)) (c+cZ (ins.drop i),true):=by
  intro d
  induction d with
  | zero =>
    intro i c hd h0 h1
    refine bf (fun k=>by rw [dF.l0]) (bO (by omega) (cu ?_))
    rw [List.drop_eq_nil_of_le (by omega)];simp [cZ]
  | succ d ih =>
    intro i c hd h0 h1
    have fl:i<ins.length:=by omega
    have hx:=hi.2 _ (List.getElem_mem fl)
    refine bf (fun k=>by rw [dF.l0]) (aC (by omega) (aC (by omega) (aC (by omega) ?_)))
    rw [show aN ins (i:Int)=ins[i] from fy ins i _ fl,List.drop_eq_getElem_cons fl,fK (x:=c+_) (by omega) (by omega),fK (by omega) (by omega)]
    simp only [cZ]
    rw [←Int.add_assoc]
    exact ih (i+1) _ (by omega) (by omega) (by push_cast;omega)
theorem MW (K:List Int) (ins outs boxes:List (List ByteArray)) (t:Int) (hK:K.length≤1048576) (hi:cj ins) (ho:cj outs) (hb:cj boxes):Ev (fun k=>dF.f k K ins outs boxes t) (nI K ins outs boxes t):=by
  unfold dF.f nI
  refine bz (oP K ins outs boxes t hK hi ho hb) ?_
  cases g:jv K ins outs boxes t with
  |false=>exact bO (by simp) (cu (by simp))
  | true =>
    refine aC rfl ?_
    have:=MV ins hi (BA g) ins.length 0 0 (by omega) (by omega) (by omega)
    rw [Int.zero_add] at this
    exact this
theorem pO:∀(l:List (List ByteArray)) (i:Nat) (x:List ByteArray),i<l.length→cZ (l.set i x)=cZ l-((l.getD i []).length:Int)+(x.length:Int)
  |[],i,_,h=>absurd h (Nat.not_lt_zero _)
  |a::l,0,x,_=>by simp [cZ];omega
  | a :: l, i + 1, x, h => by
    have:=pO l i x (by simpa using h)
    simp only [List.set_cons_succ,cZ,List.getD_cons_succ,this]
    omega
theorem tW:∀(l:List (List ByteArray)),(∀p∈l,p.length≤1048576)→cZ l≤1048576*(l.length:Int)
  |[],_=>by simp [cZ]
  | a :: l, h => by
    have h1:=h a (by simp)
    have:=tW l (fun p hp=>h p (List.mem_cons_of_mem _ hp))
    simp only [cZ,List.length_cons]
    omega
theorem EG (l:List (List ByteArray)) (h:cj l):cZ l≤1048576*(l.length:Int):=tW l h.2
theorem xe (l:List (List ByteArray)) (i:Nat) (x:List ByteArray) (h:x.length≤(l.getD i []).length+1):cZ (l.set i x)≤cZ l+1:=by
  by_cases c:i<l.length
  · rw [pO l i x c];omega
  · rw [List.set_eq_of_length_le (by omega)];omega
theorem p9 (n:Nt) (i:Nat) (s:ByteArray):cZ (lK n i s).ps≤cZ n.ps+1:=by
  unfold lK
  split
  · omega
  · exact xe _ _ _ (by have:=(kF s (n.ps.getD i [])).length_eq;rw [this];simp)
theorem Ar (z:Bool) (i:Nat) (n:Nt) (s:ByteArray):cZ (kX z i n s).ps≤cZ n.ps+1:=by
  unfold kX
  split
  · omega
  · split
    · split
      · exact p9 _ _ _
      · omega
    · split
      · show cZ n.ps≤_;omega
      · omega
theorem uG (z:Bool) (i:Nat):∀(P:List ByteArray) (n:Nt),cZ (P.foldl (kX z i) n).ps≤cZ n.ps+(P.length:Int)
  |[],n=>by simp
  | s :: P, n => by
    have:=uG z i P (kX z i n s)
    have:=Ar z i n s
    simp only [List.foldl_cons,List.length_cons]
    omega
theorem Cg {n:Nt} {i:Nat} (hi:i<n.ps.length):cZ (qi n i).ps≤cZ n.ps:=by
  have:=uG (decide (i+1=n.ks.length)) i (n.ps.getD i []) ⟨n.ks,n.ps.set i [],n.ss,n.ib,n.sd⟩
  have h:cZ (n.ps.set i [])=_:=pO n.ps i [] hi
  simp only [List.length_nil] at h
  unfold qi
  simp only at this
  omega
def nR (a b:List (List ByteArray)):Prop:=∀j,∃t,b.getD j []=a.getD j []++t
theorem nR.refl (a:List (List ByteArray)):nR a a:=fun _=>⟨[],by simp⟩
theorem nR.trans {a b c:List (List ByteArray)} (h:nR a b) (k:nR b c):nR a c:=fun j=>by
  obtain ⟨t,e⟩:=h j
  obtain ⟨u,f⟩:=k j
  exact ⟨t++u,by rw [f,e,List.append_assoc]⟩
theorem Kl (z:Bool) (i:Nat) (n:Nt) (s:ByteArray):nR n.ib (kX z i n s).ib:=by
  unfold kX
  split
  · exact nR.refl _
  · split
    · split
      · rw [(nL _ _ _).2.1];exact nR.refl _
      · exact nR.refl _
    · split
      · rename_i b _ _ _
        intro j
        show∃t,(n.ib.set _ _).getD j []=_
        rw [ny]
        split
        · rename_i h
          rw [h.1]
          exact ⟨_,rfl⟩
        · exact ⟨[],by simp⟩
      · exact nR.refl _
theorem E5 (z:Bool) (i:Nat):∀(P:List ByteArray) (n:Nt),nR n.ib (P.foldl (kX z i) n).ib
  |[],n=>nR.refl _
  |s::P,n=>(Kl z i n s).trans (E5 z i P (kX z i n s))
theorem MP {n:Nt} (g:GN n) (a b:Int) (x:ByteArray):cZ (jA n a b x).1.ps≤cZ n.ps+1∧(a=2→cZ (jA n a b x).1.ps≤cZ n.ps)∧nR n.ib (jA n a b x).1.ib:=by
  have hs:cZ n.ps≤cZ n.ps+1:=by omega
  unfold jA
  split
  · rename_i ha
    refine ⟨?_,fun h=>by omega,?_⟩
    · unfold xb
      split
      · exact p9 _ _ _
      · exact hs
    · unfold xb
      split
      · rw [(nL _ _ _).2.1];exact nR.refl _
      · exact nR.refl _
  · split
    · split
      · split
        · rename_i h
          have:=g.pl
          have t:=Cg (n:=n) (i:=b.toNat) (by omega)
          refine ⟨by show cZ (qi n b.toNat).ps≤_;omega,fun _=>t,?_⟩
          exact E5 _ _ _ ⟨n.ks,n.ps.set b.toNat [],n.ss,n.ib,n.sd⟩
        · exact ⟨hs,fun _=>Int.le_refl _,nR.refl _⟩
      · rename_i h2
        split
        · split
          · refine ⟨p9 _ _ _,fun h=>absurd h h2,?_⟩
            show nR n.ib (lK n 0 _).ib
            rw [(nL _ _ _).2.1];exact nR.refl _
          · exact ⟨hs,fun _=>Int.le_refl _,nR.refl _⟩
        · exact ⟨hs,fun _=>Int.le_refl _,nR.refl _⟩
    · exact ⟨hs,fun _=>Int.le_refl _,nR.refl _⟩
theorem yD (l:List Int) (hl:l.length≤1048576):∀(d i:Nat),i+d=l.length→Ev (fun k=>dJ.l0 k l l (l.length:Int) (i:Int)) true
  |0,i,h=>bf (fun _=>rfl) (bO (by omega) (cu rfl))
  | d + 1, i, h => by
    refine bf (fun _=>rfl) (aC (by omega) (aC (by omega) (aC (by omega) (aC (by omega) (aC rfl ?_)))))
    rw [show wrap64 ((i:Int)+1)=((i+1:Nat):Int) by rw [IntWalk.wrap64_in _ (by omega)];rfl]
    exact yD l hl d (i+1) (by omega)
theorem Ga (l:List Int) (hl:l.length≤1048576):Ev (fun k=>dJ.f k l l) true:=by
  unfold dJ.f
  exact aC rfl (yD l hl l.length 0 (by omega))
theorem vZ (l:List ByteArray) (hl:l.length≤1048576):∀(d i:Nat),i+d=l.length→Ev (fun k=>cI.l0 k l l (l.length:Int) (i:Int)) true
  |0,i,h=>bf (fun _=>rfl) (bO (by omega) (cu rfl))
  | d + 1, i, h => by
    refine bf (fun _=>rfl) (aC (by omega) (aC (by omega) (aC (by omega) (aC (by omega) (aC rfl ?_)))))
    rw [show wrap64 ((i:Int)+1)=((i+1:Nat):Int) by rw [IntWalk.wrap64_in _ (by omega)];rfl]
    exact vZ l hl d (i+1) (by omega)
theorem qJ (l:List ByteArray) (hl:l.length≤1048576):Ev (fun k=>cI.f k l l) true:=by
  unfold cI.f
  exact aC rfl (vZ l hl l.length 0 (by omega))
theorem we (l:List (List ByteArray)) (hl:cj l):∀(d i:Nat),i+d=l.length→Ev (fun k=>bI.l0 k l l (l.length:Int) (i:Int)) true
  |0,i,h=>bf (fun _=>rfl) (bO (by omega) (cu rfl))
  | d + 1, i, h => by
    have hn:=hl.1
    have fl:i<l.length:=by omega
    have hz:=hl.2 _ (List.getElem_mem fl)
    refine bf (fun _=>rfl) (aC (by omega) (aC (by omega) (aC (by omega) (aC (by omega) ?_))))
    rw [show aN l (i:Int)=l[i] from fy l i _ fl,show wrap64 ((i:Int)+1)=((i+1:Nat):Int) by rw [IntWalk.wrap64_in _ (by omega)];rfl]
    exact bz (qJ _ hz) (aC rfl (we l hl d (i+1) (by omega)))
theorem qK (l:List (List ByteArray)) (hl:cj l):Ev (fun k=>bI.f k l l) true:=by
  unfold bI.f
  exact aC rfl (we l hl l.length 0 (by omega))
theorem vw (a:List Int) (b c d:List (List ByteArray)) (e:Int) (h:a.length≤1048576) (hb:cj b) (hc:cj c) (hd:cj d):Ev (fun k=>iq.f k a b c d e a b c d e) true:=by
  unfold iq.f
  exact bz (Ga a h) (aC rfl (bz (qK b hb) (aC rfl (bz (qK c hc) (aC rfl (bz (qK d hd) (aC rfl (cu (by simp)))))))))
def bytes (s:List Int):Prop:=∀x∈s,0≤x∧x≤255
theorem Fm {s:List Int} (h:∀x∈s,(Lit.int .u8 x).wf=true):bytes s:=by
  intro x hx
  have:=h x hx
  simp [Lit.wf,IntKind.min,IntKind.max,IntKind.bits,IntKind.signed] at this
  omega
theorem Kj (y:Int):0≤IntKind.u64.wrap y∧IntKind.u64.wrap y<18446744073709551616:=by
  simp only [IntKind.wrap,IntKind.bits,IntKind.signed]
  constructor
  · simp;omega
  · simp;omega
theorem Kg (n:Int) (h0:0≤n) (h1:n<2^62):IntKind.u64.wrap n=n:=by
  have:(2:Int)^62=4611686018427387904:=by decide
  exact nF n h0 (by omega)
theorem Yl (x:Int) (h0:0≤x) (h1:x<4611686018427387904):0≤Go.bits .and .u64 x 255∧Go.bits .and .u64 x 255≤255:=by
  obtain ⟨a,rfl⟩:=Int.eq_ofNat_of_zero_le h0
  have ha:a<2^62:=by
   have:(2:Nat)^62=4611686018427387904:=by decide
   omega
  have:=(bits_nat .u64 62 (by decide) Kg a 255 ha (by decide)).1
  rw [show ((255:Nat):Int)=255 from rfl] at this
  rw [this]
  have:a&&&255≤255:=Nat.and_le_right
  omega
theorem SG (y:Int):0≤wrap64 (Go.bits .and .u64 (IntKind.u64.wrap y/1099511627776) 255)∧wrap64 (Go.bits .and .u64 (IntKind.u64.wrap y/1099511627776) 255)≤255:=by
  have r:=Kj y
  have:=Yl (IntKind.u64.wrap y/1099511627776) (by omega) (by omega)
  rw [fK (by omega) (by omega)]
  exact this
theorem O2 {s:List Int} (hb:bytes s) (p:Int) (h0:0≤p) (h1:p<s.length):0≤rd s p∧rd s p≤255:=by
  obtain ⟨i,rfl⟩:=Int.eq_ofNat_of_zero_le h0
  rw [pJ s i (by omega)]
  exact hb _ (List.getElem_mem _)
theorem Nr (s:List Int) (hb:bytes s) (p x:Int) (h0:0≤p) (h1:p≤1152921504606846976):∃v x',fe.f s p x=some (v,p+1,x')∧0≤v∧v≤255:=by
  unfold fe.f
  rw [fK (x:=p+1) (by omega) (by omega)]
  by_cases h:p<(s.length:Int)
  · have:=O2 hb p h0 h
    rw [fK (x:=rd s p) (by omega) (by omega),if_pos h,if_pos h0,if_pos (by omega)]
    exact ⟨_,_,rfl,this⟩
  · rw [if_neg h,if_neg (by omega)]
    exact ⟨_,_,rfl,SG _⟩
theorem yu (v n:Int) (h0:0≤v) (h:1<n):0≤Int.tmod v n∧Int.tmod v n<n:=by
  rw [Int.tmod_eq_emod_of_nonneg h0]
  exact ⟨Int.emod_nonneg _ (by omega),Int.emod_lt_of_pos _ (by omega)⟩
theorem lW (s:List Int) (hb:bytes s) (p x n:Int) (h0:0≤p) (h1:p≤1152921504606846900):∃r p' x',aY.f s p x n=some (r,p',x')∧(0≤r∧(n≤1→r=0)∧(1<n→r<n))∧p≤p'∧p'≤p+2:=by
  unfold aY.f
  by_cases hn:n≤1
  · exact ⟨0,p,x,by rw [if_pos hn],⟨by omega,fun _=>rfl,fun h=>by omega⟩,by omega,by omega⟩
  · rw [if_neg hn]
    obtain ⟨v,x',e,v0,v1⟩:=Nr s hb p x h0 (by omega)
    rw [e,Option.bind_some]
    by_cases h2:n>200
    · obtain ⟨u,x'',e',u0,u1⟩:=Nr s hb (p+1) x' (by omega) (by omega)
      rw [if_pos h2]
      simp only [e',Option.bind_some]
      rw [if_neg (by omega),fK (x:=v*256) (by omega) (by omega),fK (by omega) (by omega)]
      have:=yu (v*256+u) n (by omega) (by omega)
      exact ⟨_,_,_,rfl,⟨this.1,fun h=>by omega,fun _=>this.2⟩,by omega,by omega⟩
    · rw [if_neg h2,if_neg (by omega)]
      have:=yu v n v0 (by omega)
      exact ⟨_,p+1,x',rfl,⟨this.1,fun h=>by omega,fun _=>this.2⟩,by omega,by omega⟩
theorem uM (s:List Int) (hb:bytes s) (p x:Int) (l:List Int) (hl:1≤l.length) (h0:0≤p) (h1:p≤1152921504606846900):∃v p' x',cB.f s p x l=some (v,p',x')∧v∈l∧p≤p'∧p'≤p+2:=by
  obtain ⟨r,p',x',e,⟨r0,r1,r2⟩,h2,h3⟩:=lW s hb p x (l.length:Int) h0 h1
  have hr:r<(l.length:Int):=by
    by_cases h:1<(l.length:Int)
    · exact r2 h
    · have:=r1 (by omega);omega
  refine ⟨rd l r,p',x',?_,?_,h2,h3⟩
  · unfold cB.f
    simp only [e,Option.bind_some]
    rw [if_pos r0,if_pos hr]
  · obtain ⟨i,rfl⟩:=Int.eq_ofNat_of_zero_le r0
    rw [pJ l i (by omega)]
    exact List.getElem_mem _
theorem Nn (s:List Int) (hb:bytes s) (p x n:Int) (h0:0≤p) (h1:p≤1152921504606846900):∃b p' x',eS.f s p x n=some (b,p',x')∧p≤p'∧p'≤p+2:=by
  obtain ⟨r,p',x',e,_,h2,h3⟩:=lW s hb p x n h0 h1
  exact ⟨r==0,p',x',by unfold eS.f;simp only [e,Option.bind_some],h2,h3⟩
theorem V6 (s:List Int) (hb:bytes s) (p x:Int) (l:List ByteArray) (hl:1≤l.length) (h0:0≤p) (h1:p≤1152921504606846900):∃v p' x',eL.f s p x l=some (v,p',x')∧p≤p'∧p'≤p+2:=by
  obtain ⟨r,p',x',e,⟨r0,r1,r2⟩,h2,h3⟩:=lW s hb p x (l.length:Int) h0 h1
  have hr:r<(l.length:Int):=by
    by_cases h:1<(l.length:Int)
    · exact r2 h
    · have:=r1 (by omega);omega
  refine ⟨aQ ByteArray.empty l r,p',x',?_,h2,h3⟩
  unfold eL.f
  simp only [e,Option.bind_some]
  rw [if_pos r0,if_pos hr]
theorem aaS (s:List Int) (hb:bytes s) (p x:Int) (h0:0≤p) (h1:p≤1152921504606846000):∃v p' x',jr.f s p x=some (v,p',x')∧p≤p'∧p'≤p+10:=by
  obtain ⟨a,p1,x1,e1,_,g1,g2⟩:=lW s hb p x 256 h0 (by omega)
  obtain ⟨b,p2,x2,e2,_,g3,g4⟩:=lW s hb p1 x1 256 (by omega) (by omega)
  obtain ⟨c,p3,x3,e3,_,g5,g6⟩:=lW s hb p2 x2 256 (by omega) (by omega)
  obtain ⟨d,p4,x4,e4,_,g7,g8⟩:=lW s hb p3 x3 256 (by omega) (by omega)
  obtain ⟨v,p5,x5,e5,_,g9,g10⟩:=uM s hb p4 x4 [0,1,65535,wrap64 (wrap64 (a*256)+b),wrap64 (wrap64 (c*256)+d)] (by simp) (by omega) (by omega)
  refine ⟨v,p5,x5,?_,by omega,by omega⟩
  unfold jr.f
  simp only [e1,e2,e3,e4,e5,Option.bind_some]
theorem Wg (s:List Int) (hb:bytes s):∀(d:Nat) (out:List Int) (p x:Int),out.length+d≤1000→0≤p→p+10*d≤1152921504606800000→∃l p' x',Ev (fun k=>bX.l0 k out (d:Int) s p x) (l,p',x')∧l.length≤out.length+d+1∧p≤p'∧p'≤p+10*d+10:=by
  intro d
  induction d with
  | zero =>
    intro out p x hl h0 h1
    obtain ⟨b,p1,x1,e,g1,g2⟩:=Nn s hb p x 20 h0 (by omega)
    cases b with
    | false =>
      refine ⟨out,p1,x1,?_,by omega,by omega,by omega⟩
      refine bf (fun k=>by rw [bX.l0]) (bO (by omega) ?_)
      refine jh e ?_
      refine bO (by simp) ?_
      exact cu rfl
    | true =>
      obtain ⟨v,p2,x2,e2,_,g3,g4⟩:=uM s hb p1 x1 [(-1),65536,5] (by decide) (by omega) (by omega)
      refine ⟨out++[v],p2,x2,?_,by simp,by omega,by omega⟩
      refine bf (fun k=>by rw [bX.l0]) (bO (by omega) ?_)
      refine jh e ?_
      refine aC rfl ?_
      refine jh e2 ?_
      refine aC (by omega) ?_
      exact cu rfl
  | succ d ih =>
    intro out p x hl h0 h1
    obtain ⟨v,p1,x1,e1,g1,g2⟩:=aaS s hb p x (by omega) (by omega)
    obtain ⟨l,p5,x5,E,R1,g9,g10⟩:=ih (out++[v]) p1 x1 (by simp;omega) (by omega) (by push_cast at h1;omega)
    refine ⟨l,p5,x5,?_,by simp at R1;omega,by omega,by push_cast;omega⟩
    refine bf (fun k=>by rw [bX.l0]) (aC (by omega) ?_)
    refine jh e1 ?_
    refine aC (by omega) ?_
    rw [fK (by omega) (by omega),show ((d+1:Nat):Int)-1=(d:Int) by omega]
    exact E
theorem Bl (s:List Int) (hb:bytes s) (p x:Int) (h0:0≤p) (h1:p≤1152921504606000000):∃l p' x',Ev (fun k=>bX.f k s p x) (l,p',x')∧l.length≤6∧p≤p'∧p'≤p+100:=by
  obtain ⟨r,p1,x1,e1,⟨r0,_,r2⟩,g1,g2⟩:=lW s hb p x 4 h0 (by omega)
  have:=r2 (by omega)
  obtain ⟨l,p2,x2,E,hl,g3,g4⟩:=Wg s hb (1+r.toNat) [] p1 x1 (by simp;omega) (by omega) (by omega)
  refine ⟨l,p2,x2,?_,by simp at hl;omega,by omega,by omega⟩
  unfold bX.f
  refine jh e1 ?_
  rw [show ((1+r.toNat:Nat):Int)=1+r by omega] at E
  dsimp only
  rw [fK (by omega) (by omega)]
  exact E
theorem MQ (s:List Int) (hb:bytes s) (d:Nat) (out:List mK) (p x a b:Int) (t:ByteArray) (ho:out.length+d≤1000) (h0:0≤p) (h1:p≤1152921504606800000):∃v p' x',(∀r,Ev (fun k=>aG.l0 k (out++[v]) (d:Int) s p' x') r→Ev (fun k=>aG.j2 k out ((d+1:Nat):Int) s p x a b t) r)∧p≤p'∧p'≤p+10:=by
  obtain ⟨c,p1,x1,e1,g1,g2⟩:=Nn s hb p x 40 h0 (by omega)
  cases c with
  | false =>
    refine ⟨⟨a,b,t⟩,p1,x1,fun r H=> ?_,by omega,by omega⟩
    refine bf (fun k=>by rw [aG.j2]) ?_
    refine jh e1 (bO (by simp) (aC (by omega) ?_))
    rw [show wrap64 (((d+1:Nat):Int)-1)=(d:Int) by rw [fK (by omega) (by omega)];omega]
    exact H
  | true =>
    obtain ⟨a2,p2,x2,e2,_,g3,g4⟩:=lW s hb p1 x1 5 (by omega) (by omega)
    obtain ⟨b2,p3,x3,e3,_,g5,g6⟩:=uM s hb p2 x2 [(-1),0,4,60] (by decide) (by omega) (by omega)
    obtain ⟨t2,p4,x4,e4,g7,g8⟩:=V6 s hb p3 x3 [(⟨#[]⟩:ByteArray),(⟨#[120]⟩:ByteArray)] (by decide) (by omega) (by omega)
    refine ⟨⟨a2,b2,t2⟩,p4,x4,fun r H=> ?_,by omega,by omega⟩
    refine bf (fun k=>by rw [aG.j2]) ?_
    refine jh e1 (aC rfl (jh e2 (jh e3 (jh e4 (aC (by omega) ?_)))))
    rw [show wrap64 (((d+1:Nat):Int)-1)=(d:Int) by rw [fK (by omega) (by omega)];omega]
    exact H
theorem IF (s:List Int) (hb:bytes s):∀(d:Nat) (out:List mK) (p x:Int),out.length+d≤900→0≤p→p+20*d≤1152921504606800000→∃l p' x',Ev (fun k=>aG.l0 k out (d:Int) s p x) (l,p',x')∧l.length≤out.length+d∧p≤p'∧p'≤p+20*d:=by
  intro d
  induction d with
  | zero =>
    intro out p x hl h0 h1
    exact ⟨out,p,x,bf (fun k=>by rw [aG.l0]) (bO (by omega) (cu rfl)),by omega,by omega,by omega⟩
  | succ d ih =>
    intro out p x hl h0 h1
    obtain ⟨a,p1,x1,e1,_,g1,g2⟩:=uM s hb p x [1,1,1,2,2,2,3] (by decide) (by omega) (by push_cast at h1;omega)
    obtain ⟨b,p2,x2,e2,_,g3,g4⟩:=lW s hb p1 x1 4 (by omega) (by push_cast at h1;omega)
    by_cases ha:a=1
    · obtain ⟨t,p3,x3,e3,g5,g6⟩:=V6 s hb p2 x2 [(⟨#[97]⟩:ByteArray),(⟨#[98]⟩:ByteArray),(⟨#[]⟩:ByteArray),(⟨#[104,101,108,108,111]⟩:ByteArray),(⟨#[102,111,117,114,116,101,101,110,32,98,121,116,101,115]⟩:ByteArray),(⟨#[102,105,102,116,101,101,110,32,98,121,116,101,115,46,46]⟩:ByteArray),(⟨#[128]⟩:ByteArray)] (by decide) (by omega) (by push_cast at h1;omega)
      obtain ⟨v,p4,x4,H,g7,g8⟩:=MQ s hb d out p3 x3 a b t (by omega) (by omega) (by push_cast at h1;omega)
      obtain ⟨l,p5,x5,E,R1,g9,g10⟩:=ih (out++[v]) p4 x4 (by simp;omega) (by omega) (by push_cast at h1;omega)
      refine ⟨l,p5,x5,?_,by simp at R1;omega,by omega,by push_cast;omega⟩
      refine bf (fun k=>by rw [aG.l0]) (aC (by omega) ?_)
      exact (jh e1 (jh e2 (aC ha (jh e3 (H _ E)))))
    · obtain ⟨v,p4,x4,H,g7,g8⟩:=MQ s hb d out p2 x2 a b (⟨#[]⟩:ByteArray) (by omega) (by omega) (by push_cast at h1;omega)
      obtain ⟨l,p5,x5,E,R1,g9,g10⟩:=ih (out++[v]) p4 x4 (by simp;omega) (by omega) (by push_cast at h1;omega)
      refine ⟨l,p5,x5,?_,by simp at R1;omega,by omega,by push_cast;omega⟩
      refine bf (fun k=>by rw [aG.l0]) (aC (by omega) ?_)
      exact (jh e1 (jh e2 (bO ha (H _ E))))
theorem yP (s:List Int) (hb:bytes s) (p x:Int) (h0:0≤p) (h1:p≤1152921504606000000):∃l p' x',Ev (fun k=>aG.f k s p x) (l,p',x')∧l.length≤62∧p≤p'∧p'≤p+2000:=by
  obtain ⟨r,p1,x1,e1,⟨r0,_,r2⟩,g1,g2⟩:=lW s hb p x 24 h0 (by omega)
  have:=r2 (by omega)
  obtain ⟨b,p2,x2,e2,g3,g4⟩:=Nn s hb p1 x1 20 (by omega) (by omega)
  unfold aG.f
  cases b with
  | true =>
    obtain ⟨q,p3,x3,e3,⟨q0,_,q2⟩,g5,g6⟩:=lW s hb p2 x2 3 (by omega) (by omega)
    have:=q2 (by omega)
    obtain ⟨l,p4,x4,E,hl,g7,g8⟩:=IF s hb (59+q.toNat) [] p3 x3 (by simp;omega) (by omega) (by omega)
    rw [show ((59+q.toNat:Nat):Int)=59+q by omega] at E
    refine ⟨l,p4,x4,jh e1 (jh e2 (aC rfl (jh e3 (bf (fun k=>rfl) ?_)))),by simp at hl;omega,by omega,by omega⟩
    dsimp only
    rw [fK (by omega) (by omega)]
    exact E
  | false =>
    obtain ⟨l,p4,x4,E,hl,g7,g8⟩:=IF s hb r.toNat [] p2 x2 (by simp;omega) (by omega) (by omega)
    rw [show ((r.toNat:Nat):Int)=r by omega] at E
    exact ⟨l,p4,x4,jh e1 (jh e2 (bO (by simp) (bf (fun k=>rfl) E))),by simp at hl;omega,by omega,by omega⟩
def vv (n:Nt):Prop:=n.ks.length≤1048576∧cj n.ps∧cj n.ss∧cj n.ib
theorem yB {l:List (List ByteArray)} (h:cj l) (i:Nat) {x:List ByteArray} (hx:x.length≤1048576):cj (l.set i x):=⟨by rw [List.length_set];exact h.1,fun y hy=>by
  rcases List.mem_or_eq_of_mem_set hy with h1|h1
  · exact h.2 y h1
  · rw [h1];exact hx⟩
theorem Nu (s:List Int) (hb:bytes s) {m:Nt} (g:GN m) (b1 b2:Int) (h0:0≤b1) (h1:b1≤1152921504606840000):∃n p' x',bC.s s m b1 b2=some (n,p',x')∧vv n∧b1≤p'∧p'≤b1+10:=by
  have gs:=mb g
  obtain ⟨t,p1,x1,e1,_,g1,g2⟩:=lW s hb b1 b2 30 h0 (by omega)
  unfold bC.s
  rw [e1,Option.bind_some]
  dsimp only
  by_cases t0:t=0
  · obtain ⟨v,p2,x2,e2,_,g3,g4⟩:=uM s hb p1 x1 [-1,60,61] (by decide) (by omega) (by omega)
    rw [if_pos t0,e2]
    exact ⟨_,p2,x2,rfl,gs,by omega,by omega⟩
  rw [if_neg t0]
  by_cases t1:t=1
  · obtain ⟨x,p2,x2,e2,g3,g4⟩:=V6 s hb p1 x1 [(⟨#[]⟩:ByteArray),(⟨#[120]⟩:ByteArray),(⟨#[115,105,120,116,101,101,110,32,98,121,116,101,115,46,46,46]⟩:ByteArray)] (by decide) (by omega) (by omega)
    have hi:0<m.ib.length:=by rw [g.il];omega
    have hl:(m.ib.getD 0 []).length≤60:=(g.bx _ (by rw [List.getD_eq_getElem?_getD,List.getElem?_eq_getElem hi];exact List.getElem_mem hi)).1
    rw [if_pos t1,if_pos ⟨hi,by omega⟩,e2]
    exact ⟨_,p2,x2,rfl,⟨gs.1,gs.2.1,gs.2.2.1,yB gs.2.2.2 0 (by rw [List.length_append,List.length_singleton];omega)⟩,by omega,by omega⟩
  rw [if_neg t1]
  by_cases t2:t=2
  · have hi:0<m.ps.length:=by rw [g.pl];exact g.k1
    have hl:(m.ps.getD 0 []).length≤100:=(g.po 0).1
    rw [if_pos t2,if_pos ⟨hi,by omega⟩]
    exact ⟨_,p1,x1,rfl,⟨gs.1,yB gs.2.1 0 (by rw [List.length_append,List.length_singleton];omega),gs.2.2⟩,by omega,by omega⟩
  · rw [if_neg t2]
    exact ⟨_,p1,x1,rfl,gs,by omega,by omega⟩
theorem Ns (s:List Int) (hb:bytes s) (p x:Int) (h0:0≤p) (h1:p≤1152921504605000000):∃n p' x',Ev (fun k=>bC.f k s p x) (n,p',x')∧vv n∧p≤p'∧p'≤p+3000:=by
  obtain ⟨K,p1,x1,e1,h2,g1,g2⟩:=Bl s hb p x h0 (by omega)
  obtain ⟨l,p2,x2,e2,h3,g3,g4⟩:=yP s hb p1 x1 (by omega) (by omega)
  have e3:=Rb K l (by omega)
  unfold bC.f
  by_cases c:(mC 1 4 (K.length:Int)&&K.all (mC 0 65535))=true∧l.length≤60
  · have c1:=c.1
    rw [Bool.and_eq_true] at c1
    obtain ⟨n,p3,x3,e4,h4,g5,g6⟩:=Nu s hb (DZ l (Bk K) [] (Io c1.1 c1.2)).1 p2 x2 (by omega) (by omega)
    unfold IM at e3
    rw [if_pos c] at e3
    exact ⟨n,p3,x3,bz e1 (bz e2 (bz e3 (aC rfl (Oz e4)))),h4,by omega,by omega⟩
  · unfold IM at e3
    rw [if_neg c] at e3
    have e5:=yy [1,2] (by decide)
    obtain ⟨n,p3,x3,e4,h4,g5,g6⟩:=Nu s hb (Io (K:=[1,2]) (by decide) (by decide)) p2 x2 (by omega) (by omega)
    have e6:ql [1,2]=([1,2],List.replicate 2 [],List.replicate 2 [],List.replicate 4 [],0,true):=if_pos (by decide)
    rw [e6] at e5
    exact ⟨n,p3,x3,bz e1 (bz e2 (bz e3 (bO (by simp) (bz e5 (Oz e4))))),h4,by omega,by omega⟩
theorem HT (s:List Int) (hb:bytes s):∃n,Ev (fun k=>gO.f k s) n∧vv n:=by
  obtain ⟨n,p1,x1,e1,h,_,_⟩:=Ns s hb 0 0 (by omega) (by omega)
  refine ⟨n,?_,h⟩
  unfold gO.f
  exact bz e1 (cu rfl)
theorem DC (s:List Int) (hb:bytes s):∃n,Ev (fun k=>gM.f k s) n∧vv n:=by
  obtain ⟨n,e,h⟩:=HT s hb
  exact ⟨n,e,h⟩
theorem E6 (s:List Int) (hb:bytes s):∃n u,Ev (fun k=>gN.f k s) (n,u)∧vv n:=by
  obtain ⟨n,p1,x1,e1,h,g1,g2⟩:=Ns s hb 0 0 (by omega) (by omega)
  obtain ⟨u,p2,x2,e2,_,_,_⟩:=lW s hb p1 x1 6 (by omega) (by omega)
  refine ⟨n,wrap64 (u-1),?_,h⟩
  unfold gN.f
  exact bz e1 (jh e2 (cu rfl))
theorem HP (s:List Int) (hb:bytes s):∃n st,Ev (fun k=>dr.f k s) (n,st)∧vv n:=by
  obtain ⟨n,p1,x1,e1,h,g1,g2⟩:=Ns s hb 0 0 (by omega) (by omega)
  obtain ⟨l,p2,x2,e2,_,_,_⟩:=yP s hb p1 x1 (by omega) (by omega)
  exact ⟨n,_,by unfold dr.f;exact bz e1 (bz e2 (cu rfl)),h⟩
theorem Lp (s:List Int) (hb:bytes s):∃K,Ev (fun k=>iS.f k s) K∧K.length≤6:=by
  obtain ⟨K,p1,x1,e1,h,_,_⟩:=Bl s hb 0 0 (by omega) (by omega)
  refine ⟨K,?_,h⟩
  unfold iS.f
  exact bz e1 (cu rfl)
theorem eif {α:Type} {c:Nat→Prop} [∀k,Decidable (c k)] {g f:Nat→Option α} {r:α} (h:∃K,∀k,K≤k→c k) (e:Ev g r):Ev (fun k=>if c k then g k else f k) r:=by
  obtain ⟨K,h⟩:=h
  obtain ⟨L,e⟩:=e
  exact ⟨max K L,fun k hk=>by simp only [if_pos (h k (by omega))];exact e k (by omega)⟩
theorem abt (n:Nat) (c:Nat→Nat→Prop) (h:∀j,j<n→∃K,∀k,K≤k→c k j):∃K,∀k,K≤k→∀j,j<n→c k j:=by
  induction n with
  |zero=>exact ⟨0,fun _ _ j hj=>absurd hj (Nat.not_lt_zero _)⟩
  | succ n ih =>
    obtain ⟨K,hK⟩:=ih (fun j hj=>h j (by omega))
    obtain ⟨L,hL⟩:=h n (by omega)
    refine ⟨max K L,fun k hk j hj=> ?_⟩
    by_cases e:j=n
    · subst e;exact hL k (by omega)
    · exact hK k (by omega) j (by omega)
theorem Wa {n x:Nt} (hp:nR n.ib x.ib) (hx:∀j,(x.ib.getD j []).length≤1048576) (j:Nat) (hj:j<x.ib.length):Ev (fun k=>cl.u k n x j) true:=by
  obtain ⟨t,e⟩:=hp j
  have en:aN n.ib (j:Int)=n.ib.getD j []:=by unfold aN;rw [Int.toNat_natCast]
  have ex:aN x.ib (j:Int)=n.ib.getD j []++t:=by unfold aN;rw [Int.toNat_natCast];exact e
  have hl:=hx j
  rw [e,List.length_append] at hl
  unfold cl.u
  rw [en,ex]
  refine aC ⟨hj,by rw [List.length_append];omega⟩ ?_
  rw [List.take_left]
  exact qJ _ (by omega)
theorem Wc {n:Nt} (g:GN n) (a b:Int) (x:ByteArray):Ev (fun k=>cl.m k n (jA n a b x).1 a) true:=by
  have gx:=uZ g a b x
  obtain ⟨l1,l2,l3⟩:=MP g a b x
  generalize (jA n a b x).1=y at*
  obtain ⟨p0,p1,p2,p3⟩:=mb g
  obtain ⟨s0,s1,s2,s3⟩:=mb gx
  have e1:=yY _ _ _ _ n.sd p0 p1 p2 p3
  have e2:=yY _ _ _ _ y.sd s0 s1 s2 s3
  have e3:=oU _ _ _ _ y.sd s0 s1 s2 s3
  have q1:nI n.ks n.ps n.ss n.ib n.sd=(cZ n.ps,true):=if_pos (z7 g)
  have q2:nI y.ks y.ps y.ss y.ib y.sd=(cZ y.ps,true):=if_pos (z7 gx)
  rw [q1] at e1
  rw [q2] at e2
  rw [z7 gx] at e3
  have b0:=wC n.ps
  have b1:=EG n.ps p1
  have hk:=g.k4;have hpl:=g.pl
  have hw:wrap64 (cZ n.ps+1)=cZ n.ps+1:=fK (by omega) (by omega)
  obtain ⟨K,hK⟩:=abt n.ib.length (fun k j=>cl.u k n y j=some true) (fun j hj=>Wa l3 (fun j=>by
    by_cases c:j<y.ib.length
    · rw [List.getD_eq_getElem?_getD,List.getElem?_eq_getElem c]
      exact s3.2 _ (List.getElem_mem c)
    · rw [List.getD_eq_getElem?_getD,List.getElem?_eq_none (by omega)];simp) j (by have:=g.il;have:=gx.il;omega))
  unfold cl.m
  exact bz e1 (bz e2 (bz e3 (eif ⟨K,fun k hk=>⟨⟨rfl,rfl,rfl⟩,⟨by rw [hw];exact l1,l2⟩,by rw [g.il];omega,hK k hk⟩⟩ (cu rfl))))
theorem Wb (s:List Int) (hb:bytes s):Ev (fun k=>cl.r k s) true:=by
  obtain ⟨y,d1,⟨y0,y1,y2,y3⟩⟩:=DC s hb
  obtain ⟨v,u,d2,⟨v0,v1,v2,v3⟩⟩:=E6 s hb
  obtain ⟨K,d3,hK⟩:=Lp s hb
  have e1:=KG y y0 y1 y2 y3
  have e2:=KF y y0 y1 y2 y3
  obtain ⟨z0,z1,z2,z3⟩:=AD y
  have e3:=yY y.ks y.ps y.ss y.ib y.sd y0 y1 y2 y3
  have e4:=MW y.ks y.ps y.ss y.ib y.sd y0 y1 y2 y3
  have e5:=NN v.ks v.ps v.ss v.ib v.sd u v0 v1 v2 v3
  have e6:=MX v.ks v.ps v.ss v.ib v.sd u v0 v1 v2 v3
  have hl:=CI v.ks v.ps v.ss v.ib v.sd u
  have e7:=NL K (by omega)
  have e8:=yy K (by omega)
  obtain ⟨k0,k1,k2,k3⟩:=ED K (by omega)
  have f1:=vw (jN y).1.ks (jN y).1.ps (jN y).1.ss (jN y).1.ib (jN y).1.sd z0 z1 z2 z3
  have f2:=qJ _ hl
  generalize jN y=Z at*
  generalize nI y.ks y.ps y.ss y.ib y.sd=C at*
  generalize tr v.ks v.ps v.ss v.ib v.sd u=I at*
  generalize ql K=N at*
  obtain ⟨n1,n2,n3,n4,n5,n6⟩:=N
  have f3:=vw n1 n2 n3 n4 n5 k0 k1 k2 k3
  unfold cl.r
  exact bz d1 (bz e1 (bz e2 (bz e3 (bz e4 (bz d2 (bz e5 (bz e6 (bz d3 (bz e7 (bz e8 (bz f1 (bz f2 (bz f3 (aC ⟨⟨rfl,rfl⟩,⟨rfl,rfl⟩,⟨rfl,rfl⟩,rfl,rfl⟩ (cu rfl)))))))))))))))
theorem YU:cl.Pure:=by
  intro s t _ _ hs _ _ ht
  have hs:=Fm hs
  have ht:=Fm ht
  apply Ev.rounds
  unfold cl.f
  by_cases hb:wrap64 ((s.length:Int)+(t.length:Int))>1048576
  · exact aC hb (cu rfl)
  refine bO hb ?_
  obtain ⟨n,st,d1,⟨n0,n1,n2,n3⟩⟩:=HP s hs
  have e1:=MS n st.f0 st.f1 st.f2 n0 n1 n2 n3
  have e2:=MR n st.f0 st.f1 st.f2 n0 n1 n2 n3
  have hm:(mm n st.f0 st.f1 st.f2).2=true→Ev (fun k=>cl.m k n (mm n st.f0 st.f1 st.f2).1 st.f0) true:=by
    unfold mm
    split
    · rename_i c
      intro _
      exact Wc (mQ c.1) _ _ _
    · intro h;cases h
  obtain ⟨x0,x1,x2,x3⟩:=En n st.f0 st.f1 st.f2
  have e3:=vw (mm n st.f0 st.f1 st.f2).1.ks (mm n st.f0 st.f1 st.f2).1.ps (mm n st.f0 st.f1 st.f2).1.ss (mm n st.f0 st.f1 st.f2).1.ib (mm n st.f0 st.f1 st.f2).1.sd x0 x1 x2 x3
  generalize mm n st.f0 st.f1 st.f2=X at*
  obtain ⟨x,q⟩:=X
  have e4:=oU n.ks n.ps n.ss n.ib n.sd n0 n1 n2 n3
  have e5:=oP n.ks n.ps n.ss n.ib n.sd n0 n1 n2 n3
  refine bz d1 (bz e1 (bz e2 (bz e3 (bz e4 (bz e5 (eif ?_ (Wb t ht)))))))
  cases q with
  |false=>exact ⟨0,fun _ _=>⟨⟨rfl,rfl,rfl⟩,fun h=>by cases h⟩⟩
  | true =>
    obtain ⟨K0,h0⟩:=hm rfl
    exact ⟨K0,fun k hk=>⟨⟨rfl,rfl,rfl⟩,fun _=>h0 k hk⟩⟩
end Go.Proofs.YtihekdlcfohkkaaGreatDoor.Pure
