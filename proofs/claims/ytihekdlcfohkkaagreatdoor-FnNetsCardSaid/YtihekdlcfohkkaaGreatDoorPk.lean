import Derived.Test.YtihekdlcfohkkaaGreatDoorWMore
import Derived.Laws.BitsLemmas
namespace Go.Proofs.YtihekdlcfohkkaaGreatDoor.Pk
open Go.RowKit Go.Proofs.YtihekdlcfohkkaaGreatDoorW.PrintWords Go.Proofs.YtihekdlcfohkkaaGreatDoorW.PrintMore
theorem fK {x:Int} (h0: -9223372036854775808≤x) (h1:x≤9223372036854775807):wrap64 x=x:=by unfold wrap64;omega
theorem aC {α:Type} {c:Prop} [Decidable c] {g f:Nat→Option α} {r:α} (h:c) (e:Ev g r):Ev (fun k=>if c then g k else f k) r:=by
  obtain ⟨K,e⟩:=e
  exact ⟨K,fun k hk=>by simp only [if_pos h];exact e k hk⟩
theorem bO {α:Type} {c:Prop} [Decidable c] {g f:Nat→Option α} {r:α} (h:¬c) (e:Ev f r):Ev (fun k=>if c then g k else f k) r:=by
  obtain ⟨K,e⟩:=e
  exact ⟨K,fun k hk=>by simp only [if_neg h];exact e k hk⟩
theorem jh {α β:Type} {x:Option α} {a:α} {f:Nat→α→Option β} {r:β} (h:x=some a) (e:Ev (fun k=>f k a) r):Ev (fun k=>x.bind (f k)) r:=by
  subst h
  exact e
theorem bz {α β:Type} {g:Nat→Option α} {f:Nat→α→Option β} {a:α} {r:β} (h:Ev g a) (k:Ev (fun n=>f n a) r):Ev (fun n=>(g n).bind (f n)) r:=Ev.bind h k
theorem cu {α:Type} {r r':α} (h:r=r'):Ev (fun _=>some r) r':=h▸Ev.now r
theorem Oz {α:Type} {x:Option α} {r:α} (h:x=some r):Ev (fun _=>x) r:=⟨0,fun _ _=>h⟩
theorem bf {α:Type} {g f:Nat→Option α} {r:α} (h:∀k,g (k+1)=f k) (k:Ev f r):Ev g r:=Ev.step h k
theorem Kh (n:Int) (h0:0≤n) (h1:n<2^62):IntKind.i64.wrap n=n:=by
  rw [IntKind.wrap_i64]
  have:(2:Int)^62=4611686018427387904:=by decide
  omega
theorem aco (a b:Nat) (ha:a<2^62) (hb:b<2^62):Go.bits .xor .i64 (a:Int) (b:Int)=((a^^^b:Nat):Int):=by
  have hp:(2:Nat)^62≤2^IntKind.i64.bits:=Nat.pow_le_pow_right (by decide) (by decide)
  have ha':a%2^IntKind.i64.bits=a:=Nat.mod_eq_of_lt (Nat.lt_of_lt_of_le ha hp)
  have Dz:b%2^IntKind.i64.bits=b:=Nat.mod_eq_of_lt (Nat.lt_of_lt_of_le hb hp)
  simp only [Go.bits,BitVec.ofInt_natCast,BitVec.toNat_xor,BitVec.toNat_ofNat,ha',Dz]
  exact Kh _ (Int.natCast_nonneg _) (by exact_mod_cast Nat.xor_lt_two_pow ha hb)
theorem nF (n:Int) (h0:0≤n) (h1:n<9223372036854775808):IntKind.u64.wrap n=n:=by
  simp [IntKind.wrap,IntKind.bits,IntKind.signed]
  omega
theorem pJ (xs:List Int) (i:Nat) (h:i<xs.length):rd xs (i:Int)=xs[i]:=by
  simp [rd,List.getD_eq_getElem?_getD,List.getElem?_eq_getElem h]
theorem fy {α:Type} (xs:List α) (i:Nat) (z:α) (h:i<xs.length):xs.getD ((i:Int)).toNat z=xs[i]:=by
  simp [List.getD_eq_getElem?_getD,List.getElem?_eq_getElem h]
end Go.Proofs.YtihekdlcfohkkaaGreatDoor.Pk
