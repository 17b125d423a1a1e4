-- PRINTED BY print.sh 35421559b90ae4d0a3588c463048766b98c2df88dd9212a6774a882060cdf62d: not written by this session
import Derived.Test.YtihekdlcfohkkaaGreatDoorWWords
namespace Go.Proofs.YtihekdlcfohkkaaGreatDoorW.PrintWords
theorem bN.one {α:Type} {R:α→List Value→Prop} {ps:List α} {cs:List Value} {p:α} {v:Value} (hp:R p [v]) (h:bN R 1 ps cs):bN R 1 (p::ps) (v::cs):=by
  refine ⟨by simp [h.1],fun j q hq=> ?_⟩
  cases j with
  | zero =>
    simp only [List.getElem?_cons_zero,Option.some.injEq] at hq
    subst hq
    simpa using hp
  | succ j =>
    simp only [List.getElem?_cons_succ] at hq
    have h1:=h.2 j q hq
    simpa [Nat.mul_one] using h1
theorem bN.front {α:Type} {R:α→List Value→Prop} {size:Nat} {ps:List α} {cs c all:List Value} {p:α} (hp:R p c) (hc:c.length=size) (h:bN R size ps cs) (ha:c++cs=all):bN R size (p::ps) all:=by
  subst ha
  refine ⟨by rw [List.length_append,hc,h.1,List.length_cons,Nat.succ_mul,Nat.add_comm],fun j q hq=> ?_⟩
  cases j with
  | zero =>
    simp only [List.getElem?_cons_zero,Option.some.injEq] at hq
    subst hq
    rw [Nat.zero_mul,List.drop_zero,List.take_append_of_le_length (by omega),List.take_of_length_le (by omega)]
    exact hp
  | succ j =>
    simp only [List.getElem?_cons_succ] at hq
    have h1:=h.2 j q hq
    rw [Nat.succ_mul,List.drop_append,List.drop_of_length_le (by rw [hc];exact Nat.le_add_left _ _),List.nil_append,hc,Nat.add_sub_cancel]
    exact h1
theorem bN.c2 {α:Type} {R:α→List Value→Prop} {ps:List α} {cs:List Value} {p:α} {va vb:Value} (hp:R p [va,vb]) (h:bN R 2 ps cs):bN R 2 (p::ps) (va::vb::cs):=bN.front hp rfl h rfl
theorem bN.c3 {α:Type} {R:α→List Value→Prop} {ps:List α} {cs:List Value} {p:α} {va vb vc:Value} (hp:R p [va,vb,vc]) (h:bN R 3 ps cs):bN R 3 (p::ps) (va::vb::vc::cs):=bN.front hp rfl h rfl
theorem bN.c4 {α:Type} {R:α→List Value→Prop} {ps:List α} {cs:List Value} {p:α} {va vb vc vd:Value} (hp:R p [va,vb,vc,vd]) (h:bN R 4 ps cs):bN R 4 (p::ps) (va::vb::vc::vd::cs):=bN.front hp rfl h rfl
theorem bN.c5 {α:Type} {R:α→List Value→Prop} {ps:List α} {cs:List Value} {p:α} {va vb vc vd ve:Value} (hp:R p [va,vb,vc,vd,ve]) (h:bN R 5 ps cs):bN R 5 (p::ps) (va::vb::vc::vd::ve::cs):=bN.front hp rfl h rfl
theorem bN.c6 {α:Type} {R:α→List Value→Prop} {ps:List α} {cs:List Value} {p:α} {va vb vc vd ve vf:Value} (hp:R p [va,vb,vc,vd,ve,vf]) (h:bN R 6 ps cs):bN R 6 (p::ps) (va::vb::vc::vd::ve::vf::cs):=bN.front hp rfl h rfl
theorem bN.c7 {α:Type} {R:α→List Value→Prop} {ps:List α} {cs:List Value} {p:α} {va vb vc vd ve vf vg:Value} (hp:R p [va,vb,vc,vd,ve,vf,vg]) (h:bN R 7 ps cs):bN R 7 (p::ps) (va::vb::vc::vd::ve::vf::vg::cs):=bN.front hp rfl h rfl
theorem bN.c8 {α:Type} {R:α→List Value→Prop} {ps:List α} {cs:List Value} {p:α} {va vb vc vd ve vf vg vh:Value} (hp:R p [va,vb,vc,vd,ve,vf,vg,vh]) (h:bN R 8 ps cs):bN R 8 (p::ps) (va::vb::vc::vd::ve::vf::vg::vh::cs):=bN.front hp rfl h rfl
theorem bN.c9 {α:Type} {R:α→List Value→Prop} {ps:List α} {cs:List Value} {p:α} {va vb vc vd ve vf vg vh vi:Value} (hp:R p [va,vb,vc,vd,ve,vf,vg,vh,vi]) (h:bN R 9 ps cs):bN R 9 (p::ps) (va::vb::vc::vd::ve::vf::vg::vh::vi::cs):=bN.front hp rfl h rfl
theorem bN.gu {α:Type} {R:α→List Value→Prop} {ps:List α} {cs:List Value} {p:α} {va vb vc vd ve vf vg vh vi vj:Value} (hp:R p [va,vb,vc,vd,ve,vf,vg,vh,vi,vj]) (h:bN R 10 ps cs):bN R 10 (p::ps) (va::vb::vc::vd::ve::vf::vg::vh::vi::vj::cs):=bN.front hp rfl h rfl
end Go.Proofs.YtihekdlcfohkkaaGreatDoorW.PrintWords
