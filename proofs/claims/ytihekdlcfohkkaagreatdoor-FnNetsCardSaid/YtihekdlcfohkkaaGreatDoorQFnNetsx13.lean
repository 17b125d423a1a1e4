-- printed by this session's own program (wip/tools/pp.py: the kit's print.py with changes); Lean checks it
import Derived.Test.YtihekdlcfohkkaaGreatDoorQFnNetsx0
import Derived.Test.YtihekdlcfohkkaaGreatDoorQFnNetsx1
import Derived.Test.YtihekdlcfohkkaaGreatDoorQFnNetsx2
import Derived.Test.YtihekdlcfohkkaaGreatDoorQFnNetsx7
import Derived.Test.YtihekdlcfohkkaaGreatDoorQFnNetsx12
namespace Go.Proofs.YtihekdlcfohkkaaGreatDoor.QFnNets
open Go.RowKit Go.Proofs.YtihekdlcfohkkaaGreatDoorW.PrintWords Go.Proofs.YtihekdlcfohkkaaGreatDoorW.PrintLast Go.Proofs.YtihekdlcfohkkaaGreatDoorW.PrintMore
attribute [local go_sem] max2_int min2_int max_two min_two max_three min_three max_four min_four strLss strGtr strLeq strGeq
set_option linter.unusedVariables false
set_option linter.unusedSimpArgs false
set_option maxHeartbeats 16000000
set_option maxRecDepth 100000
def xy (W:World) (B g:Nat) (x:Value) (n:Nat):Prop:=Kd.S (Kd.slice 9 Kd.string) 62 W B (fun k_=>k_=g) x (List.replicate n [])∧g<W.heap.size
theorem xy.step {W W1:World} {B g:Nat} {x:Value} {n:Nat} (h:xy W B g x n) (hb:Below W.heap.size W W1):xy W1 B g x n:=⟨Kd.xV h.1 hb,Nat.lt_of_lt_of_le h.2 hb.size⟩
structure uW (w0 W:World) (gr:Nat) (l0:List Int) (b0 b2 b5 b8 b9 D6 zL:Bool) (x4 x5 x7 iO iz kD kV:Value) (g5 g8 g9 gx:Nat):Prop where
  below:Below w0.heap.size w0 W
  Ll:W.heap[gr]? =some (.cells #[.slice none 0 0,.slice none 0 0,.slice none 0 0,.slice none 0 0,.int .i64 0] 27 (0,0))
  h0:b0=true→b2=false→Kd.R (Kd.int .i64) 3 W w0.heap.size (fun _=>True) x5 []
  h2:b2=true→Kd.R (Kd.int .i64) 3 W w0.heap.size (fun _=>True) x7 l0
  h5:b5=true→xy W w0.heap.size g5 iO l0.length
  h8:b8=true→xy W w0.heap.size g8 iz l0.length
  h9:b9=true→xy W w0.heap.size g9 kD 4
  So:D6=true→(b2=true∧b5=true∧b8=true∧b9=true)∧kV= .agg #[x7,iO,iz,kD,.int .i64 0]
  Jz:zL=true→x4= .pointer (some ⟨gx,0,none⟩)∧W.heap[gx]? =some (.cells #[.slice none 0 0,.slice none 0 0,.slice none 0 0,.slice none 0 0,.int .i64 0] 27 (0,0))∧w0.heap.size≤gx∧gx≠gr
  Ru:b5=true→b8=true→g5≠g8
  Rt:b5=true→b9=true→g5≠g9
  Rs:b8=true→b9=true→g8≠g9
section
variable {w0 W W1:World} {gr:Nat} {l0:List Int} {b0 b2 b5 b8 b9 D6 zL:Bool} {x4 x5 x7 iO iz kD kV v:Value} {g5 g8 g9 gx:Nat}
theorem uW.step (h:uW w0 W gr l0 b0 b2 b5 b8 b9 D6 zL x4 x5 x7 iO iz kD kV g5 g8 g9 gx) (hb:Below W.heap.size W W1):uW w0 W1 gr l0 b0 b2 b5 b8 b9 D6 zL x4 x5 x7 iO iz kD kV g5 g8 g9 gx:=
  ⟨aH h.below hb,cW h.Ll hb,fun a b=>Kd.fF (h.h0 a b) hb,fun a=>Kd.fF (h.h2 a) hb,fun a=>(h.h5 a).step hb,fun a=>(h.h8 a).step hb,fun a=>(h.h9 a).step hb,h.So,fun a=>⟨(h.Jz a).1,cW (h.Jz a).2.1 hb,(h.Jz a).2.2⟩,h.Ru,h.Rt,h.Rs⟩
theorem uW.afm (h:uW w0 W gr l0 false b2 b5 b8 b9 D6 zL x4 x5 x7 iO iz kD kV g5 g8 g9 gx) (hu:Kd.R (Kd.int .i64) 3 W1 W.heap.size (fun _=>True) v []) (hb:Below W.heap.size W W1):uW w0 W1 gr l0 true b2 b5 b8 b9 D6 zL x4 v x7 iO iz kD kV g5 g8 g9 gx:=
  have h':=h.step hb
  ⟨h'.below,h'.Ll,fun _ _=>Kd.dz hu h.below.size,h'.h2,h'.h5,h'.h8,h'.h9,h'.So,h'.Jz,h'.Ru,h'.Rt,h'.Rs⟩
theorem uW.afl (h:uW w0 W gr l0 true false b5 b8 b9 D6 zL x4 x5 x7 iO iz kD kV g5 g8 g9 gx) (hu:Kd.R (Kd.int .i64) 3 W1 w0.heap.size (fun _=>True) v l0) (hb:Below w0.heap.size w0 W1) (hg:W.grownBy W1 x5.ownBlock):uW w0 W1 gr l0 true true b5 b8 b9 D6 zL x4 x5 v iO iz kD kV g5 g8 g9 gx:=
  have hx:=h.h0 rfl rfl
  have hS:∀ {g:Nat} {x:Value} {n:Nat},xy W w0.heap.size g x n→xy W1 w0.heap.size g x n:=fun q=>⟨Kd.l8 (Kd.SI q.1 (Kd.xW hx) (by decide) hg) (fun _ a=>a),Nat.lt_of_lt_of_le q.2 hg.size⟩
  ⟨hb,ej h.Ll hg (Kd.mS hx h.Ll (by decide)),fun _ a=>(by cases a),fun _=>hu,fun a=>hS (h.h5 a),fun a=>hS (h.h8 a),fun a=>hS (h.h9 a),fun a=>absurd (h.So a).1.1 (by decide),fun a=>⟨(h.Jz a).1,ej (h.Jz a).2.1 hg (Kd.mS hx (h.Jz a).2.1 (by decide)),(h.Jz a).2.2⟩,h.Ru,h.Rt,h.Rs⟩
theorem uW.afk (h:uW w0 W gr l0 b0 false b5 b8 b9 D6 zL x4 x5 x7 iO iz kD kV g5 g8 g9 gx) (hu:Kd.R (Kd.int .i64) 3 W1 W.heap.size (fun _=>True) v l0) (hb:Below W.heap.size W W1):uW w0 W1 gr l0 b0 true b5 b8 b9 D6 zL x4 x5 v iO iz kD kV g5 g8 g9 gx:=
  have h':=h.step hb
  ⟨h'.below,h'.Ll,fun _ a=>(by cases a),fun _=>Kd.dz hu h.below.size,h'.h5,h'.h8,h'.h9,fun a=>absurd (h.So a).1.1 (by decide),h'.Jz,h'.Ru,h'.Rt,h'.Rs⟩
theorem xy.fresh {n:Nat} (hu:Kd.S (Kd.slice 9 Kd.string) 62 W1 W.heap.size (fun k_=>k_=W.heap.size) v (List.replicate n [])) (h:Below w0.heap.size w0 W) (hb:Below W.heap.size W W1) (ho:∃b,v.ownBlock=some b∧W.heap.size≤b):xy W1 w0.heap.size W.heap.size v n:=by
  refine ⟨Kd.DM hu h.size,?_⟩
  obtain ⟨b,h1,h2⟩:=ho
  have:=Kd.ahI hu b h1
  omega
theorem uW.aaL (h:uW w0 W gr l0 b0 b2 false b8 b9 D6 zL x4 x5 x7 iO iz kD kV g5 g8 g9 gx) (hu:Kd.S (Kd.slice 9 Kd.string) 62 W1 W.heap.size (fun k_=>k_=W.heap.size) v (List.replicate l0.length [])) (hb:Below W.heap.size W W1) (ho:∃b,v.ownBlock=some b∧W.heap.size≤b):uW w0 W1 gr l0 b0 b2 true b8 b9 D6 zL x4 x5 x7 v iz kD kV W.heap.size g8 g9 gx:=
  have h':=h.step hb
  ⟨h'.below,h'.Ll,h'.h0,h'.h2,fun _=>xy.fresh hu h.below hb ho,h'.h8,h'.h9,fun a=>absurd (h.So a).1.2.1 (by decide),h'.Jz,fun _ a=>Nat.ne_of_gt (h.h8 a).2,fun _ a=>Nat.ne_of_gt (h.h9 a).2,h'.Rs⟩
theorem uW.aaK (h:uW w0 W gr l0 b0 b2 b5 false b9 D6 zL x4 x5 x7 iO iz kD kV g5 g8 g9 gx) (hu:Kd.S (Kd.slice 9 Kd.string) 62 W1 W.heap.size (fun k_=>k_=W.heap.size) v (List.replicate l0.length [])) (hb:Below W.heap.size W W1) (ho:∃b,v.ownBlock=some b∧W.heap.size≤b):uW w0 W1 gr l0 b0 b2 b5 true b9 D6 zL x4 x5 x7 iO v kD kV g5 W.heap.size g9 gx:=
  have h':=h.step hb
  ⟨h'.below,h'.Ll,h'.h0,h'.h2,h'.h5,fun _=>xy.fresh hu h.below hb ho,h'.h9,fun a=>absurd (h.So a).1.2.2.1 (by decide),h'.Jz,fun a _=>Nat.ne_of_lt (h.h5 a).2,h'.Rt,fun _ a=>Nat.ne_of_gt (h.h9 a).2⟩
theorem uW.aaJ (h:uW w0 W gr l0 b0 b2 b5 b8 false D6 zL x4 x5 x7 iO iz kD kV g5 g8 g9 gx) (hu:Kd.S (Kd.slice 9 Kd.string) 62 W1 W.heap.size (fun k_=>k_=W.heap.size) v (List.replicate 4 [])) (hb:Below W.heap.size W W1) (ho:∃b,v.ownBlock=some b∧W.heap.size≤b):uW w0 W1 gr l0 b0 b2 b5 b8 true D6 zL x4 x5 x7 iO iz v kV g5 g8 W.heap.size gx:=
  have h':=h.step hb
  ⟨h'.below,h'.Ll,h'.h0,h'.h2,h'.h5,h'.h8,fun _=>xy.fresh hu h.below hb ho,fun a=>absurd (h.So a).1.2.2.2 (by decide),h'.Jz,h'.Ru,fun a _=>Nat.ne_of_lt (h.h5 a).2,fun a _=>Nat.ne_of_lt (h.h8 a).2⟩
theorem uW.aaN (h:uW w0 W gr l0 b0 true true true true false zL x4 x5 x7 iO iz kD kV g5 g8 g9 gx):uW w0 W gr l0 b0 true true true true true zL x4 x5 x7 iO iz kD (.agg #[x7,iO,iz,kD,.int .i64 0]) g5 g8 g9 gx:=
  ⟨h.below,h.Ll,h.h0,h.h2,h.h5,h.h8,h.h9,fun _=>⟨⟨rfl,rfl,rfl,rfl⟩,rfl⟩,h.Jz,h.Ru,h.Rt,h.Rs⟩
theorem uW.aaM (h:uW w0 W gr l0 b0 b2 b5 b8 b9 D6 false x4 x5 x7 iO iz kD kV g5 g8 g9 gx) {g:Nat} (hg:g=W.heap.size) (hu:W1.heap[g]? =some (.cells #[.slice none 0 0,.slice none 0 0,.slice none 0 0,.slice none 0 0,.int .i64 0] 27 (0,0))) (hb:Below W.heap.size W W1):uW w0 W1 gr l0 b0 b2 b5 b8 b9 D6 true (.pointer (some ⟨g,0,none⟩)) x5 x7 iO iz kD kV g5 g8 g9 g:=
  have h':=h.step hb
  ⟨h'.below,h'.Ll,h'.h0,h'.h2,h'.h5,h'.h8,h'.h9,h'.So,fun _=>⟨rfl,hu,hg▸h.below.size,by rw [hg];exact Nat.ne_of_gt (iR h.Ll)⟩,h'.Ru,h'.Rt,h'.Rs⟩
end
section
variable {ops:Array Oper} {Q:Exit→Act→World→Prop} {oi:Oper} {a:Act} {W:World} {K:Act→World→Prop}
theorem rV {N:Tmp} (hw:Region.wanted oi (yielded ops a.tmps)=true) (hd:oi.dst=some N) (x:Operand) (ho:oi.op= .makeSlice 23 x x) (n:Nat) (hn:n≤1048576) (hx:a.eval x= .int .i64 (n:Int))
    (h:∀v W1,Kd.S (Kd.slice 9 Kd.string) 62 W1 W.heap.size (fun k_=>k_=W.heap.size) v (List.replicate n [])→Below W.heap.size W W1→(∃b,v.ownBlock=some b∧W.heap.size≤b)→K (a.put (some N) v) W1):
    if Region.wanted oi (yielded ops a.tmps)=true then Oper.wp Tryz.prog oi a W K Q else K (a.put (some N) undef) W:=by
  rw [←hd] at h⊢
  exact Kd.FA (Kd.slice 9 Kd.string) _ 62 hw hd 23 x x ho (n:Int) hx hx Tryz.underlying23 (.slice none 0 0) 24 GV rfl (by decide) (by omega) [] (ok:=fun k_=>k_=W.heap.size) (okp:=fun k_=>k_=W.heap.size) ⟨_,rfl,Kd.qo _ _ _ _ _⟩ (fun _ hk=>hk) rfl (Int.natCast_nonneg n) (by rw [Int.toNat_natCast];omega) (Below.refl _ _) (Nat.le_refl _) (fun v W1 h1 h2 _ h4=>h v W1 (by rw [Int.toNat_natCast] at h1;exact h1) h2 h4)
end
abbrev EB (W:World) (g:Nat) (a0 a1 a2 a3 a4:Value):World:=((((W.setCell ⟨g,0,none⟩ a0).setCell ⟨g,1,none⟩ a1).setCell ⟨g,2,none⟩ a2).setCell ⟨g,3,none⟩ a3).setCell ⟨g,4,none⟩ a4
theorem oR {W:World} {g:Nat} {t:TypeId} {z0 z1 z2 z3 z4:Value} (h:W.heap[g]? =some (.cells #[z0,z1,z2,z3,z4] t (0,0))) (a0 a1 a2 a3 a4:Value):(EB W g a0 a1 a2 a3 a4).heap[g]? =some (.cells #[a0,a1,a2,a3,a4] t (0,0)):=
  hJ (hJ (hJ (hJ (hJ h 0 a0 rfl) 1 a1 rfl) 2 a2 rfl) 3 a3 rfl) 4 a4 rfl
theorem yN (W:World) (g:Nat) (a0 a1 a2 a3 a4:Value) (k:Nat) (hk:k≠g):(EB W g a0 a1 a2 a3 a4).heap[k]? =W.heap[k]? :=
  (Below.heap_setCell _ ⟨g,4,none⟩ _ k hk).trans ((Below.heap_setCell _ ⟨g,3,none⟩ _ k hk).trans ((Below.heap_setCell _ ⟨g,2,none⟩ _ k hk).trans ((Below.heap_setCell _ ⟨g,1,none⟩ _ k hk).trans (Below.heap_setCell _ ⟨g,0,none⟩ _ k hk))))
theorem mB {w W:World} {g:Nat} (h:Below w.heap.size w W) (hg:w.heap.size≤g) (a0 a1 a2 a3 a4:Value):Below w.heap.size w (EB W g a0 a1 a2 a3 a4):=ew (ew (ew (ew (ew h hg) hg) hg) hg) hg
theorem KX (W:World) (g:Nat) (a0 a1 a2 a3 a4:Value):(EB W g a0 a1 a2 a3 a4).heap.size=W.heap.size:=by simp only [EB,World.size_setCell]
theorem xy.Ow {W:World} {B g gx:Nat} {x:Value} {n:Nat} {cs:Array Value} (h:xy W B g x n) (hb:W.heap[gx]? =some (.cells cs 27 (0,0))) (a0 a1 a2 a3 a4:Value):xy (EB W gx a0 a1 a2 a3 a4) B g x n:=
  ⟨Kd.l8 (Kd.DK (Kd.JS h.1 hb (by decide)) (fun k hk _=>yN W gx _ _ _ _ _ k hk.2)) (fun _ hk=>hk.1),by rw [KX];exact h.2⟩
theorem CB {W:World} {B gx:Nat} {x:Value} {l:List Int} {cs:Array Value} (h:Kd.R (Kd.int .i64) 3 W B (fun _=>True) x l) (hb:W.heap[gx]? =some (.cells cs 27 (0,0))) (a0 a1 a2 a3 a4:Value):Kd.R (Kd.int .i64) 3 (EB W gx a0 a1 a2 a3 a4) B (fun _=>True) x l:=
  Kd.bJ (Kd.rE (Kd.qa h hb (by decide)) (fun k hk _=>yN W gx _ _ _ _ _ k hk.2)) (fun _ _=>trivial)
theorem Rq {P:Program} {ops:Array Oper} {Q:Exit→Act→World→Prop} {oi:Oper} {a:Act} {W:World} {K:Act→World→Prop} {N:Option Tmp} {v:Value} (hw:Region.wanted oi (yielded ops a.tmps)=true) (hy:∀w,(execOp a.eval oi).run P w= .ok (.value v) w) (h:K (a.put oi.dst v) W):if Region.wanted oi (yielded ops a.tmps)=true then Oper.wp P oi a W K Q else K (a.put N undef) W:=by
  rw [if_pos hw]
  unfold Oper.wp
  rw [hy]
  exact h
def DP (w:World) (r1:List Int) (r2 r3 r4:List (List ByteArray)) (b:Bool) (e:Ending) (w':World):Prop:=∃(lG Ed Ec Eb:Value) (g1 g2 g3:Nat),e= .returned (.tuple #[.agg #[lG,Ed,Ec,Eb,.int .i64 0],.bool b])∧Kd.R (Kd.int .i64) 3 w' w.heap.size (fun _=>True) lG r1∧Kd.S (Kd.slice 9 Kd.string) 62 w' w.heap.size (fun k_=>k_=g1) Ed r2∧Kd.S (Kd.slice 9 Kd.string) 62 w' w.heap.size (fun k_=>k_=g2) Ec r3∧Kd.S (Kd.slice 9 Kd.string) 62 w' w.heap.size (fun k_=>k_=g3) Eb r4∧(g1≠g2∧g1≠g3∧g2≠g3)∧Below w.heap.size w w'
theorem Bj {d:Kd (List ByteArray)} {e:Nat} {w:World} {base g1 g2:Nat} {v:Value} {xs:List (List ByteArray)} (h:Kd.S d e w base (fun k_=>k_=g2) v xs) (hn:g1≠g2):some g1≠v.ownBlock:=fun e=>hn (by obtain ⟨f,h0,_⟩:=h;exact (h0 _ e.symm))
theorem CC {w:World} {r1:List Int} {r2 r3 r4:List (List ByteArray)} {b:Bool} {e:Ending} {w':World} (h:DP w r1 r2 r3 r4 b e w'):∃lG Ed Ec Eb:Value,e= .returned (.tuple #[.agg #[lG,Ed,Ec,Eb,.int .i64 0],.bool b])∧Kd.R (Kd.int .i64) 3 w' w.heap.size (fun _=>True) lG r1∧Kd.S (Kd.slice 9 Kd.string) 62 w' w.heap.size (fun k_=>some k_≠(Ec:Value).ownBlock∧some k_≠(Eb:Value).ownBlock) Ed r2∧Kd.S (Kd.slice 9 Kd.string) 62 w' w.heap.size (fun k_=>some k_≠(Ed:Value).ownBlock∧some k_≠(Eb:Value).ownBlock) Ec r3∧Kd.S (Kd.slice 9 Kd.string) 62 w' w.heap.size (fun k_=>some k_≠(Ed:Value).ownBlock∧some k_≠(Ec:Value).ownBlock) Eb r4∧Below w.heap.size w w':=by
 obtain ⟨v0,v1,v2,v3,g1,g2,g3,he,h0,h1,h2,h3,⟨n1,n2,n3⟩,hb⟩:=h
 exact ⟨v0,v1,v2,v3,he,h0,Kd.l8 h1 (fun k hk=>by subst hk;exact ⟨Bj h2 n1,Bj h3 n2⟩),Kd.l8 h2 (fun k hk=>by subst hk;exact ⟨Bj h1 (Ne.symm n1),Bj h3 n3⟩),Kd.l8 h3 (fun k hk=>by subst hk;exact ⟨Bj h1 (Ne.symm n2),Bj h2 (Ne.symm n3)⟩),hb⟩
def qM (A0:Option Addr) (c0:Nat) (l0:List Int) (gr:Nat) (x4 x5 x7 iO iz kD kV:Value):Act:= { tmps:= #[.slice A0 l0.length c0,undef,.pointer (some ⟨gr,0,none⟩),.bool false,x4,x5,.slice A0 l0.length c0,x7,.slice A0 l0.length c0,.int .i64 (l0.length:Int),iO,.slice A0 l0.length c0,.int .i64 (l0.length:Int),iz,kD,kV,undef,undef,undef,undef,undef],defers:=[]}
def dU.T1:Bool×List (List Nat×List Nat):=(true,[([],[]),([],[]),([0,1],[0,1]),([],[]),([3],[3]),([4,4],[4]),([],[]),([6],[6]),([7,7],[7]),([],[]),([2,5,8,9],[2,5,8,9]),([],[]),([11,10,2,0,1,2,3,4,5,6,7,8,9,10,11],[10,11])])
def dU.B1:List Nat:=[0,0,3,0,8,24,0,64,192,0,1023,0,4095]
theorem dU.FY:gz .any (opsOf Tryz.f49 1)=dU.T1:=by kernel_rfl
theorem dU.zK:dZ dU.T1.2 dU.B1=true:=by kernel_rfl
def dU.f (k:Nat) (l0:List Int):Option (List Int×List (List ByteArray)×List (List ByteArray)×List (List ByteArray)×Int×Bool):=if l0.length≤1048576 then (aj.f k l0 (List.replicate l0.length []) (List.replicate l0.length []) (List.replicate 4 []) 0).bind fun r=>some (if r=true then (l0,List.replicate l0.length [],List.replicate l0.length [],List.replicate 4 [],0,true) else ([],[],[],[],0,false)) else none
theorem IS (k:Nat) (A7:Option Addr) (c7:Nat) (l0:List Int) (tH:Option Addr) (gW:Nat) (sn:Option Addr) (oA:Nat) (wS:Option Addr) (oI:Nat) (r:Bool) (W:World) (h0:Kd.C (Kd.int .i64) W A7 l0.length l0) (k0:l0.length≤c7) (h1:Kd.C (Kd.slice 9 Kd.string) W tH l0.length (List.replicate l0.length [])) (k1:l0.length≤gW) (h2:Kd.C (Kd.slice 9 Kd.string) W sn l0.length (List.replicate l0.length [])) (k2:l0.length≤oA) (h3:Kd.C (Kd.slice 9 Kd.string) W wS 4 (List.replicate 4 [])) (k3:4≤oI) (h:aj.f k l0 (List.replicate l0.length []) (List.replicate l0.length []) (List.replicate 4 []) 0=some r):
  Calls Tryz.prog 42 #[.agg #[.slice A7 l0.length c7,.slice tH l0.length gW,.slice sn l0.length oA,.slice wS 4 oI,.int .i64 0]] W fun e w'=>e= .returned (.bool r)∧Below W.heap.size W w':=by
 have h':=aj.calls k A7 c7 l0 tH gW (List.replicate l0.length []) sn oA (List.replicate l0.length []) wS oI (List.replicate 4 []) 0 r W h0 k0 (by rw [List.length_replicate];exact h1) (by rw [List.length_replicate];exact k1) (by rw [List.length_replicate];exact h2) (by rw [List.length_replicate];exact k2) (by rw [List.length_replicate];exact h3) (by rw [List.length_replicate];exact k3) h
 rw [List.length_replicate,List.length_replicate] at h'
 exact h'
theorem dU.zu (k:Nat) (A0:Option Addr) (c0:Nat) (l0:List Int) (r:Bool) (w:World) (ff:Kd.C (Kd.int .i64) w A0 l0.length l0) (fL:l0.length≤c0) (hn:l0.length≤1048576) (h:aj.f k l0 (List.replicate l0.length []) (List.replicate l0.length []) (List.replicate 4 []) 0=some r):
  Calls Tryz.prog 49 #[.slice A0 l0.length c0] w (DP w (if r=true then l0 else []) (if r=true then List.replicate l0.length [] else []) (if r=true then List.replicate l0.length [] else []) (if r=true then List.replicate 4 [] else []) r):=by
 have lg:=Tryz.underlying27
 have fZ:=ak ff;have ki:=ak fL;have HN:=ak hn;have HG:=ak h;clear ff fL hn h
 obtain ⟨q1,Lg⟩:∃q,q=(if r=true then l0 else []):=⟨_,rfl⟩
 obtain ⟨q2,Lf⟩:∃q,q=(if r=true then List.replicate l0.length ([]:List ByteArray) else []):=⟨_,rfl⟩
 obtain ⟨q3,Qp⟩:∃q,q=(if r=true then List.replicate 4 ([]:List ByteArray) else []):=⟨_,rfl⟩
 rw [←Lg,←Lf,←Qp];have Q1:=ak Lg;have Q2:=ak Lf;have Q3:=ak Qp;clear Lg Lf Qp
 have HB:=ak (Below.refl w.heap.size w)
 go_enter Tryz.func49,Tryz.ntmps49
 try go_wp2_with (first|((with_reducible refine av (N:=2) rfl ?_);refine bN 2 #[.slice none 0 0,.slice none 0 0,.slice none 0 0,.slice none 0 0,.int .i64 0] 27 ?_;intro gr hg w8 eI hb;have BR:=ak eI;have GR:=ak (mX hg (aq HB));replace HB:=ak (aH (aq HB) hb);clear hb eI hg))
 replace BR:=ak (fG BR.out)
 replace HB:=ak (cO HB.out)
 refine dV (n:=13) (S:=fun w'=>True) (ds:=[]) (bl 13 0) (by kernel_rfl) rfl rfl trivial (fun ah=> ?_);refine bZ dU.FY dU.zK (fun aA ef=> ?_)
 generalize w8.drew=w9 at BR HB ah⊢
 refine ag 1 (some 6) 13 2 aA ?_
 refine ag 3 (some 8) 13 10 aA ?_
 refine ag 4 (some 9) 13 26 aA ?_
 refine ag 6 (some 11) 13 90 aA ?_
 refine ag 7 (some 12) 13 218 aA ?_
 clear ah ef
 refine IV [0,2,5,8,9,10,11] (bl 13 4095) (fuel:=1) (fun s a W=>∃x4 x5 x7 iO iz kD kV:Value,∃g5 g8 g9 gx:Nat,a=qM A0 c0 l0 gr x4 x5 x7 iO iz kD kV∧uW w W gr l0 (s 0) (s 2) (s 5) (s 8) (s 9) (s 10) (s 11) x4 x5 x7 iO iz kD kV g5 g8 g9 gx) ⟨undef,undef,undef,undef,undef,undef,undef,0,0,0,0,by simp only [qM],HB.out,BR.out,fun a=>(by cases a),fun a=>(by cases a),fun a=>(by cases a),fun a=>(by cases a),fun a=>(by cases a),fun a=>(by cases a),fun a=>(by cases a),fun a=>(by cases a),fun a=>(by cases a),fun a=>(by cases a)⟩ trivial ⟨?_,?_,?_,?_,?_,?_,?_,trivial⟩ ?_
 ·refine Nw (some 5) (fun s a W hI hs hd K hK=> ?_)
  obtain ⟨x4,x5,x7,iO,iz,kD,kV,g5,g8,g9,gx,rfl,F⟩:=hI
  rw [hs] at F
  unfold qM
  refine Kd.iJ (Kd.int .i64) _ 3 ?hg (N:=5) ?hd (xs:=([]:List Int)) (inner:=[]) (ok:=fun _=>True) (okp:=fun _=>True) ?hr ?hp (fun _ hk=>hk) trivial (Below.refl _ _) (Nat.le_refl _) (by simp) ?_;(case hd=>rfl);(case hg=>rfl);(case hr=>first|(go_simp;done)|(go_simp;rfl));(case hp=>exact (bT.none _ _))
  intro v W1 ho hb _ _
  exact hK.out _ _ trivial ⟨x4,v,x7,iO,iz,kD,kV,g5,g8,g9,gx,by show Act.put _ (some 5) _=_;simp only [qM,Act.put,List.setIfInBounds_toArray,List.set_cons_zero,List.set_cons_succ],by simpa only [hs,hs,beq_self_eq_true,Bool.true_or,Bool.false_or,Nat.reduceBEq] using F.afm ho hb⟩
 ·refine Nw (some 7) (fun s a W hI hs hd K hK=> ?_)
  obtain ⟨x4,x5,x7,iO,iz,kD,kV,g5,g8,g9,gx,rfl,F⟩:=hI
  rw [hs] at F
  have q0:s 0=true:=hd ⟨0,.data⟩ (by simp) rfl
  rw [q0] at F
  unfold qM
  refine Kd.nQ (Kd.int .i64) (w0:=w) w.heap.size (by rfl) (.tmp 5) (.tmp 6) 22 3 (.int .i64 0) 8 rfl Tryz.underlying22 yX rfl (by decide) (by omega) x5 [] l0 _ _ _ (fun _=>True) (fun _=>False) rfl rfl (F.h0 rfl rfl) ?aR (fun _ _ h=>h) (fun _ h=>h.elim) (fun _ _=>trivial) F.below F.below.size ?aL ?_
  (case aR=>exact cd (Kd.aD fZ.out F.below))
  (case aL=>have:=HN.out;simp only [List.length_nil];omega)
  intro v W1 ho hb hg _
  rw [List.nil_append] at ho
  exact hK.out _ _ trivial ⟨x4,x5,v,iO,iz,kD,kV,g5,g8,g9,gx,by show Act.put _ (some 7) _=_;simp only [qM,Act.put,List.setIfInBounds_toArray,List.set_cons_zero,List.set_cons_succ],by simpa only [q0,hs,beq_self_eq_true,Bool.true_or,Bool.false_or,Nat.reduceBEq] using F.afl ho hb hg⟩
 ·refine Nw (some 10) (fun s a W hI hs hd K hK=> ?_)
  obtain ⟨x4,x5,x7,iO,iz,kD,kV,g5,g8,g9,gx,rfl,F⟩:=hI
  rw [hs] at F
  unfold qM
  refine rV (by rfl) rfl _ rfl l0.length HN.out rfl (fun v W1 ho hb hn=> ?_)
  exact hK.out _ _ trivial ⟨x4,x5,x7,v,iz,kD,kV,W.heap.size,g8,g9,gx,by show Act.put _ (some 10) _=_;simp only [qM,Act.put,List.setIfInBounds_toArray,List.set_cons_zero,List.set_cons_succ],by simpa only [hs,hs,beq_self_eq_true,Bool.true_or,Bool.false_or,Nat.reduceBEq] using F.aaL ho hb hn⟩
 ·refine Nw (some 13) (fun s a W hI hs hd K hK=> ?_)
  obtain ⟨x4,x5,x7,iO,iz,kD,kV,g5,g8,g9,gx,rfl,F⟩:=hI
  rw [hs] at F
  unfold qM
  refine rV (by rfl) rfl _ rfl l0.length HN.out rfl (fun v W1 ho hb hn=> ?_)
  exact hK.out _ _ trivial ⟨x4,x5,x7,iO,v,kD,kV,g5,W.heap.size,g9,gx,by show Act.put _ (some 13) _=_;simp only [qM,Act.put,List.setIfInBounds_toArray,List.set_cons_zero,List.set_cons_succ],by simpa only [hs,hs,beq_self_eq_true,Bool.true_or,Bool.false_or,Nat.reduceBEq] using F.aaK ho hb hn⟩
 ·refine Nw (some 14) (fun s a W hI hs hd K hK=> ?_)
  obtain ⟨x4,x5,x7,iO,iz,kD,kV,g5,g8,g9,gx,rfl,F⟩:=hI
  rw [hs] at F
  unfold qM
  refine rV (by rfl) rfl _ rfl 4 (by omega) rfl (fun v W1 ho hb hn=> ?_)
  exact hK.out _ _ trivial ⟨x4,x5,x7,iO,iz,v,kV,g5,g8,W.heap.size,gx,by show Act.put _ (some 14) _=_;simp only [qM,Act.put,List.setIfInBounds_toArray,List.set_cons_zero,List.set_cons_succ],by simpa only [hs,hs,beq_self_eq_true,Bool.true_or,Bool.false_or,Nat.reduceBEq] using F.aaJ ho hb hn⟩
 ·refine Nw (some 15) (fun s a W hI hs hd K hK=> ?_)
  obtain ⟨x4,x5,x7,iO,iz,kD,kV,g5,g8,g9,gx,rfl,F⟩:=hI
  rw [hs] at F
  have q2:s 2=true:=hd ⟨2,.data⟩ (by simp) rfl
  have q5:s 5=true:=hd ⟨5,.data⟩ (by simp) rfl
  have q8:s 8=true:=hd ⟨8,.data⟩ (by simp) rfl
  have q9:s 9=true:=hd ⟨9,.data⟩ (by simp) rfl
  rw [q2,q5,q8,q9] at F
  unfold qM
  obtain ⟨A7,c7,e7⟩:=Kd.de (F.h2 rfl);subst e7;obtain ⟨tH,gW,e10⟩:=Kd.mJ (F.h5 rfl).1;subst e10;obtain ⟨sn,oA,e13⟩:=Kd.mJ (F.h8 rfl).1;subst e13;obtain ⟨wS,oI,e14⟩:=Kd.mJ (F.h9 rfl).1;subst e14
  refine Rq (by rfl) (by intro w';go_simp;with_reducible rfl) ?_
  exact hK.out _ _ trivial ⟨x4,x5,_,_,_,_,_,g5,g8,g9,gx,by show Act.put _ (some 15) _=_;simp only [qM,Act.put,List.setIfInBounds_toArray,List.set_cons_zero,List.set_cons_succ];rfl,by simpa only [List.length_replicate,q2,q5,q8,q9,hs,beq_self_eq_true,Bool.true_or,Bool.false_or,Nat.reduceBEq] using F.aaN⟩
 ·refine Nw (some 4) (fun s a W hI hs hd K hK=> ?_)
  obtain ⟨x4,x5,x7,iO,iz,kD,kV,g5,g8,g9,gx,rfl,F⟩:=hI
  rw [hs] at F
  unfold qM
  refine nP ?hg (N:=4) ?hd (cs:= #[.slice none 0 0,.slice none 0 0,.slice none 0 0,.slice none 0 0,.int .i64 0]) (t:=27) ?hr ?_;(case hd=>rfl);(case hg=>rfl);(case hr=>first|(go_simp;done)|(go_simp;rfl))
  intro g hg W1 ho hb
  exact hK.out _ _ trivial ⟨.pointer (some ⟨g,0,none⟩),x5,x7,iO,iz,kD,kV,g5,g8,g9,g,by show Act.put _ (some 4) _=_;simp only [qM,Act.put,List.setIfInBounds_toArray,List.set_cons_zero,List.set_cons_succ],by simpa only [hs,hs,beq_self_eq_true,Bool.true_or,Bool.false_or,Nat.reduceBEq] using F.aaM hg ho hb⟩
 clear BR HB
 rintro a W-⟨x4,x5,x7,iO,iz,kD,kV,g5,g8,g9,gx,rfl,F⟩
 obtain ⟨-,e15⟩:=F.So rfl
 obtain ⟨e4,hx,hgx,hxr⟩:=F.Jz rfl
 subst e15;subst e4
 have HX:=ak hx;have HE:=ak hgx;have HF:=ak F
 have K0:=ak (F.h2 rfl);have K1:=ak (F.h5 rfl);have K2:=ak (F.h8 rfl);have K3:=ak (F.h9 rfl)
 have HNE:=ak (⟨F.Ru rfl rfl,F.Rt rfl rfl,F.Rs rfl rfl⟩:g5≠g8∧g5≠g9∧g8≠g9)
 clear F hx hgx
 unfold qM
 obtain ⟨A7,c7,e7⟩:=Kd.de K0.out;subst e7;obtain ⟨tH,gW,e10⟩:=Kd.mJ K1.out.1;subst e10;obtain ⟨sn,oA,e13⟩:=Kd.mJ K2.out.1;subst e13;obtain ⟨wS,oI,e14⟩:=Kd.mJ K3.out.1;subst e14
 refine fJ 12 none 13 8191 aA (fun K hK=> ?_)
 obtain ⟨D3,Bv,D2,Zk,Zj,Zo,Lg,Lf,Qp,Zn⟩:=an HX
 refine jV (w1:= ?_) (by rfl) rfl ?_ ?_
 rotate_left
 ·go_simp
  rfl
 refine hK.out _ _ trivial (fun _=> ?_)
 clear hK K D3 Bv D2 Zk Zj Zo Lg Lf Qp Zn
 refine eZ (cV aA.out (by kernel_rfl)) ?_
 clear aA
 rw [List.length_replicate] at K1 K2;rw [show (List.replicate 4 ([]:List ByteArray)).length=4 from rfl] at K3
 try simp only [List.length_replicate]
 have J5:=ak ((yN W gx (.slice A7 l0.length c7) (.slice tH l0.length gW) (.slice sn l0.length oA) (.slice wS 4 oI) (.int .i64 0) gr (Ne.symm hxr)).trans HF.out.Ll)
 replace HB:=ak (mB HF.out.below HE.out (.slice A7 l0.length c7) (.slice tH l0.length gW) (.slice sn l0.length oA) (.slice wS 4 oI) (.int .i64 0))
 replace K0:=ak (CB K0.out HX.out (.slice A7 l0.length c7) (.slice tH l0.length gW) (.slice sn l0.length oA) (.slice wS 4 oI) (.int .i64 0))
 replace K1:=ak (xy.Ow K1.out HX.out (.slice A7 l0.length c7) (.slice tH l0.length gW) (.slice sn l0.length oA) (.slice wS 4 oI) (.int .i64 0))
 replace K2:=ak (xy.Ow K2.out HX.out (.slice A7 l0.length c7) (.slice tH l0.length gW) (.slice sn l0.length oA) (.slice wS 4 oI) (.int .i64 0))
 replace K3:=ak (xy.Ow K3.out HX.out (.slice A7 l0.length c7) (.slice tH l0.length gW) (.slice sn l0.length oA) (.slice wS 4 oI) (.int .i64 0))
 replace HX:=ak (oR HX.out (.slice A7 l0.length c7) (.slice tH l0.length gW) (.slice sn l0.length oA) (.slice wS 4 oI) (.int .i64 0))
 clear HF
 unfold EB at J5 HB K0 K1 K2 K3 HX
 generalize (((((W.setCell ⟨gx,0,none⟩ (.slice A7 l0.length c7)).setCell ⟨gx,1,none⟩ (.slice tH l0.length gW)).setCell ⟨gx,2,none⟩ (.slice sn l0.length oA)).setCell ⟨gx,3,none⟩ (.slice wS 4 oI)).setCell ⟨gx,4,none⟩ (.int .i64 0))=W2 at J5 HB K0 K1 K2 K3 HX⊢
 obtain ⟨D3,Bv,D2,Zk,Zj,Zo,Lg,Lf,Qp,Zn⟩:=an HX
 have S1:=ak (Kd.rD K1.out.1);have S2:=ak (Kd.rD K2.out.1);have S3:=ak (Kd.rD K3.out.1);have S0:=ak (Kd.aJ K0.out)
 rw [List.length_replicate] at S1 S2;rw [show (List.replicate 4 ([]:List ByteArray)).length=4 from rfl] at S3
 cases r with
 |false=>
  obtain rfl:=Q1.out;obtain rfl:=Q2.out;obtain rfl:=Q3.out;clear Q1 Q2 Q3;rw [if_neg (by decide),if_neg (by decide),if_neg (by decide)]
  go_wp2_with (first|(go_at_call 42;have cE:=IS k A7 c7 l0 tH gW sn oA wS oI _ W2 S0.out.2.2 S0.out.2.1 S1.out.2.2 S1.out.2.1 S2.out.2.2 S2.out.2.1 S3.out.2.2 S3.out.2.1 HG.out;(with_reducible refine (cE).mono ?_);clear cE;rintro e W3 ⟨rfl,hb⟩;replace J5:=ak (cW J5.out hb);replace HX:=ak (cW HX.out hb);replace K0:=ak (Kd.fF K0.out hb);replace K1:=ak (K1.out.step hb);replace K2:=ak (K2.out.step hb);replace K3:=ak (K3.out.step hb);replace HB:=ak (aH HB.out hb);clear hb D3 Bv D2 Zk Zj Zo Lg Lf Qp Zn;obtain ⟨Dy,Dx,Dr,Dq,Dj,Di,Dh,Db,Da,C4⟩:=an J5;have aaa:=an HX))
  refine bodyPost_ret (cK rfl _ _ gr 27 #[.slice none 0 0,.slice none 0 0,.slice none 0 0,.slice none 0 0,.int .i64 0] (0,0) _ rfl (by exact oR J5.out _ _ _ _ _) Tryz.underlying27 rfl (by kernel_rfl)) rfl ?_
  exact ⟨_,_,_,_,0,1,2,rfl,Kd.qo _ _ _ _ _,Kd.qn _ _ _ _ _,Kd.qn _ _ _ _ _,Kd.qn _ _ _ _ _,⟨by decide,by decide,by decide⟩,mB HB.out GR.out _ _ _ _ _⟩
 |true=>
  have e1:l0=q1:=Q1.out.symm;subst e1;have e2:List.replicate l0.length []=q2:=Q2.out.symm;subst e2;have e3:List.replicate 4 []=q3:=Q3.out.symm;subst e3;clear Q1 Q2 Q3
  go_wp2_with (first|(go_at_call 42;have cE:=IS k A7 c7 l0 tH gW sn oA wS oI _ W2 S0.out.2.2 S0.out.2.1 S1.out.2.2 S1.out.2.1 S2.out.2.2 S2.out.2.1 S3.out.2.2 S3.out.2.1 HG.out;(with_reducible refine (cE).mono ?_);clear cE;rintro e W3 ⟨rfl,hb⟩;replace J5:=ak (cW J5.out hb);replace HX:=ak (cW HX.out hb);replace K0:=ak (Kd.fF K0.out hb);replace K1:=ak (K1.out.step hb);replace K2:=ak (K2.out.step hb);replace K3:=ak (K3.out.step hb);replace HB:=ak (aH HB.out hb);clear hb D3 Bv D2 Zk Zj Zo Lg Lf Qp Zn;obtain ⟨Dy,Dx,Dr,Dq,Dj,Di,Dh,Db,Da,C4⟩:=an J5;have aaa:=an HX))
  refine bodyPost_ret (cK rfl _ _ gr 27 #[.slice A7 l0.length c7,.slice tH l0.length gW,.slice sn l0.length oA,.slice wS 4 oI,.int .i64 0] (0,0) _ rfl (by exact oR J5.out _ _ _ _ _) Tryz.underlying27 rfl (by kernel_rfl)) rfl ?_
  exact ⟨_,_,_,_,g5,g8,g9,rfl,CB K0.out J5.out _ _ _ _ _,(xy.Ow K1.out J5.out _ _ _ _ _).1,(xy.Ow K2.out J5.out _ _ _ _ _).1,(xy.Ow K3.out J5.out _ _ _ _ _).1,HNE.out,mB HB.out GR.out _ _ _ _ _⟩
theorem dU.calls (k:Nat) (A0:Option Addr) (c0:Nat) (l0:List Int) (r1:List Int) (r2:List (List ByteArray)) (r3:List (List ByteArray)) (r4:List (List ByteArray)) (r5:Int) (r6:Bool) (w:World) (ff:Kd.C (Kd.int .i64) w A0 l0.length l0) (fL:l0.length≤c0) (h:dU.f k l0=some (r1,r2,r3,r4,r5,r6)):
  Calls Tryz.prog 49 #[.slice A0 l0.length c0] w fun e w'=>∃lG Ed Ec Eb:Value,e= .returned (.tuple #[.agg #[lG,Ed,Ec,Eb,.int .i64 r5],.bool r6])∧Kd.R (Kd.int .i64) 3 w' w.heap.size (fun _=>True) lG r1∧Kd.S (Kd.slice 9 Kd.string) 62 w' w.heap.size (fun k_=>some k_≠(Ec:Value).ownBlock∧some k_≠(Eb:Value).ownBlock) Ed r2∧Kd.S (Kd.slice 9 Kd.string) 62 w' w.heap.size (fun k_=>some k_≠(Ed:Value).ownBlock∧some k_≠(Eb:Value).ownBlock) Ec r3∧Kd.S (Kd.slice 9 Kd.string) 62 w' w.heap.size (fun k_=>some k_≠(Ed:Value).ownBlock∧some k_≠(Ec:Value).ownBlock) Eb r4∧Below w.heap.size w w':=by
 unfold dU.f at h
 obtain ⟨hn,h⟩:=dy h
 obtain ⟨r,A1,h⟩:=bS h
 have hc:=dU.zu k A0 c0 l0 r w ff fL hn A1.out
 have h:=Option.some.inj h
 cases r with
 |false=>
  obtain ⟨rfl,rfl,rfl,rfl,rfl,rfl⟩:[]=r1∧[]=r2∧[]=r3∧[]=r4∧0=r5∧false=r6:=by simpa using h
  exact hc.mono fun e w' he=>CC he
 |true=>
  obtain ⟨rfl,rfl,rfl,rfl,rfl,rfl⟩:l0=r1∧List.replicate l0.length []=r2∧List.replicate l0.length []=r3∧List.replicate 4 []=r4∧0=r5∧true=r6:=by simpa using h
  exact hc.mono fun e w' he=>CC he
theorem CA {w:World} {r1:List Int} {r2 r3 r4:List (List ByteArray)} {b:Bool} {e:Ending} {w':World} (h:DP w r1 r2 r3 r4 b e w'):qc w ⟨r1,r2,r3,r4,0⟩ b e w':=by
  obtain ⟨v0,v1,v2,v3,g1,g2,g3,he,h0,h1,h2,h3,hn,hb⟩:=h
  exact ⟨v0,v1,v2,v3,he,Rw h0 h1 h2 h3 hn,hb⟩
theorem tU {k:Nat} {A0:Option Addr} {c0:Nat} {l0:List Int} {r1:List Int} {r2 r3 r4:List (List ByteArray)} {r5:Int} {r6:Bool} {w:World} (ff:KI.C w A0 l0.length l0) (fL:l0.length≤c0) (h:dU.f k l0=some (r1,r2,r3,r4,r5,r6)):
    Calls Tryz.prog 49 #[.slice A0 l0.length c0] w (qc w ⟨r1,r2,r3,r4,r5⟩ r6):=by
 unfold dU.f at h
 obtain ⟨hn,h⟩:=dy h
 obtain ⟨r,A1,h⟩:=bS h
 have hc:=dU.zu k A0 c0 l0 r w ff fL hn A1.out
 have h:=Option.some.inj h
 cases r with
 |false=>
  obtain ⟨rfl,rfl,rfl,rfl,rfl,rfl⟩:[]=r1∧[]=r2∧[]=r3∧[]=r4∧0=r5∧false=r6:=by simpa using h
  exact hc.mono fun e w' he=>CA he
 |true=>
  obtain ⟨rfl,rfl,rfl,rfl,rfl,rfl⟩:l0=r1∧List.replicate l0.length []=r2∧List.replicate l0.length []=r3∧List.replicate 4 []=r4∧0=r5∧true=r6:=by simpa using h
  exact hc.mono fun e w' he=>CA he
def PD (w:World) (n:Nt) (d:List Bool) (b:Bool) (e:Ending) (w':World):Prop:=∃v0 v1 v2 v3 v4:Value,e= .returned (.tuple #[.agg #[v0,v1,v2,v3,.int .i64 n.sd],v4,.bool b])∧(∃c,dG c w.heap.size w' 0 (eO v0 v1 v2 v3 n++[rA Kd.bool 4 v4 d]))∧Below w.heap.size w w'
theorem Bi {w W:World} {L:List SA} {v0 v1 v2 v3 v4:Value} {n:Nt} {d:List Bool} (h:Sep w W (eO v0 v1 v2 v3 n++rA Kd.bool 4 v4 d::L)):∃c,dG c w.heap.size W 0 (eO v0 v1 v2 v3 n++[rA Kd.bool 4 v4 d]):=by
  obtain ⟨_,c,h⟩:=h
  have h':dG c w.heap.size W 0 ((eO v0 v1 v2 v3 n++[rA Kd.bool 4 v4 d])++L):=by rw [List.append_assoc];exact h
  exact ⟨c,dG.left _ h'⟩
theorem wo {w W:World} {L:List SA} (h:Sep w W L):∃c,dG c w.heap.size W 0 (eO (.slice none 0 0) (.slice none 0 0) (.slice none 0 0) (.slice none 0 0) ⟨[],[],[],[],0⟩++[rA Kd.bool 4 (.slice none 0 0) []]):=
  Bi (((((h.tg Kd.bool 4).KY KT 62).KY KT 62).KY KT 62).tg KI 3)
theorem EA:(Tryz.prog.info? 4).map (fun i=>(i.zero,i.size,i.bytes))=some (some (.bool false),1,1):=by kernel_rfl
theorem yM {w w1:World} {a:Addr} {v:Value} (hb:Below w.heap.size w w1) (h:w.cell? a=some v):w1.cell? a=some v:=(hb.cell (World.block_lt_of_cell? w _ h)).trans h
theorem Rp {l:List mK} {j:Nat} (h:j<l.length):l.drop j=ic l (j:Int)::l.drop (j+1):=by
  rw [List.drop_eq_getElem_cons h]
  simp [ic,List.getD_eq_getElem?_getD,List.getElem?_eq_getElem h]
def cU.T8:Bool×List (List Nat×List Nat):=(true,[([],[]),([0],[0]),([],[]),([1,2,1],[1,2]),([3],[3]),([4],[4]),([4],[4]),([],[]),([7,5,3,0,1,2,3,4,5,7],[5,7]),([6,8,0,1,2,3,4,5,6,7,8],[6])])
def cU.B8:List Nat:=[0,1,0,7,15,31,31,0,191,511]
theorem cU.wX:gz .any (opsOf Tryz.f16 8)=cU.T8:=by kernel_rfl
theorem cU.qm:dZ cU.T8.2 cU.B8=true:=by kernel_rfl
def cU.l0 (k:Nat):List mK→Nt→List Bool→Option (Nt×List Bool)
 |[],n,d=>some (n,d)
 |s::r,n,d=>(cT.f k n).bind fun n1=>(bP.f k n1 s.f0 s.f1 s.f2).bind fun (n2,q)=>cU.l0 k r (if q=true then n2 else n) (d++[q])
def cU.f (k:Nat) (ks:List Int) (l:List mK):Option (Nt×List Bool×Bool):=(dU.f k ks).bind fun (r1,r2,r3,r4,r5,r6)=>if r6=false then some (⟨[],[],[],[],0⟩,[],false) else if 60<(l.length:Int) then some (⟨[],[],[],[],0⟩,[],false) else (cU.l0 k l ⟨r1,r2,r3,r4,r5⟩ []).bind fun (n,d)=>(cT.f k n).bind fun n3=>some (n3,d,true)
theorem cU.calls {k:Nat} {A0 A1:Option Addr} {c0 c1:Nat} {ks:List Int} {l:List mK} {m:Nt} {md:List Bool} {r:Bool} {w:World} (ff:KI.C w A0 ks.length ks) (fL:ks.length≤c0) (sH:Kd.C K7 w A1 l.length l) (qA:l.length≤c1) (h:cU.f k ks l=some (m,md,r)):
    Calls Tryz.prog 16 #[.slice A0 ks.length c0,.slice A1 l.length c1] w (PD w m md r):=by
 have lg:=Tryz.underlying27
 have GX:=Tryz.underlying53
 have fZ:=ak ff;have ki:=ak fL;have yc:=ak sH;have LS:=ak qA
 clear ff fL sH qA
 unfold cU.f at h
 have HS:=Sep.nil w
 replace h:=bS h;obtain ⟨⟨r1,r2,r3,r4,r5,r6⟩,T0,h⟩:=h
 dsimp only at h
 cases r6 with
 |false=>
  rw [if_pos rfl] at h
  obtain ⟨h1,h2⟩:=(Prod.mk.injEq _ _ _ _).mp (Option.some.inj h)
  obtain ⟨h2,h3⟩:=(Prod.mk.injEq _ _ _ _).mp h2
  clear h
  subst h1 h2 h3
  go_enter Tryz.func16,Tryz.ntmps16
  go_upto_region 2 with (first|((with_reducible refine av (N:=4) rfl ?_);refine bN 4 #[.slice none 0 0,.slice none 0 0,.slice none 0 0,.slice none 0 0,.int .i64 0] 27 ?_;intro b4 bK W_ bD aW;replace HS:=HS.box bK bD aW;clear bK bD aW;have eR:=an (HS.aI 0))|(go_at_call 49;have cE:=tU (Kd.aD fZ.out HS.base) ki.out T0.out;refine cE.mono ?_;clear cE;rintro e W_ ⟨e0,e1,e2,e3,rfl,ie,aW⟩;replace HS:=HS.news aW ie;clear ie aW;dsimp only [eO,List.cons_append,List.nil_append] at HS;obtain ⟨B0,d0,rfl⟩:=HS.lz 0;obtain ⟨B1,d1,rfl⟩:=HS.gY 1;obtain ⟨B2,d2,rfl⟩:=HS.gY 2;obtain ⟨B3,d3,rfl⟩:=HS.gY 3;clear eR;have eR:=an (HS.aI 4))|((with_reducible refine av (N:=7) rfl ?_);refine bN 7 #[.slice none 0 0,.slice none 0 0,.slice none 0 0,.slice none 0 0,.int .i64 0] 27 ?_;intro b7 bK W_ bD aW;replace HS:=HS.box bK bD aW;clear bK bD aW;clear eR;have fj:=an (HS.aI 0);clear fj;have fj:=an (HS.aI 0)))
  clear fj
  obtain ⟨rC,gU,gX⟩:=(((((HS.cq 0 0 (.slice B0 r1.length d0) #[.slice B0 r1.length d0,.slice none 0 0,.slice none 0 0,.slice none 0 0,.int .i64 0]).cq 0 1 (.slice B1 r2.length d1) #[.slice B0 r1.length d0,.slice B1 r2.length d1,.slice none 0 0,.slice none 0 0,.int .i64 0]).cq 0 2 (.slice B2 r3.length d2) #[.slice B0 r1.length d0,.slice B1 r2.length d1,.slice B2 r3.length d2,.slice none 0 0,.int .i64 0]).cq 0 3 (.slice B3 r4.length d3) #[.slice B0 r1.length d0,.slice B1 r2.length d1,.slice B2 r3.length d2,.slice B3 r4.length d3,.int .i64 0]).cq 0 4 (.int .i64 r5) #[.slice B0 r1.length d0,.slice B1 r2.length d1,.slice B2 r3.length d2,.slice B3 r4.length d3,.int .i64 r5]).gen
  rw [gU]
  clear HS gU
  have HS:=gX
  clear gX
  have fj:=an (HS.aI 0)
  have eR:=an (HS.aI 5)
  go_wp2
  have HF:=HS.iw 5 (.slice none 0 0) (.slice none 0 0) (.slice none 0 0) (.slice none 0 0) (.int .i64 0)
  refine bodyPost_ret (qL rfl _ _ b4 27 #[.slice none 0 0,.slice none 0 0,.slice none 0 0,.slice none 0 0,.int .i64 0] (0,0) _ rfl (by exact (HF.aI 5).out) Tryz.underlying27 rfl (by kernel_rfl)) rfl ?_
  exact ⟨_,_,_,_,_,rfl,wo HF,HF.base⟩
 |true=>
  rw [if_neg (by decide)] at h
  by_cases wO:60<(l.length:Int)
  ·rw [if_pos wO] at h
   have cb1:decide (60<(l.length:Int))=true:=decide_eq_true wO
   clear wO
   obtain ⟨h1,h2⟩:=(Prod.mk.injEq _ _ _ _).mp (Option.some.inj h)
   obtain ⟨h2,h3⟩:=(Prod.mk.injEq _ _ _ _).mp h2
   clear h
   subst h1 h2 h3
   go_enter Tryz.func16,Tryz.ntmps16
   go_upto_region 2 with (first|((with_reducible refine av (N:=4) rfl ?_);refine bN 4 #[.slice none 0 0,.slice none 0 0,.slice none 0 0,.slice none 0 0,.int .i64 0] 27 ?_;intro b4 bK W_ bD aW;replace HS:=HS.box bK bD aW;clear bK bD aW;have eR:=an (HS.aI 0))|(go_at_call 49;have cE:=tU (Kd.aD fZ.out HS.base) ki.out T0.out;refine cE.mono ?_;clear cE;rintro e W_ ⟨e0,e1,e2,e3,rfl,ie,aW⟩;replace HS:=HS.news aW ie;clear ie aW;dsimp only [eO,List.cons_append,List.nil_append] at HS;obtain ⟨B0,d0,rfl⟩:=HS.lz 0;obtain ⟨B1,d1,rfl⟩:=HS.gY 1;obtain ⟨B2,d2,rfl⟩:=HS.gY 2;obtain ⟨B3,d3,rfl⟩:=HS.gY 3;clear eR;have eR:=an (HS.aI 4))|((with_reducible refine av (N:=7) rfl ?_);refine bN 7 #[.slice none 0 0,.slice none 0 0,.slice none 0 0,.slice none 0 0,.int .i64 0] 27 ?_;intro b7 bK W_ bD aW;replace HS:=HS.box bK bD aW;clear bK bD aW;clear eR;have fj:=an (HS.aI 0);clear fj;have fj:=an (HS.aI 0)))
   clear fj
   obtain ⟨rC,gU,gX⟩:=(((((HS.cq 0 0 (.slice B0 r1.length d0) #[.slice B0 r1.length d0,.slice none 0 0,.slice none 0 0,.slice none 0 0,.int .i64 0]).cq 0 1 (.slice B1 r2.length d1) #[.slice B0 r1.length d0,.slice B1 r2.length d1,.slice none 0 0,.slice none 0 0,.int .i64 0]).cq 0 2 (.slice B2 r3.length d2) #[.slice B0 r1.length d0,.slice B1 r2.length d1,.slice B2 r3.length d2,.slice none 0 0,.int .i64 0]).cq 0 3 (.slice B3 r4.length d3) #[.slice B0 r1.length d0,.slice B1 r2.length d1,.slice B2 r3.length d2,.slice B3 r4.length d3,.int .i64 0]).cq 0 4 (.int .i64 r5) #[.slice B0 r1.length d0,.slice B1 r2.length d1,.slice B2 r3.length d2,.slice B3 r4.length d3,.int .i64 r5]).gen
   rw [gU]
   clear HS gU
   have HS:=gX
   clear gX
   have fj:=an (HS.aI 0)
   have eR:=an (HS.aI 5)
   go_wp2
   have HF:=HS.iw 5 (.slice none 0 0) (.slice none 0 0) (.slice none 0 0) (.slice none 0 0) (.int .i64 0)
   refine bodyPost_ret (qL rfl _ _ b4 27 #[.slice none 0 0,.slice none 0 0,.slice none 0 0,.slice none 0 0,.int .i64 0] (0,0) _ rfl (by exact (HF.aI 5).out) Tryz.underlying27 rfl (by kernel_rfl)) rfl ?_
   exact ⟨_,_,_,_,_,rfl,wo HF,HF.base⟩
  ·rw [if_neg wO] at h
   have cb1:decide (60<(l.length:Int))=false:=decide_eq_false wO
   have LL:=ak (show l.length≤60 by omega)
   clear wO
   replace h:=bS h;obtain ⟨⟨n2,dd⟩,T1,h⟩:=h
   dsimp only at h
   replace h:=bS h;obtain ⟨n3,T9,h⟩:=h
   obtain ⟨h1,h2⟩:=(Prod.mk.injEq _ _ _ _).mp (Option.some.inj h)
   obtain ⟨h2,h3⟩:=(Prod.mk.injEq _ _ _ _).mp h2
   clear h
   subst h1 h2 h3
   have H':=T1;clear T1
   go_enter Tryz.func16,Tryz.ntmps16
   go_upto_region 2 with (first|((with_reducible refine av (N:=4) rfl ?_);refine bN 4 #[.slice none 0 0,.slice none 0 0,.slice none 0 0,.slice none 0 0,.int .i64 0] 27 ?_;intro b4 bK W_ bD aW;replace HS:=HS.box bK bD aW;clear bK bD aW;have eR:=an (HS.aI 0))|(go_at_call 49;have cE:=tU (Kd.aD fZ.out HS.base) ki.out T0.out;refine cE.mono ?_;clear cE;rintro e W_ ⟨e0,e1,e2,e3,rfl,ie,aW⟩;replace HS:=HS.news aW ie;clear ie aW;dsimp only [eO,List.cons_append,List.nil_append] at HS;obtain ⟨B0,d0,rfl⟩:=HS.lz 0;obtain ⟨B1,d1,rfl⟩:=HS.gY 1;obtain ⟨B2,d2,rfl⟩:=HS.gY 2;obtain ⟨B3,d3,rfl⟩:=HS.gY 3;clear eR;have eR:=an (HS.aI 4))|((with_reducible refine av (N:=7) rfl ?_);refine bN 7 #[.slice none 0 0,.slice none 0 0,.slice none 0 0,.slice none 0 0,.int .i64 0] 27 ?_;intro b7 bK W_ bD aW;replace HS:=HS.box bK bD aW;clear bK bD aW;clear eR;have fj:=an (HS.aI 0);clear fj;have fj:=an (HS.aI 0)))
   clear fj
   obtain ⟨rC,gU,gX⟩:=(((((HS.cq 0 0 (.slice B0 r1.length d0) #[.slice B0 r1.length d0,.slice none 0 0,.slice none 0 0,.slice none 0 0,.int .i64 0]).cq 0 1 (.slice B1 r2.length d1) #[.slice B0 r1.length d0,.slice B1 r2.length d1,.slice none 0 0,.slice none 0 0,.int .i64 0]).cq 0 2 (.slice B2 r3.length d2) #[.slice B0 r1.length d0,.slice B1 r2.length d1,.slice B2 r3.length d2,.slice none 0 0,.int .i64 0]).cq 0 3 (.slice B3 r4.length d3) #[.slice B0 r1.length d0,.slice B1 r2.length d1,.slice B2 r3.length d2,.slice B3 r4.length d3,.int .i64 0]).cq 0 4 (.int .i64 r5) #[.slice B0 r1.length d0,.slice B1 r2.length d1,.slice B2 r3.length d2,.slice B3 r4.length d3,.int .i64 r5]).gen
   rw [gU]
   clear HS gU
   have HS:=gX
   clear gX
   have fj:=an (HS.aI 0)
   have eR:=an (HS.aI 5)
   go_wp2
   clear fj eR
   replace HS:=HS.tg Kd.bool 4
   go_loopg [9,29] l.length (fun kq v9 v29 w'=>∃(j:Nat) (n:Nt) (d:List Bool) (e0 e1 e2 e3:Value),v29= .int .i64 (j:Int)∧Aside0 (cU.l0 k (l.drop j) n d=some (n2,dd))∧j≤l.length∧l.length-j≤kq∧d.length=j∧Sep w w' (rA Kd.bool 4 v9 d::bA b7 #[e0,e1,e2,e3,.int .i64 n.sd] 27::bA b4 #[.slice none 0 0,.slice none 0 0,.slice none 0 0,.slice none 0 0,.int .i64 0] 27::rA KI 3 e0 n.ks::sA KT 62 e1 n.ps::sA KT 62 e2 n.ss::sA KT 62 e3 n.ib::[]))
   case atStart=>exact ⟨0,⟨r1,r2,r3,r4,r5⟩,[],_,_,_,_,rfl,H',Nat.zero_le _,Nat.le_refl _,rfl,HS.jR.jR.jR.jR.jw.jw.jw⟩
   case round=>
    clear HS H'
    obtain ⟨j,n,d,e0,e1,e2,e3,rfl,HA,j1,j2,Zq,HS⟩:=hrel
    have h:=HA.out;clear HA
    have HD:=ak Zq;clear Zq
    obtain ⟨E0,f0,rfl⟩:=HS.lz 3
    obtain ⟨E1,f1,rfl⟩:=HS.gY 4
    obtain ⟨E2,f2,rfl⟩:=HS.gY 5
    obtain ⟨E3,f3,rfl⟩:=HS.gY 6
    obtain ⟨A9,c9,rfl⟩:=HS.lz 0
    by_cases hj:j<l.length
    ·have Li:decide ((j:Int)<(l.length:Int))=true:=decide_eq_true (by omega)
     rw [Rp hj] at h
     obtain ⟨ad,e,Tq,Zm,Zl⟩:=O9 (Kd.aD yc.out HS.base) (j:Int) (by omega) (by omega)
     cases e
     rw [Int.toNat_natCast] at Tq Zm Zl
     generalize ic l (j:Int)=s at h Tq Zm Zl
     obtain ⟨sa,sb,sx⟩:=s
     dsimp only at Tq Zm Zl
     have pj0:(0≤(j:Int))=True:=eq_true (by omega)
     have pj1:((j:Int)<(l.length:Int))=True:=eq_true (by omega)
     simp only [cU.l0] at h
     go_upto_region 8 with (first|((with_reducible refine av (N:=11) rfl ?_);refine bN 11 #[.int .i64 0,.int .i64 0,.string (⟨#[]⟩:ByteArray)] 53 ?_;intro zL bK W_ bD aW;replace HS:=HS.box bK bD aW;replace Tq:=yM aW Tq;replace Zm:=yM aW Zm;replace Zl:=yM aW Zl;clear bK bD aW;have gR:=ck (HS.aI 0)))
     clear gR
     obtain ⟨rC,gU,gX⟩:=(((HS.cq 0 0 (.int .i64 sa) #[.int .i64 sa,.int .i64 0,.string (⟨#[]⟩:ByteArray)]).cq 0 1 (.int .i64 sb) #[.int .i64 sa,.int .i64 sb,.string (⟨#[]⟩:ByteArray)]).cq 0 2 (.string sx) #[.int .i64 sa,.int .i64 sb,.string sx]).gen
     rw [gU]
     clear HS gU
     have HS:=gX
     clear gX
     clear Tq Zm Zl
     replace h:=bS h;obtain ⟨n1,T1,h⟩:=h
     replace h:=bS h;obtain ⟨⟨n4,q⟩,T2,h⟩:=h
     dsimp only at h T2
     go_upto_region 8 with fail
     have fj:=an (HS.aI 2)
     have gR:=ck (HS.aI 0)
     refine dV (n:=10) (S:=fun w'=>w'.cell? ⟨b7,0,none⟩=some (.slice E0 n.ks.length f0)∧w'.cell? ⟨b7,1,none⟩=some (.slice E1 n.ps.length f1)∧w'.cell? ⟨b7,2,none⟩=some (.slice E2 n.ss.length f2)∧w'.cell? ⟨b7,3,none⟩=some (.slice E3 n.ib.length f3)∧w'.cell? ⟨b7,4,none⟩=some (.int .i64 n.sd)∧w'.cell? ⟨zL,0,none⟩=some (.int .i64 sa)∧w'.cell? ⟨zL,1,none⟩=some (.int .i64 sb)∧w'.cell? ⟨zL,2,none⟩=some (.string sx)) (ds:=[]) (bl 10 0) (by kernel_rfl) rfl rfl ⟨fj.1,fj.2.1,fj.2.2.1,fj.2.2.2.1,fj.2.2.2.2.1,gR.1,gR.2.1,gR.2.2.1⟩ (fun ah=> ?_);refine bZ cU.wX cU.qm (fun aA ef=> ?_)
     clear fj gR
     replace HS:=HS.drew
     generalize World.drew _=tD at HS ah⊢
     refine cg 0 (some 34) 10 1 aA ef ah ?_ (hy:=by rintro w' ⟨s0,s1,s2,s3,s4,s5,s6,s7⟩;go_simp;with_reducible rfl)
     refine cg 2 (some 36) 10 5 aA ef ah ?_ (hy:=by rintro w' ⟨s0,s1,s2,s3,s4,s5,s6,s7⟩;go_simp;with_reducible rfl)
     refine NF (σ:=Value×Value×Value×Value×Nat) 2 (bl 10 255) (fun s_=>[(35,.agg #[s_.1,s_.2.1,s_.2.2.1,s_.2.2.2.1,.int .i64 n1.sd]),(37,.tuple #[.agg #[s_.1,s_.2.1,s_.2.2.1,s_.2.2.2.1,.int .i64 n4.sd],.bool q]),(33,.tuple #[.agg #[s_.1,s_.2.1,s_.2.2.1,s_.2.2.2.1,.int .i64 n4.sd],.bool q]),(38,.agg #[s_.1,s_.2.1,s_.2.2.1,s_.2.2.2.1,.int .i64 n4.sd]),(39,.bool q),(12,.pointer (some ⟨s_.2.2.2.2,0,none⟩))]) (fun s_ w'=>Sep w w' (bA s_.2.2.2.2 #[.slice none 0 0,.slice none 0 0,.slice none 0 0,.slice none 0 0,.int .i64 0] 27::rA KI 3 s_.1 n4.ks::sA KT 62 s_.2.1 n4.ps::sA KT 62 s_.2.2.1 n4.ss::sA KT 62 s_.2.2.2.1 n4.ib::bA zL #[.int .i64 sa,.int .i64 sb,.string sx] 53::rA Kd.bool 4 (.slice A9 d.length c9) d::bA b7 #[.slice E0 n.ks.length f0,.slice E1 n.ps.length f1,.slice E2 n.ss.length f2,.slice E3 n.ib.length f3,.int .i64 n.sd] 27::bA b4 #[.slice none 0 0,.slice none 0 0,.slice none 0 0,.slice none 0 0,.int .i64 0] 27::rA KI 3 (.slice E0 n.ks.length f0) n.ks::sA KT 62 (.slice E1 n.ps.length f1) n.ps::sA KT 62 (.slice E2 n.ss.length f2) n.ss::sA KT 62 (.slice E3 n.ib.length f3) n.ib::[])) ?_ ?_
     rotate_left
     ·intro qW
      refine Kk (i:=1) (j:=7) (Ni:=some 35) (Nj:=some 12) (bl 10 7) (bl 10 133) rfl rfl rfl rfl (by kernel_rfl) (by decide) (by decide) (fun K hK=> ?_) (fun K hK=> ?_)
      ·skip
       refine fM Tryz.func52 (by kernel_rfl) rfl #[.agg #[.slice E0 n.ks.length f0,.slice E1 n.ps.length f1,.slice E2 n.ss.length f2,.slice E3 n.ib.length f3,.int .i64 n.sd]] (by rfl) rfl rfl (by (try simp only [List.map_toArray,List.map_cons,List.map_nil]);first|done|rfl) ?_
       have cE:=cT.calls (n:=n) (jW HS 4) T1.out
       refine cE.mono ?_
       clear cE ah
       rintro e W_ ⟨u0,u1,u2,u3,rfl,ie,aW⟩
       refine ⟨_,rfl,?_⟩
       replace HS:=HS.news aW ie
       clear ie aW
       dsimp only [eO,List.cons_append,List.nil_append] at HS
       have fj:=an (HS.aI 6)
       have gR:=ck (HS.aI 4)
       refine hK.out _ _ ⟨fj.1,fj.2.1,fj.2.2.1,fj.2.2.2.1,fj.2.2.2.2.1,gR.1,gR.2.1,gR.2.2.1⟩ (fun ah=> ?_)
       clear hK K fj gR
       refine cM (a':= ?_) ?_ ?_
       rotate_left
       ·show Act.put _ (some 35) _=_
        simp only [Act.put,List.setIfInBounds_toArray,List.set_cons_zero,List.set_cons_succ,bW,cA]
        rfl
       refine Kk (i:=3) (j:=7) (Ni:=some 37) (Nj:=some 12) (bl 10 15) (bl 10 135) rfl rfl rfl rfl (by kernel_rfl) (by decide) (by decide) (fun K hK=> ?_) (fun K hK=> ?_)
       ·skip
        refine fM Tryz.func61 (by kernel_rfl) rfl #[.agg #[u0,u1,u2,u3,.int .i64 n1.sd],.agg #[.int .i64 sa,.int .i64 sb,.string sx]] (by rfl) rfl rfl (by (try simp only [List.map_toArray,List.map_cons,List.map_nil]);first|done|rfl) ?_
        have cE:=bP.calls (n:=n1) (HS) T2.out
        refine cE.mono ?_
        clear cE ah
        rintro e W_ ⟨rfl,fX⟩
        refine ⟨_,rfl,?_⟩
        clear HS
        have HS:=fX
        clear fX
        dsimp only [eO,List.cons_append,List.nil_append] at HS
        have fj:=an (HS.aI 6)
        have gR:=ck (HS.aI 4)
        refine hK.out _ _ ⟨fj.1,fj.2.1,fj.2.2.1,fj.2.2.2.1,fj.2.2.2.2.1,gR.1,gR.2.1,gR.2.2.1⟩ (fun ah=> ?_)
        clear hK K fj gR
        refine cM (a':= ?_) ?_ ?_
        rotate_left
        ·show Act.put _ (some 37) _=_
         simp only [Act.put,List.setIfInBounds_toArray,List.set_cons_zero,List.set_cons_succ,bW,cA]
         rfl
        refine ag 4 (some 33) 10 31 aA ?_
        refine ag 5 (some 38) 10 63 aA ?_
        refine ag 6 (some 39) 10 127 aA ?_
        refine fJ 7 (some 12) 10 255 aA (fun K hK=> ?_)
        clear ah
        refine nP ?hg (N:=12) ?hd (cs:= #[.slice none 0 0,.slice none 0 0,.slice none 0 0,.slice none 0 0,.int .i64 0]) (t:=27) ?hr ?_;(case hd=>rfl);(case hg=>rfl);(case hr=>first|(go_simp;done)|(go_simp;rfl))
        intro ZE bK W_ bD aW
        replace HS:=HS.box bK bD aW
        clear bK bD aW
        have fj:=an (HS.aI 7)
        have gR:=ck (HS.aI 5)
        refine hK.out _ _ ⟨fj.1,fj.2.1,fj.2.2.1,fj.2.2.2.1,fj.2.2.2.2.1,gR.1,gR.2.1,gR.2.2.1⟩ (fun ah=> ?_)
        clear hK K fj gR
        refine cM (a':= ?_) ?_ ?_
        rotate_left
        ·show Act.put _ (some 12) _=_
         simp only [Act.put,List.setIfInBounds_toArray,List.set_cons_zero,List.set_cons_succ,bW,cA]
         rfl
        exact cM (by simp only [kE,Act.put,List.setIfInBounds_toArray,List.set_cons_zero,List.set_cons_succ]) (qW (u0,u1,u2,u3,ZE) _ (HS))
       ·skip
        clear ah
        refine nP ?hg (N:=12) ?hd (cs:= #[.slice none 0 0,.slice none 0 0,.slice none 0 0,.slice none 0 0,.int .i64 0]) (t:=27) ?hr ?_;(case hd=>rfl);(case hg=>rfl);(case hr=>first|(go_simp;done)|(go_simp;rfl))
        intro ZE bK W_ bD aW
        replace HS:=HS.box bK bD aW
        clear bK bD aW
        have fj:=an (HS.aI 7)
        have gR:=ck (HS.aI 5)
        refine hK.out _ _ ⟨fj.1,fj.2.1,fj.2.2.1,fj.2.2.2.1,fj.2.2.2.2.1,gR.1,gR.2.1,gR.2.2.1⟩ (fun ah=> ?_)
        clear hK K fj gR
        refine cM (a':= ?_) ?_ ?_
        rotate_left
        ·show Act.put _ (some 12) _=_
         simp only [Act.put,List.setIfInBounds_toArray,List.set_cons_zero,List.set_cons_succ,bW,cA]
         rfl
        refine fJ 3 (some 37) 10 143 aA (fun K hK=> ?_)
        refine fM Tryz.func61 (by kernel_rfl) rfl #[.agg #[u0,u1,u2,u3,.int .i64 n1.sd],.agg #[.int .i64 sa,.int .i64 sb,.string sx]] (by rfl) rfl rfl (by (try simp only [List.map_toArray,List.map_cons,List.map_nil]);first|done|rfl) ?_
        have cE:=bP.calls (n:=n1) (HS.j9.j9.j9.j9) T2.out
        refine cE.mono ?_
        clear cE ah
        rintro e W_ ⟨rfl,fX⟩
        refine ⟨_,rfl,?_⟩
        clear HS
        have HS:=fX
        clear fX
        dsimp only [eO,List.cons_append,List.nil_append] at HS
        have fj:=an (HS.aI 7)
        have gR:=ck (HS.aI 5)
        refine hK.out _ _ ⟨fj.1,fj.2.1,fj.2.2.1,fj.2.2.2.1,fj.2.2.2.2.1,gR.1,gR.2.1,gR.2.2.1⟩ (fun ah=> ?_)
        clear hK K fj gR
        refine cM (a':= ?_) ?_ ?_
        rotate_left
        ·show Act.put _ (some 37) _=_
         simp only [Act.put,List.setIfInBounds_toArray,List.set_cons_zero,List.set_cons_succ,bW,cA]
         rfl
        refine ag 4 (some 33) 10 159 aA ?_
        refine ag 5 (some 38) 10 191 aA ?_
        refine ag 6 (some 39) 10 255 aA ?_
        exact cM (by simp only [kE,Act.put,List.setIfInBounds_toArray,List.set_cons_zero,List.set_cons_succ]) (qW (u0,u1,u2,u3,ZE) _ (HS.qB.qB.qB.qB.qB.qB.qB.qB.E4.E4.E4.E4.qB))
      ·skip
       clear ah
       refine nP ?hg (N:=12) ?hd (cs:= #[.slice none 0 0,.slice none 0 0,.slice none 0 0,.slice none 0 0,.int .i64 0]) (t:=27) ?hr ?_;(case hd=>rfl);(case hg=>rfl);(case hr=>first|(go_simp;done)|(go_simp;rfl))
       intro ZE bK W_ bD aW
       replace HS:=HS.box bK bD aW
       clear bK bD aW
       have fj:=an (HS.aI 3)
       have gR:=ck (HS.aI 1)
       refine hK.out _ _ ⟨fj.1,fj.2.1,fj.2.2.1,fj.2.2.2.1,fj.2.2.2.2.1,gR.1,gR.2.1,gR.2.2.1⟩ (fun ah=> ?_)
       clear hK K fj gR
       refine cM (a':= ?_) ?_ ?_
       rotate_left
       ·show Act.put _ (some 12) _=_
        simp only [Act.put,List.setIfInBounds_toArray,List.set_cons_zero,List.set_cons_succ,bW,cA]
        rfl
       refine fJ 1 (some 35) 10 135 aA (fun K hK=> ?_)
       refine fM Tryz.func52 (by kernel_rfl) rfl #[.agg #[.slice E0 n.ks.length f0,.slice E1 n.ps.length f1,.slice E2 n.ss.length f2,.slice E3 n.ib.length f3,.int .i64 n.sd]] (by rfl) rfl rfl (by (try simp only [List.map_toArray,List.map_cons,List.map_nil]);first|done|rfl) ?_
       have cE:=cT.calls (n:=n) (jW HS 5) T1.out
       refine cE.mono ?_
       clear cE ah
       rintro e W_ ⟨u0,u1,u2,u3,rfl,ie,aW⟩
       refine ⟨_,rfl,?_⟩
       replace HS:=HS.news aW ie
       clear ie aW
       dsimp only [eO,List.cons_append,List.nil_append] at HS
       have fj:=an (HS.aI 7)
       have gR:=ck (HS.aI 5)
       refine hK.out _ _ ⟨fj.1,fj.2.1,fj.2.2.1,fj.2.2.2.1,fj.2.2.2.2.1,gR.1,gR.2.1,gR.2.2.1⟩ (fun ah=> ?_)
       clear hK K fj gR
       refine cM (a':= ?_) ?_ ?_
       rotate_left
       ·show Act.put _ (some 35) _=_
        simp only [Act.put,List.setIfInBounds_toArray,List.set_cons_zero,List.set_cons_succ,bW,cA]
        rfl
       refine fJ 3 (some 37) 10 143 aA (fun K hK=> ?_)
       refine fM Tryz.func61 (by kernel_rfl) rfl #[.agg #[u0,u1,u2,u3,.int .i64 n1.sd],.agg #[.int .i64 sa,.int .i64 sb,.string sx]] (by rfl) rfl rfl (by (try simp only [List.map_toArray,List.map_cons,List.map_nil]);first|done|rfl) ?_
       have cE:=bP.calls (n:=n1) (HS) T2.out
       refine cE.mono ?_
       clear cE ah
       rintro e W_ ⟨rfl,fX⟩
       refine ⟨_,rfl,?_⟩
       clear HS
       have HS:=fX
       clear fX
       dsimp only [eO,List.cons_append,List.nil_append] at HS
       have fj:=an (HS.aI 7)
       have gR:=ck (HS.aI 5)
       refine hK.out _ _ ⟨fj.1,fj.2.1,fj.2.2.1,fj.2.2.2.1,fj.2.2.2.2.1,gR.1,gR.2.1,gR.2.2.1⟩ (fun ah=> ?_)
       clear hK K fj gR
       refine cM (a':= ?_) ?_ ?_
       rotate_left
       ·show Act.put _ (some 37) _=_
        simp only [Act.put,List.setIfInBounds_toArray,List.set_cons_zero,List.set_cons_succ,bW,cA]
        rfl
       refine ag 4 (some 33) 10 159 aA ?_
       refine ag 5 (some 38) 10 191 aA ?_
       refine ag 6 (some 39) 10 255 aA ?_
       exact cM (by simp only [kE,Act.put,List.setIfInBounds_toArray,List.set_cons_zero,List.set_cons_succ]) (qW (u0,u1,u2,u3,ZE) _ (HS.qB.qB.qB.qB.qB.qB.qB.qB.E4.E4.E4.E4.qB))
     clear HS ah
     intro s_ W_ HS
     obtain ⟨u0,u1,u2,u3,ZE⟩:=s_
     dsimp only at HS
     have ah:=True.intro
     obtain ⟨Ip,r8,rfl⟩:=HS.lz 1
     obtain ⟨LU,tG,rfl⟩:=HS.gY 2
     obtain ⟨Qe,wM,rfl⟩:=HS.gY 3
     obtain ⟨S5,Ag,rfl⟩:=HS.gY 4
     refine cM (a':= ?_) ?_ ?_
     rotate_left
     ·show kE _ _=_
      simp only [kE,Act.put,List.setIfInBounds_toArray,List.set_cons_zero,List.set_cons_succ,bW,cA]
      rfl
     refine fJ 8 none 10 511 aA (fun K hK=> ?_)
     clear ah
     have Mk:=an (HS.aI 0)
     refine jV (w1:= ?_) (by rfl) rfl ?_ ?_
     rotate_left
     ·go_simp
      rfl
     replace HS:=(((((HS.cq 0 0 (.slice Ip n4.ks.length r8) #[.slice Ip n4.ks.length r8,.slice none 0 0,.slice none 0 0,.slice none 0 0,.int .i64 0]).cq 0 1 (.slice LU n4.ps.length tG) #[.slice Ip n4.ks.length r8,.slice LU n4.ps.length tG,.slice none 0 0,.slice none 0 0,.int .i64 0]).cq 0 2 (.slice Qe n4.ss.length wM) #[.slice Ip n4.ks.length r8,.slice LU n4.ps.length tG,.slice Qe n4.ss.length wM,.slice none 0 0,.int .i64 0]).cq 0 3 (.slice S5 n4.ib.length Ag) #[.slice Ip n4.ks.length r8,.slice LU n4.ps.length tG,.slice Qe n4.ss.length wM,.slice S5 n4.ib.length Ag,.int .i64 0]).cq 0 4 (.int .i64 n4.sd) #[.slice Ip n4.ks.length r8,.slice LU n4.ps.length tG,.slice Qe n4.ss.length wM,.slice S5 n4.ib.length Ag,.int .i64 n4.sd])
     clear Mk
     have fj:=an (HS.aI 7)
     have gR:=ck (HS.aI 5)
     refine hK.out _ _ ⟨fj.1,fj.2.1,fj.2.2.1,fj.2.2.2.1,fj.2.2.2.2.1,gR.1,gR.2.1,gR.2.2.1⟩ (fun ah=> ?_)
     clear hK K fj gR
     refine ag 9 (some 13) 10 1023 aA ?_
     refine eZ (cV aA.out (by kernel_rfl)) ?_
     clear aA ef ah
     have Mk:=an (HS.aI 0)
     have fj:=an (HS.aI 7)
     cases q with
     |false=>
      rw [if_neg (by decide)] at h
      go_wp2_with (first|((with_reducible refine av (N:=44) rfl ?_);refine Kd.gD Kd.bool _ 4 ?hg (N:=44) ?hd (xs:=([false]:List Bool)) (inner:=[.bool false]) (ok:=fun _=>True) (okp:=fun _=>True) ?hr ?hp (fun _ hk=>hk) trivial (Below.refl _ _) (Nat.le_refl _) (by simp) ?_;(case hd=>rfl);(case hg=>rfl);(case hr=>first|(go_simp;done)|(go_simp;rfl));(case hp=>exact (bT.one (show Kd.M Kd.bool _ _ _ false [.bool false] from rfl) (bT.none _ _)));intro FV W_ bD aW _ _;replace HS:=HS.new (A:=rA Kd.bool 4 FV ([false])) aW bD;clear bD aW;obtain ⟨A8,c8,rfl⟩:=HS.lz 0;clear Mk fj;have fj:=an (HS.aI 8))|((with_reducible refine bw (b:= .append) (xs:= #[.tmp 42,.tmp 44]) rfl ?_);at_builtin;have HU:=(HS.mA 0).2.2;replace HS:=HS.zl;refine Sep.DI Kd.bool rfl (.tmp 42) (.tmp 44) 36 4 (.bool false) 1 rfl Tryz.underlying36 EA rfl (by decide) (by omega) (.slice A9 d.length c9) d [false] A8 1 c8 rfl rfl HS HU (fun _ _ _ _ h=>h) (by have:=LL.out;have:=HD.out;omega) ?_;clear HS HU;intro v9' W_ HS;clear fj;have fj:=an (HS.aI 8)))
      replace HS:=HS.mE.tail
      replace HS:=HS.mE.tail
      replace HS:=HS.mE.tail
      replace HS:=HS.mE.tail
      replace HS:=HS.mE.tail
      replace HS:=HS.mE.tail
      replace HS:=HS.mE.tail
      go_roundg (l.length-(j+1))
      case measure=>omega
      case rel=>exact ⟨j+1,_,_,_,_,_,_,gZ hj (Nat.le_trans LL.out (by decide)),⟨h⟩,hj,Nat.le_refl _,by rw [List.length_append,HD.out];rfl,HS⟩
     |true=>
      rw [if_pos rfl] at h
      go_upto_region 11 with fail
      clear Mk fj
      obtain ⟨rC,gU,gX⟩:=(((((HS.cq 7 0 (.slice Ip n4.ks.length r8) #[.slice Ip n4.ks.length r8,.slice E1 n.ps.length f1,.slice E2 n.ss.length f2,.slice E3 n.ib.length f3,.int .i64 n.sd]).cq 7 1 (.slice LU n4.ps.length tG) #[.slice Ip n4.ks.length r8,.slice LU n4.ps.length tG,.slice E2 n.ss.length f2,.slice E3 n.ib.length f3,.int .i64 n.sd]).cq 7 2 (.slice Qe n4.ss.length wM) #[.slice Ip n4.ks.length r8,.slice LU n4.ps.length tG,.slice Qe n4.ss.length wM,.slice E3 n.ib.length f3,.int .i64 n.sd]).cq 7 3 (.slice S5 n4.ib.length Ag) #[.slice Ip n4.ks.length r8,.slice LU n4.ps.length tG,.slice Qe n4.ss.length wM,.slice S5 n4.ib.length Ag,.int .i64 n.sd]).cq 7 4 (.int .i64 n4.sd) #[.slice Ip n4.ks.length r8,.slice LU n4.ps.length tG,.slice Qe n4.ss.length wM,.slice S5 n4.ib.length Ag,.int .i64 n4.sd]).gen
      rw [gU]
      clear HS gU
      have HS:=gX
      clear gX
      have fj:=an (HS.aI 7)
      go_wp2_with (first|((with_reducible refine av (N:=44) rfl ?_);refine Kd.gD Kd.bool _ 4 ?hg (N:=44) ?hd (xs:=([true]:List Bool)) (inner:=[.bool true]) (ok:=fun _=>True) (okp:=fun _=>True) ?hr ?hp (fun _ hk=>hk) trivial (Below.refl _ _) (Nat.le_refl _) (by simp) ?_;(case hd=>rfl);(case hg=>rfl);(case hr=>first|(go_simp;done)|(go_simp;rfl));(case hp=>exact (bT.one (show Kd.M Kd.bool _ _ _ true [.bool true] from rfl) (bT.none _ _)));intro FV W_ bD aW _ _;replace HS:=HS.new (A:=rA Kd.bool 4 FV ([true])) aW bD;clear bD aW;obtain ⟨A8,c8,rfl⟩:=HS.lz 0;clear fj;have fj:=an (HS.aI 8))|((with_reducible refine bw (b:= .append) (xs:= #[.tmp 42,.tmp 44]) rfl ?_);at_builtin;have HU:=(HS.mA 0).2.2;replace HS:=HS.zl;refine Sep.DI Kd.bool rfl (.tmp 42) (.tmp 44) 36 4 (.bool false) 1 rfl Tryz.underlying36 EA rfl (by decide) (by omega) (.slice A9 d.length c9) d [true] A8 1 c8 rfl rfl HS HU (fun _ _ _ _ h=>h) (by have:=LL.out;have:=HD.out;omega) ?_;clear HS HU;intro v9' W_ HS;clear fj;have fj:=an (HS.aI 8)))
      replace HS:=HS.mE.tail
      replace HS:=HS.mE.tail
      replace HS:=HS.jR.tail
      replace HS:=HS.zl.tail
      replace HS:=HS.zl.tail
      replace HS:=HS.zl.tail
      replace HS:=HS.zl.tail
      go_roundg (l.length-(j+1))
      case measure=>omega
      case rel=>exact ⟨j+1,_,_,_,_,_,_,gZ hj (Nat.le_trans LL.out (by decide)),⟨h⟩,hj,Nat.le_refl _,by rw [List.length_append,HD.out];rfl,HS.j9.j9.j9.j9.jw.jw.jw⟩
    ·rw [List.drop_eq_nil_of_le (by omega)] at h
     simp only [cU.l0] at h
     obtain ⟨rfl,rfl⟩:=(Prod.mk.injEq _ _ _ _).mp (Option.some.inj h)
     clear h
     have Li:decide ((j:Int)<(l.length:Int))=false:=decide_eq_false (by omega)
     have fj:=an (HS.aI 1)
     have eR:=an (HS.aI 2)
     go_wp2_with (first|(go_at_call 52;have cE:=cT.calls (n:=n) (jW HS 3) T9.out;refine cE.mono ?_;clear cE;rintro e W_ ⟨z0,z1,z2,z3,rfl,ie,aW⟩;replace HS:=HS.news aW ie;clear ie aW;dsimp only [eO,List.cons_append,List.nil_append] at HS;obtain ⟨Ip,r8,rfl⟩:=HS.lz 0;obtain ⟨LU,tG,rfl⟩:=HS.gY 1;obtain ⟨Qe,wM,rfl⟩:=HS.gY 2;obtain ⟨S5,Ag,rfl⟩:=HS.gY 3;clear fj eR;have fj:=an (HS.aI 5);have eR:=an (HS.aI 6)))
     have HF:=HS.iw 6 (.slice Ip n3.ks.length r8) (.slice LU n3.ps.length tG) (.slice Qe n3.ss.length wM) (.slice S5 n3.ib.length Ag) (.int .i64 n3.sd)
     refine bodyPost_ret (qL rfl _ _ b4 27 #[.slice Ip n3.ks.length r8,.slice LU n3.ps.length tG,.slice Qe n3.ss.length wM,.slice S5 n3.ib.length Ag,.int .i64 n3.sd] (0,0) _ rfl (by exact (HF.aI 6).out) Tryz.underlying27 rfl (by kernel_rfl)) rfl ?_
     replace HS:=HF
     have HF:=HS
     exact ⟨_,_,_,_,_,rfl,Bi HF,HF.base⟩
def jr.f (bV:List Int) (eK:Int) (fI:Int):Option (Int×Int×Int):=(aY.f bV eK fI 256).bind fun zC=>((aY.f bV zC.2.1 zC.2.2 256).bind fun zB=>((aY.f bV zB.2.1 zB.2.2 256).bind fun zA=>((aY.f bV zA.2.1 zA.2.2 256).bind fun zz=>((cB.f bV zz.2.1 zz.2.2 (([0,1,65535,wrap64 ((wrap64 (zC.1*256))+zB.1),wrap64 ((wrap64 (zA.1*256))+zz.1)]:List Int))).bind fun ri=>(some (ri.1,ri.2.1,ri.2.2))))))
theorem jr.calls (g:Nat) (bV:List Int) (eK:Int) (fI:Int) (r1:Int) (r2:Int) (r3:Int) (w0 w:World) (hI:ay w0 w g bV eK fI) (hB:Below w0.heap.size w0 w) (h:jr.f bV eK fI=some (r1,r2,r3)):
  Calls Tryz.prog 99 #[.pointer (some ⟨g,0,none⟩)] w fun e w'=>e= .returned (.int .i64 r1)∧ay w0 w' g bV r2 r3∧Below w0.heap.size w0 w'∧aZ w w' g none:=by
 have dS:=ak hI
 have HK:=ak (aZ.refl w g none)
 have HL:=ak hB.size
 clear hI
 have JW:=ak hB.size
 have HB:=ak hB;clear hB
 have H:((aY.f bV eK fI 256).bind fun zC=>((aY.f bV zC.2.1 zC.2.2 256).bind fun zB=>((aY.f bV zB.2.1 zB.2.2 256).bind fun zA=>((aY.f bV zA.2.1 zA.2.2 256).bind fun zz=>((cB.f bV zz.2.1 zz.2.2 (([0,1,65535,wrap64 ((wrap64 (zC.1*256))+zB.1),wrap64 ((wrap64 (zA.1*256))+zz.1)]:List Int))).bind fun ri=>(some (ri.1,ri.2.1,ri.2.2)))))))=some (r1,r2,r3):=h
 clear h;replace H:=bS H;obtain ⟨⟨Kp,aay,aax⟩,A2,H⟩:=H
 dsimp only at H
 replace H:=bS H;obtain ⟨⟨Ko,aaw,aav⟩,A3,H⟩:=H
 dsimp only at H
 replace H:=bS H;obtain ⟨⟨Kn,aau,aat⟩,A4,H⟩:=H
 dsimp only at H
 replace H:=bS H;obtain ⟨⟨Km,QH,QG⟩,A5,H⟩:=H
 dsimp only at H
 obtain ⟨ZK,ez⟩:∃y_:List Int,y_=(([0,1,65535,wrap64 ((wrap64 (Kp*256))+Ko),wrap64 ((wrap64 (Kn*256))+Km)]:List Int)):=⟨_,rfl⟩
 replace H:((cB.f bV QH QG ZK).bind fun ri=>(some (ri.1,ri.2.1,ri.2.2)))=some (r1,r2,r3):=yH
 have Ut:=ak ez;clear ez;replace H:=bS H;obtain ⟨⟨ae2,ae1,ae0⟩,A6,H⟩:=H
 dsimp only at H
 simp only [Option.some.injEq,Prod.mk.injEq] at H
 obtain ⟨rfl,rfl,rfl⟩:=H
 go_enter Tryz.func99,Tryz.ntmps99
 go_wp2_with (first|((with_reducible refine eW (f:=78) rfl ?_);refine l7 (some 5) rfl Tryz.func78 #[.pointer (some ⟨g,0,none⟩),.int .i64 256] rfl ?_;(with_reducible refine (aY.calls g bV eK fI 256 Kp aay aax w0 _ ?side1 ?side2 A2.out).mono ?_);(case side1=>exact ay.d dS);(case side2=>exact ay.b HB dS);rintro e w7 ⟨rfl,hi,hb,hk⟩;refine ⟨_,rfl,?_⟩;replace HK:=ak (aZ.trans (mO HK) hk (.inl rfl));replace HB:=ak (hb);replace dS:=ak (hi);(try clear hb);(try clear hk);(try clear hi))|((with_reducible refine eW (f:=78) rfl ?_);refine l7 (some 8) rfl Tryz.func78 #[.pointer (some ⟨g,0,none⟩),.int .i64 256] rfl ?_;(with_reducible refine (aY.calls g bV aay aax 256 Ko aaw aav w0 _ ?side1 ?side2 A3.out).mono ?_);(case side1=>exact ay.d dS);(case side2=>exact ay.b HB dS);rintro e w8 ⟨rfl,hi,hb,hk⟩;refine ⟨_,rfl,?_⟩;replace HK:=ak (aZ.trans (mO HK) hk (.inl rfl));replace HB:=ak (hb);replace dS:=ak (hi);(try clear hb);(try clear hk);(try clear hi))|((with_reducible refine eW (f:=78) rfl ?_);refine l7 (some 11) rfl Tryz.func78 #[.pointer (some ⟨g,0,none⟩),.int .i64 256] rfl ?_;(with_reducible refine (aY.calls g bV aaw aav 256 Kn aau aat w0 _ ?side1 ?side2 A4.out).mono ?_);(case side1=>exact ay.d dS);(case side2=>exact ay.b HB dS);rintro e w9 ⟨rfl,hi,hb,hk⟩;refine ⟨_,rfl,?_⟩;replace HK:=ak (aZ.trans (mO HK) hk (.inl rfl));replace HB:=ak (hb);replace dS:=ak (hi);(try clear hb);(try clear hk);(try clear hi))|((with_reducible refine eW (f:=78) rfl ?_);refine l7 (some 14) rfl Tryz.func78 #[.pointer (some ⟨g,0,none⟩),.int .i64 256] rfl ?_;(with_reducible refine (aY.calls g bV aau aat 256 Km QH QG w0 _ ?side1 ?side2 A5.out).mono ?_);(case side1=>exact ay.d dS);(case side2=>exact ay.b HB dS);rintro e w10 ⟨rfl,hi,hb,hk⟩;refine ⟨_,rfl,?_⟩;replace HK:=ak (aZ.trans (mO HK) hk (.inl rfl));replace HB:=ak (hb);replace dS:=ak (hi);(try clear hb);(try clear hk);(try clear hi))|((with_reducible refine av (N:=16) rfl ?_);refine Kd.gD (Kd.int .i64) _ 3 ?hg (N:=16) ?hd (xs:=([0,1,65535,wrap64 ((wrap64 (Kp*256))+Ko),wrap64 ((wrap64 (Kn*256))+Km)]:List Int)) (inner:=[.int .i64 0,.int .i64 1,.int .i64 65535,.int .i64 (wrap64 ((wrap64 (Kp*256))+Ko)),.int .i64 (wrap64 ((wrap64 (Kn*256))+Km))]) (ok:=fun _=>True) (okp:=fun _=>True) ?hr ?hp (fun _ hk=>hk) trivial (Below.refl _ _) (Nat.le_refl _) (by simp) ?_;(case hd=>rfl);(case hg=>rfl);(case hr=>exact rZ);(case hp=>exact (bT.one (show Kd.M (Kd.int .i64) _ _ _ 0 [.int .i64 0] from rfl) (bT.one (show Kd.M (Kd.int .i64) _ _ _ 1 [.int .i64 1] from rfl) (bT.one (show Kd.M (Kd.int .i64) _ _ _ 65535 [.int .i64 65535] from rfl) (bT.one (show Kd.M (Kd.int .i64) _ _ _ (wrap64 ((wrap64 (Kp*256))+Ko)) [.int .i64 (wrap64 ((wrap64 (Kp*256))+Ko))] from rfl) (bT.one (show Kd.M (Kd.int .i64) _ _ _ (wrap64 ((wrap64 (Kn*256))+Km)) [.int .i64 (wrap64 ((wrap64 (Kn*256))+Km))] from rfl) (bT.none _ _)))))));intro ajc Vh N9 hb bK dP;clear bK dP;(first|rw [←Ut.out] at N9|(simp only [Int.reduceToNat] at N9;rw [←Ut.out] at N9));have BV:=ak (Kd.dz N9 (iT (w:=w) (g:=g) (row:=none) (mO HK)));replace HK:=ak (aZ.trans (mO HK) (aZ.lY hb g none) (.inl rfl));replace HB:=ak (aH (ay.b HB dS) hb);replace dS:=ak (ay.below (ay.d dS) hb);clear hb N9;obtain ⟨akx,ahr,Sq⟩:=Kd.de BV.out;subst Sq)|(go_at_call 100;(with_reducible refine (cB.calls g bV QH QG _ _ ZK ae2 ae1 ae0 w0 _ ?side1 ?side2 ?side3 ?side4 ?side5 A6.out).mono ?_);(case side1=>exact ay.d dS);(case side2=>exact ay.b HB dS);(case side3=>exact cd (Kd.aJ BV.out).2.2);(case side4=>exact (Kd.aJ BV.out).2.1);(case side5=>exact nC (ay.lX dS.out BV.out (by decide)));rintro e w14 ⟨rfl,hi,hb,hk⟩;replace BV:=ak (Kd.bJ (Kd.jj (ay.apart (show ay w0 _ g bV QH QG from ay.d dS) (dH BV) (by decide)) hk (fun _ h=>h.2)) (fun _ h=>h.1));replace HK:=ak (aZ.trans (mO HK) hk (.inl rfl));replace HB:=ak (hb);replace dS:=ak (hi);(try clear hb);(try clear hk);(try clear hi)))
 go_ret
 exact ⟨kK,ay.d dS,ay.b HB dS,mO HK⟩
def bX.l0:Nat→List Int→Int→List Int→Int→Int→Option (List Int×Int×Int)
  |0,_,_,_,_,_=>none
  |k+1,x3,x4,lT,tM,tL=>if x4>0 then ((jr.f lT tM tL).bind fun O4=>(if x3.length<17592186044416 then (bX.l0 k (x3++[O4.1]) (wrap64 (x4-1)) lT O4.2.1 O4.2.2) else (none))) else ((eS.f lT tM tL 20).bind fun Fq=>(if Fq.1=true then ((cB.f lT Fq.2.1 Fq.2.2 (([(-1),65536,5]:List Int))).bind fun q7=>(if x3.length<17592186044416 then (some ((x3++[q7.1]),q7.2.1,q7.2.2)) else (none))) else (some (x3,Fq.2.1,Fq.2.2))))
def bX.f (k:Nat) (bV:List Int) (eK:Int) (fI:Int):Option (List Int×Int×Int):=(aY.f bV eK fI 4).bind fun zy=>(bX.l0 k ([]:List Int) (wrap64 (1+zy.1)) bV zy.2.1 zy.2.2)
theorem bX.calls (k:Nat) (g:Nat) (bV:List Int) (eK:Int) (fI:Int) (r1:List Int) (r2:Int) (r3:Int) (w0 w:World) (hI:ay w0 w g bV eK fI) (hB:Below w0.heap.size w0 w) (h:bX.f k bV eK fI=some (r1,r2,r3)):
  Calls Tryz.prog 65 #[.pointer (some ⟨g,0,none⟩)] w fun e w'=>∃lG:Value,e= .returned (lG)∧Kd.R (Kd.int .i64) 3 w' w.heap.size (fun _=>True) lG r1∧ay w0 w' g bV r2 r3∧Below w0.heap.size w0 w'∧aZ w w' g none:=by
 have dS:=ak hI
 have HK:=ak (aZ.refl w g none)
 have HL:=ak hB.size
 clear hI
 have JW:=ak hB.size
 have HB:=ak hB;clear hB
 have H:((aY.f bV eK fI 4).bind fun zy=>(bX.l0 k ([]:List Int) (wrap64 (1+zy.1)) bV zy.2.1 zy.2.2))=some (r1,r2,r3):=h
 clear h;replace H:=bS H;obtain ⟨⟨aas,aar,aaq⟩,A2,H⟩:=H
 dsimp only at H
 have H':=ak H
 clear H
 go_enter Tryz.func65,Tryz.ntmps65
 go_wp2_with (first|(go_at_call 78;(with_reducible refine (aY.calls g bV eK fI 4 aas aar aaq w0 _ ?side1 ?side2 A2.out).mono ?_);(case side1=>exact ay.d dS);(case side2=>exact ay.b HB dS);rintro e w3 ⟨rfl,hi,hb,hk⟩;replace HK:=ak (aZ.trans (mO HK) hk (.inl rfl));replace HB:=ak (hb);replace dS:=ak (hi);(try clear hb);(try clear hk);(try clear hi)))
 go_loopg [3,4] k (fun kq v3 v4 w'=>∃(ja:List Int) (gJ:Int) (nt:Int) (nr:Int),v4= .int .i64 gJ∧Aside0 (bX.l0 kq ja gJ bV nt nr=some (r1,r2,r3))∧Aside0 (kq≤k)∧Aside0 (Kd.R (Kd.int .i64) 3 w' w.heap.size (fun _=>True) v3 ja)∧Aside0 (ay w0 w' g bV nt nr)∧Aside0 (aZ w w' g none)∧Aside0 (Below w0.heap.size w0 w'))
 case atStart=>exact ⟨(([]:List Int)),(wrap64 (1+aas)),(aar),(aaq),er,H',⟨Nat.le_refl _⟩,⟨CD⟩,⟨ay.d dS⟩,⟨mO HK⟩,⟨ay.b HB dS⟩⟩
 case round=>
  clear H'
  obtain ⟨ja,gJ,nt,nr,rfl,HA,gf,eT,dS,HK,HB⟩:=hrel
  cases gk with
  |zero=>exact absurd HA.out (by simp [bX.l0])
  |succ k1=>
   have H:=HA.out;clear HA
   simp only [bX.l0] at H
   by_cases c4:gJ>0
   ·rw [if_pos c4] at H
    have jn:=Ma c4
    clear c4;replace H:=bS H;obtain ⟨⟨QF,Vo,Vn⟩,A5,H⟩:=H
    dsimp only at H
    replace H:=dy H;obtain ⟨c6,H⟩:=H;have Yv:=ak c6;clear c6
    obtain ⟨ZJ,ez⟩:∃y_:List Int,y_=(ja++[QF]):=⟨_,rfl⟩
    replace H:(bX.l0 k1 ZJ (wrap64 (gJ-1)) bV Vo Vn)=some (r1,r2,r3):=yH
    have ac9:=ak ez;clear ez
    have H':=ak H
    clear H
    go_wp2_with (first|(go_at_call 99;(with_reducible refine (jr.calls g bV nt nr QF Vo Vn w0 _ ?side1 ?side2 A5.out).mono ?_);(case side1=>exact ay.d dS);(case side2=>exact ay.b HB dS);rintro e w7 ⟨rfl,hi,hb,hk⟩;replace eT:=ak (Kd.bJ (Kd.jj (ay.apart (show ay w0 _ g bV nt nr from ay.d dS) (dH eT) (by decide)) hk (fun _ h=>h.2)) (fun _ h=>h.1));replace HK:=ak (aZ.trans (mO HK) hk (.inl rfl));replace HB:=ak (hb);replace dS:=ak (hi);(try clear hb);(try clear hk);(try clear hi))|((with_reducible refine bw (b:= .append) (xs:= #[.tmp 12,.tmp 15]) rfl ?_);at_builtin;refine Kd.ig (Kd.int .i64) w.heap.size rfl (.tmp 12) (.tmp 15) 22 3 (.int .i64 0) 8 rfl Tryz.underlying22 yX rfl (by decide) (by omega) u3 ja QF [.int .i64 QF] (fun _=>True) (fun _=>False) rfl rfl ?aP (fun _ hk=>hk.elim) ?aF ?aO (Below.refl _ _) ?aS ?aL ?_;(case aP=>exact rfl);(case aF=>exact (fun _ _=>trivial));(case aO=>exact (dH eT));(case aS=>exact (iT (w:=w) (g:=g) (row:=none) (mO HK)));(case aL=>have:=Yv.out;omega);intro ajb w8 ho hb hg eC;rw [←ac9.out] at ho;replace HB:=ak (nv (ay.b HB dS) HL.out hb);replace dS:=ak (ay.grown (ay.d dS) hg (ay.lX dS.out eT.out (by decide)));replace HK:=ak (aZ.trans (mO HK) (aZ.nH hg g) (Kd.xX eT.out));have adO:=ak (ho);clear eT;clear ho hb hg eC))
    go_roundg k1
    case measure=>have:=gf.out;omega
    case rel=>exact ⟨(ZJ),(wrap64 (gJ-1)),(Vo),(Vn),er,H',⟨by have:=gf.out;omega⟩,⟨dH adO⟩,⟨ay.d dS⟩,⟨mO HK⟩,⟨ay.b HB dS⟩⟩
   ·rw [if_neg c4] at H
    have jn:=Mb c4
    clear c4;replace H:=bS H;obtain ⟨⟨aeZ,Eg,Ef⟩,A9,H⟩:=H
    dsimp only at H
    by_cases gW:aeZ=true
    ·subst gW
     have H1:((cB.f bV Eg Ef (([(-1),65536,5]:List Int))).bind fun q7=>(if ja.length<17592186044416 then (some ((ja++[q7.1]),q7.2.1,q7.2.2)) else (none)))=some (r1,r2,r3):=by rw [if_pos rfl] at H;exact H
     clear H
     have H:=H1
     clear H1
     obtain ⟨Vb,ez⟩:∃y_:List Int,y_=(([(-1),65536,5]:List Int)):=⟨_,rfl⟩
     replace H:((cB.f bV Eg Ef Vb).bind fun q7=>(if ja.length<17592186044416 then (some ((ja++[q7.1]),q7.2.1,q7.2.2)) else (none)))=some (r1,r2,r3):=yH
     have Us:=ak ez;clear ez;replace H:=bS H;obtain ⟨⟨QE,aap,aao⟩,Qn,H⟩:=H
     dsimp only at H
     replace H:=dy H;obtain ⟨nW,H⟩:=H;have PN:=ak nW;clear nW
     obtain ⟨aez,ez⟩:∃y_:List Int,y_=(ja++[QE]):=⟨_,rfl⟩
     replace H:(some (aez,aap,aao))=some (r1,r2,r3):=yH
     have ac8:=ak ez;clear ez
     simp only [Option.some.injEq,Prod.mk.injEq] at H
     obtain ⟨rfl,rfl,rfl⟩:=H
     go_wp2_with (first|(go_at_call 77;(with_reducible refine (eS.calls g bV nt nr 20 true Eg Ef w0 _ ?side1 ?side2 A9.out).mono ?_);(case side1=>exact ay.d dS);(case side2=>exact ay.b HB dS);rintro e w13 ⟨rfl,hi,hb,hk⟩;replace eT:=ak (Kd.bJ (Kd.jj (ay.apart (show ay w0 _ g bV nt nr from ay.d dS) (dH eT) (by decide)) hk (fun _ h=>h.2)) (fun _ h=>h.1));replace HK:=ak (aZ.trans (mO HK) hk (.inl rfl));replace HB:=ak (hb);replace dS:=ak (hi);(try clear hb);(try clear hk);(try clear hi))|((with_reducible refine av (N:=21) rfl ?_);refine Kd.gD (Kd.int .i64) _ 3 ?hg (N:=21) ?hd (xs:=([(-1),65536,5]:List Int)) (inner:=[.int .i64 (-1),.int .i64 65536,.int .i64 5]) (ok:=fun _=>True) (okp:=fun _=>True) ?hr ?hp (fun _ hk=>hk) trivial (Below.refl _ _) (Nat.le_refl _) (by simp) ?_;(case hd=>rfl);(case hg=>rfl);(case hr=>exact rZ);(case hp=>exact (bT.one (show Kd.M (Kd.int .i64) _ _ _ (-1) [.int .i64 (-1)] from rfl) (bT.one (show Kd.M (Kd.int .i64) _ _ _ 65536 [.int .i64 65536] from rfl) (bT.one (show Kd.M (Kd.int .i64) _ _ _ 5 [.int .i64 5] from rfl) (bT.none _ _)))));intro aja w14 xg hb bK dP;clear bK dP;(first|rw [←Us.out] at xg|(simp only [Int.reduceToNat] at xg;rw [←Us.out] at xg));have uY:=ak (Kd.dz (Kd.l9 xg (Kd.ji (dH eT))) (iT (w:=w) (g:=g) (row:=none) (mO HK)));replace eT:=ak (Kd.iX (dH eT) (Kd.j3 xg) hb);replace HK:=ak (aZ.trans (mO HK) (aZ.lY hb g none) (.inl rfl));replace HB:=ak (aH (ay.b HB dS) hb);replace dS:=ak (ay.below (ay.d dS) hb);clear hb xg;obtain ⟨Tc,OL,xo⟩:=Kd.de uY.out;subst xo)|(go_at_call 100;(with_reducible refine (cB.calls g bV Eg Ef _ _ Vb QE aap aao w0 _ ?side1 ?side2 ?side3 ?side4 ?side5 Qn.out).mono ?_);(case side1=>exact ay.d dS);(case side2=>exact ay.b HB dS);(case side3=>exact cd (Kd.aJ uY.out).2.2);(case side4=>exact (Kd.aJ uY.out).2.1);(case side5=>exact nC (ay.lX dS.out uY.out (by decide)));rintro e L6 ⟨rfl,hi,hb,hk⟩;replace eT:=ak (Kd.bJ (Kd.jj (ay.apart (show ay w0 _ g bV Eg Ef from ay.d dS) (dH eT) (by decide)) hk (fun _ h=>h.2)) (fun _ h=>h.1));replace uY:=ak (Kd.bJ (Kd.jj (ay.apart (show ay w0 _ g bV Eg Ef from ay.d dS) (dH uY) (by decide)) hk (fun _ h=>h.2)) (fun _ h=>h.1));replace HK:=ak (aZ.trans (mO HK) hk (.inl rfl));replace HB:=ak (hb);replace dS:=ak (hi);(try clear hb);(try clear hk);(try clear hi))|((with_reducible refine bw (b:= .append) (xs:= #[.tmp 19,.tmp 23]) rfl ?_);at_builtin;refine Kd.ig (Kd.int .i64) w.heap.size rfl (.tmp 19) (.tmp 23) 22 3 (.int .i64 0) 8 rfl Tryz.underlying22 yX rfl (by decide) (by omega) u3 ja QE [.int .i64 QE] (fun k_=>some k_≠(.slice Tc Vb.length OL:Value).ownBlock) (fun _=>False) rfl rfl ?aP (fun _ hk=>hk.elim) ?aF ?aO (Below.refl _ _) ?aS ?aL ?_;(case aP=>exact rfl);(case aF=>exact (fun k_ hk=>Kd.gI (Kd.ji (dH uY)) k_ hk));(case aO=>exact (by (with_reducible repeat (first|apply Kd.cz|apply Kd.cy|apply Kd.cD));exact Kd.bJ eT.out (fun _ hk=>hk.2)));(case aS=>exact (iT (w:=w) (g:=g) (row:=none) (mO HK)));(case aL=>have:=PN.out;omega);intro ai9 QA ho hb hg eC;rw [←ac8.out] at ho;replace uY:=ak (Kd.cF (ok:=(fun _=>True)) (dH uY) hg eC);replace HB:=ak (nv (ay.b HB dS) HL.out hb);replace dS:=ak (ay.grown (ay.d dS) hg (ay.lX dS.out eT.out (by decide)));replace HK:=ak (aZ.trans (mO HK) (aZ.nH hg g) (Kd.xX eT.out));have adN:=ak (ho);clear eT;clear ho hb hg eC))
     go_ret
     exact ⟨_,kK,by (with_reducible repeat (first|apply Kd.cz|apply Kd.cy|apply Kd.cD));exact Kd.bJ adN.out (fun _ hk=>trivial),ay.d dS,ay.b HB dS,mO HK⟩
    ·replace gW:=Bool.eq_false_iff.mpr gW
     subst gW
     have H1:(some (ja,Eg,Ef))=some (r1,r2,r3):=by rw [if_neg (show¬(false=true) by decide)] at H;exact H
     clear H
     have H:=H1
     clear H1
     simp only [Option.some.injEq,Prod.mk.injEq] at H
     obtain ⟨rfl,rfl,rfl⟩:=H
     go_wp2_with (first|(go_at_call 77;(with_reducible refine (eS.calls g bV nt nr 20 false Eg Ef w0 _ ?side1 ?side2 A9.out).mono ?_);(case side1=>exact ay.d dS);(case side2=>exact ay.b HB dS);rintro e w19 ⟨rfl,hi,hb,hk⟩;replace eT:=ak (Kd.bJ (Kd.jj (ay.apart (show ay w0 _ g bV nt nr from ay.d dS) (dH eT) (by decide)) hk (fun _ h=>h.2)) (fun _ h=>h.1));replace HK:=ak (aZ.trans (mO HK) hk (.inl rfl));replace HB:=ak (hb);replace dS:=ak (hi);(try clear hb);(try clear hk);(try clear hi)))
     go_ret
     exact ⟨_,kK,by (with_reducible repeat (first|apply Kd.cz|apply Kd.cy|apply Kd.cD));exact eT.out,ay.d dS,ay.b HB dS,mO HK⟩
end Go.Proofs.YtihekdlcfohkkaaGreatDoor.QFnNets
