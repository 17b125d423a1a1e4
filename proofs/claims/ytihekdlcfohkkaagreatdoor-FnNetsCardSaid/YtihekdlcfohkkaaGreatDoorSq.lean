import Derived.Test.YtihekdlcfohkkaaGreatDoorVia
import Derived.Test.YtihekdlcfohkkaaGreatDoorWTab
namespace Go.Proofs.YtihekdlcfohkkaaGreatDoorW.PrintMore
open Go.RowKit Go.Proofs.YtihekdlcfohkkaaGreatDoorW.PrintWords Go.Proofs.YtihekdlcfohkkaaGreatDoorW.PrintLast
theorem ak {p:Prop} (h:p):Aside0 p:=⟨h⟩
theorem az {B g0:Nat} {w w' w2:World} (h:Aside0 (Below B w w')) (k0:Aside0 (B≤g0)) (hw:Below B w w'→B≤g0→Below B w w2:=by intro h_ k0_;repeat (first|(with_reducible first|exact h_|apply dQ|apply ek|apply cO|refine ew ?_ k0_)|exact h_)):Below B w w2:=hw h.out k0.out
theorem gq {B g0 g1:Nat} {w w' w2:World} (h:Aside0 (Below B w w')) (k0:Aside0 (B≤g0)) (k1:Aside0 (B≤g1)) (hw:Below B w w'→B≤g0→B≤g1→Below B w w2:=by intro h_ k0_ k1_;repeat (first|(with_reducible first|exact h_|apply dQ|apply ek|apply cO|refine ew ?_ k0_|refine ew ?_ k1_)|exact h_)):Below B w w2:=hw h.out k0.out k1.out
theorem sd {p q:Prop} (h:Aside0 p) (hw:p→q:=by intro h_;(with_reducible repeat (first|apply Kd.uR|apply Kd.uP|apply Kd.zQ));exact h_):q:=hw h.out
theorem dH {p q:Prop} (h:Aside0 p) (hw:p→q:=by intro h_;(with_reducible repeat (first|apply Kd.cz|apply Kd.cy|apply Kd.cD));exact h_):q:=hw h.out
theorem cd {p q:Prop} (h:p) (hw:p→q:=by intro h_;repeat (first|exact h_|(with_reducible refine Kd.kS ?_ _)|(with_reducible refine Kd.kR ?_ _)|(with_reducible refine Kd.mG ?_))):q:=hw h
theorem mO {p q:Prop} (h:Aside0 p) (hw:p→q:=by intro h_;repeat (first|(with_reducible first|exact h_|apply aZ.Vx|apply yT|apply Bt|apply yU)|exact h_)):q:=hw h.out
theorem oS {p q r:Prop} (h:Aside0 p) (k:Aside0 r) (hw:p→r→q:=by intro h_ k_;repeat (first|(with_reducible first|exact h_|apply aZ.Vx|apply yT|apply Bt|apply yU|refine NB ?_ k_ _)|exact h_)):q:=hw h.out k.out
theorem lI {p q:Prop} (h:Aside0 p) (hw:p→q:=by intro h_;repeat (first|(with_reducible first|exact h_|apply Kept.alloc|apply Kept.drewN|apply Kept.drew)|exact h_)):q:=hw h.out
theorem rZ {p:Prop} (h:p:=by first|(go_simp;done)|(go_simp;rfl)):p:=h
theorem CD {p:Prop} (h:p:=by first|exact Kd.qo _ _ _ _ _|exact Kd.UK _ _ _ _ _|exact Kd.Uo _ _ _ _ _|exact Kd.Ur _ _ _ _ _|exact Kd.qn _ _ _ _ _):p:=h
theorem er {p:Prop} (h:p:=by first|rfl|(simp;done)|(simp [*];done)):p:=h
theorem kK {p:Prop} (h:p:=by first|rfl|(simp [oZ,oY]<;>rfl)|(simp [*,oZ,oY]<;>rfl)):p:=h
theorem gV {p:Prop} (h:p:=by repeat (first|exact cQ.refl _|apply cQ.step)):p:=h
theorem da {p:Prop} [Decidable p] (h:decide p=true:=by first|(with_reducible assumption)|assumption):p:=of_decide_eq_true h
theorem Ma {a b:Int} (h:a>b):decide (b<a)=true:=decide_eq_true h
theorem Mb {a b:Int} (h:¬a>b):decide (b<a)=false:=decide_eq_false h
theorem geT {a b:Int} (h:a≥b):decide (b≤a)=true:=decide_eq_true h
theorem geF {a b:Int} (h:¬a≥b):decide (b≤a)=false:=decide_eq_false h
theorem lO {α:Type} [BEq α] [LawfulBEq α] {a b:α} (h:a=b):(a==b)=true:=beq_iff_eq.mpr h
theorem mR {α:Type} [BEq α] [LawfulBEq α] {a b:α} (h:a=b):(a !=b)=false:=bne_eq_false_iff_eq.mpr h
theorem lq {α:Type} [BEq α] [LawfulBEq α] {a b:α} (h:¬a=b):(a==b)=false:=beq_eq_false_iff_ne.mpr h
theorem mj {α:Type} [BEq α] [LawfulBEq α] {a b:α} (h:¬a=b):(a !=b)=true:=bne_iff_ne.mpr h
theorem ng {i n:Int} {P:Prop} (f:0≤i→i<n→P) (p:decide (0≤i)=true:=by first|(with_reducible assumption)|assumption) (q:decide (i<n)=true:=by first|(with_reducible assumption)|assumption):(0≤i)=True∧(i<n)=True∧P:=⟨eq_true (of_decide_eq_true p),eq_true (of_decide_eq_true q),f (of_decide_eq_true p) (of_decide_eq_true q)⟩
theorem dy {α:Type} {c:Prop} [Decidable c] {x:Option α} {r:α} (h:(if c then x else none)=some r):c∧x=some r:=by
  by_cases hc:c
  · rw [if_pos hc] at h;exact ⟨hc,h⟩
  · rw [if_neg hc] at h;cases h
theorem bS {α β:Type} {x:Option α} {f:α→Option β} {r:β} (h:x.bind f=some r):∃a,Aside0 (x=some a)∧f a=some r:=by
  obtain ⟨a,h1,h2⟩:=Option.bind_eq_some_iff.mp h
  exact ⟨a,⟨h1⟩,h2⟩
theorem bc {w:World} {g:Nat} {t:TypeId} {cs:Array Value} (h:Aside0 (w.heap[g]? =some (.cells cs t (0,0)))) (i:Nat) (v:Value) (e:cs[i]? =some v:=by rfl):w.cell? ⟨g,i,none⟩=some v:=(iH h.out i).trans e
theorem ck {w:World} {g:Nat} {t:TypeId} {v0 v1 v2:Value} (h:Aside0 (w.heap[g]? =some (.cells #[v0,v1,v2] t (0,0)))):w.cell? ⟨g,0,none⟩=some v0∧w.cell? ⟨g,1,none⟩=some v1∧w.cell? ⟨g,2,none⟩=some v2∧w.frozen? ⟨g,0,none⟩=false∧w.frozen? ⟨g,1,none⟩=false∧w.frozen? ⟨g,2,none⟩=false:=⟨(iH h.out 0).trans rfl,(iH h.out 1).trans rfl,(iH h.out 2).trans rfl,eN h.out 0,eN h.out 1,eN h.out 2⟩
theorem an {w:World} {g:Nat} {t:TypeId} {v0 v1 v2 v3 v4:Value} (h:Aside0 (w.heap[g]? =some (.cells #[v0,v1,v2,v3,v4] t (0,0)))):w.cell? ⟨g,0,none⟩=some v0∧w.cell? ⟨g,1,none⟩=some v1∧w.cell? ⟨g,2,none⟩=some v2∧w.cell? ⟨g,3,none⟩=some v3∧w.cell? ⟨g,4,none⟩=some v4∧w.frozen? ⟨g,0,none⟩=false∧w.frozen? ⟨g,1,none⟩=false∧w.frozen? ⟨g,2,none⟩=false∧w.frozen? ⟨g,3,none⟩=false∧w.frozen? ⟨g,4,none⟩=false:=⟨(iH h.out 0).trans rfl,(iH h.out 1).trans rfl,(iH h.out 2).trans rfl,(iH h.out 3).trans rfl,(iH h.out 4).trans rfl,eN h.out 0,eN h.out 1,eN h.out 2,eN h.out 3,eN h.out 4⟩
def bl (n m:Nat):Array Bool:=((List.range n).map m.testBit).toArray
section
variable {P:Program} {md:Region.Mode} {ops:Array Oper} {Q:Exit→Act→World→Prop} {S:World→Prop} {ds:List Nat} {T:Bool×List (List Nat×List Nat)}
theorem ag (i:Nat) (N:Option Tmp) (n m:Nat) (hT:Aside0 (gz md ops=T)) {oi:Oper} {v:Value} {fuel:Nat} {l:Array Bool} {a a':Act} {w:World} (h:bY P md ops Q S ds fuel (bl n m) a' w)
    (hi:ops[i]? =some oi:=by rfl) (hN:oi.dst=N:=by rfl) (hc:SE T l.toList (bl n m).toList i=true:=by kernel_rfl) (hQ:∀c a w,Q (.panic c) (a.put oi.dst v) w→Q (.panic c) a w:=by exact (fun _ _ _ h=>h))
    (hy1:Region.wanted oi (yielded ops a.tmps)=true:=by rfl) (hy2:∀w,(execOp a.eval oi).run P w= .ok (.value v) w:=by (intro w';go_simp;with_reducible rfl))
    (ha:a.put N v=a':=by (simp only [Act.put,List.setIfInBounds_toArray,List.set_cons_zero,List.set_cons_succ,bW,cA];rfl)):bY P md ops Q S ds (fuel+1) l a w:=
  Ew (bl n m) hi hN (Pb hT.out hc) hQ (Or.inl ⟨hy1,hy2⟩) ha h
theorem cL (i:Nat) (N:Option Tmp) (n m:Nat) (hT:Aside0 (gz md ops=T)) {oi:Oper} {fuel:Nat} {l:Array Bool} {a a':Act} {w:World} (h:bY P md ops Q S ds fuel (bl n m) a' w)
    (hi:ops[i]? =some oi:=by rfl) (hN:oi.dst=N:=by rfl) (hc:SE T l.toList (bl n m).toList i=true:=by kernel_rfl) (hQ:∀c a w,Q (.panic c) (a.put oi.dst undef) w→Q (.panic c) a w:=by exact (fun _ _ _ h=>h))
    (hy1:Region.wanted oi (yielded ops a.tmps)=false:=by rfl)
    (ha:a.put N undef=a':=by (simp only [Act.put,List.setIfInBounds_toArray,List.set_cons_zero,List.set_cons_succ,bW,cA];rfl)):bY P md ops Q S ds (fuel+1) l a w:=
  Ew (bl n m) hi hN (Pb hT.out hc) hQ (Or.inr ⟨hy1,rfl⟩) ha h
theorem cg (i:Nat) (N:Option Tmp) (n m:Nat) {B:List Nat} (hT:Aside0 (gz md ops=T)) (hB:Aside0 (dZ T.2 B=true)) {oi:Oper} {v:Value} {fuel:Nat} {l:Array Bool} {a a':Act} {w:World} (hS:S w)
    (h:bY P md ops Q S ds fuel (bl n m) a' w)
    (hi:ops[i]? =some oi:=by rfl) (hN:oi.dst=N:=by rfl) (hc:Mu T B ds l.toList (bl n m).toList i=true:=by kernel_rfl) (hQ:∀c a w,Q (.panic c) (a.put oi.dst v) w→Q (.panic c) a w:=by exact (fun _ _ _ h=>h))
    (hy1:Region.wanted oi (yielded ops a.tmps)=true:=by rfl) (hy:∀w,S w→(execOp a.eval oi).run P w= .ok (.value v) w)
    (ha:a.put N v=a':=by (simp only [Act.put,List.setIfInBounds_toArray,List.set_cons_zero,List.set_cons_succ,bW,cA];rfl)):bY P md ops Q S ds (fuel+1) l a w:=
  IE (bl n m) hi hN (Mt hT.out hB.out hc) hQ (Or.inl ⟨hy1,hy⟩) hS ha h
theorem fJ (i:Nat) (N:Option Tmp) (n m:Nat) (hT:Aside0 (gz md ops=T)) {oi:Oper} {fuel:Nat} {l:Array Bool} {a:Act} {w:World}
    (h:∀K:Act→World→Prop,Shut (∀a' w',S w'→(S w'→bY P md ops Q S ds fuel (bl n m) a' w')→K a' w')→if Region.wanted oi (yielded ops a.tmps)=true then Oper.wp P oi a w K Q else K (a.put N undef) w)
    (hi:ops[i]? =some oi:=by rfl) (hN:oi.dst=N:=by rfl) (hc:(vB T.2 l.toList==[i]&&l.toList.set i true==(bl n m).toList)=true:=by kernel_rfl) (hd:i∉ds:=by decide):
    bY P md ops Q S ds (fuel+1) l a w:=No (bl n m) hi hN (jd hT.out hc) hd h
end
section
variable {P:Program} {ops:Array Oper} {Q:Exit→Act→World→Prop} {o:Oper} {rest:List Oper} {a:Act}
theorem bN {W:World} (N:Tmp) (cs:Array Value) (t:TypeId) (h:∀g,g=W.heap.size→∀w1,w1.heap[g]? =some (.cells cs t (0,0))→Below W.heap.size W w1→wpList P ops Q rest (a.put o.dst (.pointer (some ⟨g,0,none⟩))) w1)
    (hd:o.dst=some N:=by rfl) (hg:o.guard=none:=by rfl) (hr:(execOp a.eval o).run P W= .ok (.value (.pointer (some ⟨W.heap.size,0,none⟩))) (W.alloc (.cells cs t (0,0))):=by first|(go_simp;done)|(go_simp;rfl)):wpList P ops Q (o::rest) a W:=BM hg hd hr h
end
theorem mX {B g:Nat} {w W:World} (hg:g=W.heap.size) (h:Below B w W) (hB:B=w.heap.size:=by rfl):B≤g:=by subst hg hB;exact h.size
theorem yH {p:Prop} (e:p:=by first|(rw [ez];with_reducible exact H)|(have H2_:=(Option.bind_some _ _).symm.trans H;rw [ez];with_reducible exact H2_)|(have H2_:=(Option.bind_some _ _).symm.trans H;with_reducible exact H2_)|with_reducible exact H|(rw [ez];exact H)|exact H):p:=e
theorem Tx {w:World} {p:Addr} {u:Value} {k:Nat} {o:Option Obj} (e:w.heap[k]? =o) (h:k≠p.block:=by first|exact hk.2|exact hk.1.2|exact hk.1.1.2|exact hk.1.1.1.2|exact hk.1.1.1.1.2):(w.setCell p u).heap[k]? =o:=(Below.heap_setCell w p u k h).trans e
theorem D4 {w:World} {n k:Nat} {o:Option Obj} (e:w.heap[k]? =o):(w.drewN n).heap[k]? =o:=e
theorem hs3 {w:World} {k:Nat} {o:Option Obj} (e:w.heap[k]? =o):w.drew.heap[k]? =o:=e
theorem wL {α:Type} {d:Kd α} {e base:Nat} {ok:Nat→Prop} {v:Value} {xs:List α} {w w1:World} (h:d.R e w base ok v xs) (hw:∀k,ok k→k<w.heap.size→w1.heap[k]? =w.heap[k]? :=by (intro k hk hl;repeat (first|(with_reducible rfl)|(with_reducible refine Tx ?_)|(with_reducible refine D4 ?_)|(with_reducible refine hs3 ?_)))):d.R e w1 base ok v xs:=Kd.rE h hw
theorem mA {α:Type} {d:Kd α} {e base:Nat} {ok:Nat→Prop} {A:Option Addr} {n c:Nat} {xs:List α} {w w1:World} {g t:Nat} {cs:Array Value} (h:Aside0 (d.R e w base ok (.slice A n c) xs)) (hb:Aside0 (w.heap[g]? =some (.cells cs t (0,0)))) (ht:∀q,q∈e::d.E→q≠t:=by decide) (hw:∀k,(ok k∧k≠g)→k<w.heap.size→w1.heap[k]? =w.heap[k]? :=by (intro k hk hl;repeat (first|(with_reducible rfl)|(with_reducible refine Tx ?_)|(with_reducible refine D4 ?_)|(with_reducible refine hs3 ?_)))):d.C w1 A xs.length xs:=(Kd.aJ (Kd.rE (Kd.qa h.out hb.out ht) hw)).2.2
theorem rdS {α:Type} {d:Kd α} {e base:Nat} {ok:Nat→Prop} {A:Option Addr} {n c:Nat} {xs:List α} {w w1:World} {g t:Nat} {cs:Array Value} (h:Aside0 (Kd.S d e w base ok (.slice A n c) xs)) (hb:Aside0 (w.heap[g]? =some (.cells cs t (0,0)))) (ht:∀q,q∈e::d.E→q≠t:=by decide) (hw:∀k,(ok k∧k≠g)→k<w.heap.size→w1.heap[k]? =w.heap[k]? :=by (intro k hk hl;repeat (first|(with_reducible rfl)|(with_reducible refine Tx ?_)|(with_reducible refine D4 ?_)|(with_reducible refine hs3 ?_)))):d.C w1 A xs.length xs:=(Kd.rD (Kd.DK (Kd.JS h.out hb.out ht) hw)).2.2
end Go.Proofs.YtihekdlcfohkkaaGreatDoorW.PrintMore
