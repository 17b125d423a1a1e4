import Derived.Test.YtihekdlcfohkkaaGreatDoorSep
namespace Go.Proofs.YtihekdlcfohkkaaGreatDoorW.PrintMore
open Go.RowKit Go.Proofs.YtihekdlcfohkkaaGreatDoorW.PrintWords Go.Proofs.YtihekdlcfohkkaaGreatDoorW.PrintLast
set_option linter.unusedVariables false
section
variable {P:Program} {ops:Array Oper} {rest:List Oper} {o:Oper} {a:Act} {Q:Exit→Act→World→Prop} {α:Type}
theorem Sep.DI (d:Kd α) {Rr:α→List Value→Prop} {w0 W:World} {L:List SA} (xk:o.guard=none) (s x:Operand) (t e:TypeId) (z:Value) (bytes:Nat)
    (ho:o.op= .call { callee:= .builtin .append,args:= #[s,x],argTypes:= #[t,t]})
    (ht:P.underlying t=some (.slice e)) (kJ:(P.info? e).map (fun i=>(i.zero,i.size,i.bytes))=some (some z,d.sz,bytes)) (hz:z.cells.size=d.sz) (rY:0<d.sz) (vl:0<bytes)
    (v:Value) (xs ys:List α) (A:Option Addr) (m c:Nat) (hs:a.eval s=v) (hx:a.eval x= .slice A m c)
    (HS:Sep w0 W (rA d e v xs::L)) (HR:fH Rr d.sz W A m ys) (Xm:∀b okp x cs,Rr x cs→d.M W b okp x cs) (hl:(xs.length+m)*bytes≤140737488355328)
    (h:∀v1 w1,Sep w0 w1 (rA d e v1 (xs++ys)::L)→wpList P ops Q rest (a.put o.dst v1) w1):wpList P ops Q (o::rest) a W:=by
  obtain ⟨hB,c',h0,hL⟩:=HS
  exact Kd.cH d (w0:=w0) w0.heap.size xk s x t e z bytes ho ht kJ hz rY vl v xs ys A m c (fun k=>c' k=0∨W.heap.size≤k) (fun _=>False) hs hx (Kd.bJ h0 (fun _ hk=> .inl hk)) HR (fun x cs hx=>Xm _ _ x cs hx) (fun _ h=>h.elim) (fun _ hk=> .inr hk) hB hB.size hl (fun v1 w1 ho hb hg _=>h v1 w1 (Sep.grown hL (fun k e=>h0.1 k e) hg hb ho))
end
theorem Sep.aaO {w0 W:World} {L:List SA} {k:IntKind} {e g n cap:Nat} {xs:List Int} (h:Sep w0 W (rA (Kd.int k) e (.slice (some ⟨g,0,none⟩) n cap) xs::L)) (i x:Int):Sep w0 (W.setCell ⟨g,i.toNat,none⟩ (.int k x)) (rA (Kd.int k) e (.slice (some ⟨g,0,none⟩) n cap) (xs.set i.toNat x)::L):=by
  obtain ⟨hb,c,hR,hL⟩:=h
  have hg0:c g=0:=hR.1 g (by simp [Value.ownBlock])
  have hgb:w0.heap.size≤g:=Kd.j3 hR g (by simp [Value.ownBlock])
  exact ⟨ew hb hgb,c,Kd.qb hR i x,dG.to (i:=1) 0 hL (fun k j hj R2 fl _=>⟨R2,Below.heap_setCell W _ _ k (fun he=>by
    have h1:k=g:=he
    subst h1
    omega)⟩)⟩
theorem Sep.Tn {w0 W:World} {L:List SA} (h:Sep w0 W L) (j:Nat) {k:IntKind} {e g n cap:Nat} {xs:List Int} (i:Int) (h0:0≤i) (h1:i<n) (e1:L.getD j nA=rA (Kd.int k) e (.slice (some ⟨g,0,none⟩) n cap) xs:=by rfl) (hi:j<L.length:=by first|exact of_decide_eq_true rfl|(simp only [List.length_cons,List.length_append];omega)):W.cell? ⟨g,i.toNat,none⟩=some (.int k (rd xs i))∧W.frozen? ⟨g,i.toNat,none⟩=false:=by
  refine ⟨h.Fa j i h0 h1 e1 hi,?_⟩
  obtain ⟨ok,h⟩:=h.at j e1 hi
  obtain ⟨_,_,_,_,WU⟩:=Kd.Ih h (0:Int) i h0 h1
  have FM:=WU 0
  rw [show (Kd.int k).sz=1 from rfl,Nat.mul_one,Nat.add_zero] at FM
  exact FM
theorem Sep.text {P:Program} {w0 W:World} {L:List SA} {src dst e' e:TypeId} {v:Value} {xs:List Int} (h:Sep w0 W L) (j:Nat) (hs:P.underlying src=some (.slice e)) (he:P.underlying e=some (.int .u8)) (hd:P.underlying dst=some .string) (e1:L.getD j nA=rA (Kd.int .u8) e' v xs:=by rfl) (hi:j<L.length:=by first|exact of_decide_eq_true rfl|(simp only [List.length_cons,List.length_append];omega)):Sem.run P (convert src dst v) W= .ok (.string (strOfNums xs)) W:=by
  obtain ⟨ok,h⟩:=h.at j e1 hi
  exact jc hs he hd (Kd.iV h)
theorem Ro {j n:Nat} {H:List Int} (hH:H=List.replicate j 1) (h:j≤n) (hn:n≤1048576):(H.length+1)*8≤140737488355328:=by
  subst hH
  rw [List.length_replicate]
  omega
theorem Sep.KY {w0 W:World} {L:List SA} (h:Sep w0 W L) {α:Type} (d:Kd α) (e:Nat):Sep w0 W (sA d e (.slice none 0 0) []::L):=
  h.new (A:=sA d e (.slice none 0 0) []) (ok:=fun _=>True) (Below.refl _ _) (Kd.qn _ _ _ _ _)
theorem Sep.K6 {w0 W W1:World} {L:List SA} {g:Nat} {cs Ah:Array Value} {t t':TypeId} (h:Sep w0 W (bA g cs t::L)) (hb:Below w0.heap.size w0 W1) (hk:aZ W W1 g none) (ho:W1.heap[g]? =some (.cells Ah t' (0,0))):Sep w0 W1 (bA g Ah t'::L):=by
  obtain ⟨h1,c,⟨⟨h2,h3⟩,h4⟩,h5⟩:=h
  refine ⟨hb,c,⟨⟨h2,h3⟩,ho⟩,dG.to (i:=1) 0 h5 (fun k q hq hkq fl _=>⟨hkq,hk.2 k fl (fun e=> ?_) (by simp)⟩)⟩
  have h2':c g=0:=h2
  rw [e,h2'] at hkq
  omega
def KP (W:World) (g:Nat) (o:Obj):World:= { W with heap:=W.heap.setIfInBounds g o}
theorem yF {W:World} {g:Nat} {o:Obj} :(KP W g o).heap.size=W.heap.size:=by simp [KP]
theorem pI {W:World} {g k:Nat} {o:Obj} (h:k≠g):(KP W g o).heap[k]? =W.heap[k]? :=by simp [KP,h.symm]
theorem vA {W:World} {g:Nat} {o:Obj} (h:g<W.heap.size):(KP W g o).heap[g]? =some o:=by simp [KP,h]
theorem Sep.tY {w0 W W1:World} {L As:List SA} {g:Nat} {cs Ah:Array Value} {t t':TypeId} (h:Sep w0 W (bA g cs t::L)) (hb:Below w0.heap.size w0 W1) (hk:aZ W W1 g none) (ho:W1.heap[g]? =some (.cells Ah t' (0,0))) (ha:∃c,dG c W.heap.size W1 0 As):Sep w0 W1 (As++bA g Ah t'::L):=by
  have hg:g<W.heap.size:=iR (h.aI 0).out
  have hge:w0.heap.size≤g:=h.ge 0
  have e1:(KP W g (.cells Ah t' (0,0))).heap.size=W.heap.size:=yF
  have hm:Sep w0 (KP W g (.cells Ah t' (0,0))) (bA g Ah t'::L):=h.K6 ⟨h.base.os,h.base.tape,h.base.output,by rw [e1];exact h.base.size,fun k GZ=>(pI (by omega)).trans (h.base.block k GZ)⟩ ⟨by rw [e1];exact Nat.le_refl _,fun i _ hi _=>pI hi⟩ (vA hg)
  refine hm.news ⟨hb.os.trans h.base.os.symm,hb.tape.trans h.base.tape.symm,hb.output.trans h.base.output.symm,by rw [e1];exact hk.1,fun k GZ=> ?_⟩ (by rw [e1];exact ha)
  rw [e1] at GZ
  by_cases e:k=g
  · subst e;exact ho.trans (vA hg).symm
  · exact (hk.2 k GZ e (by simp)).trans (pI e).symm
theorem Sep.To {w0 W:World} {L:List SA} {α:Type} {d:Kd α} {e t g n cap:Nat} {xs:List (List α)} (h:Sep w0 W (sA (Kd.slice e d) t (.slice (some ⟨g,0,none⟩) n cap) xs::L)) (h1:0<(n:Int)):∃A q,Sep w0 W (gA (Kd.slice e d) t (.slice (some ⟨g,0,none⟩) n cap) xs 0 (.slice A (xs.getD 0 []).length q)::rA d e (.slice A (xs.getD 0 []).length q) (xs.getD 0 [])::L):=by
  obtain ⟨A,q,h,_,_⟩:=h.yS 0 (Int.le_refl 0) h1
  exact ⟨A,q,h⟩
theorem Sep.sI {w0 W:World} {L:List SA} {α:Type} {d:Kd α} {e t g n cap:Nat} {xs:List (List α)} {u:Value} (h:Sep w0 W (gA (Kd.slice e d) t (.slice (some ⟨g,0,none⟩) n cap) xs 0 u::L)) (h1:0<(n:Int)):W.cell? ⟨g,0,none⟩=some u∧W.frozen? ⟨g,0,none⟩=false:=h.hole (Int.le_refl 0) h1
theorem Sep.TC {w0 W:World} {L:List SA} {α:Type} {d:Kd α} {e t g n cap:Nat} {xs:List (List α)} {u:Value} (h:Sep w0 W (gA (Kd.slice e d) t (.slice (some ⟨g,0,none⟩) n cap) xs 0 u::L)) (h1:0<(n:Int)) (u':Value) (hu:u'.oneCell'=true):Sep w0 (W.setCell ⟨g,0,none⟩ u') (gA (Kd.slice e d) t (.slice (some ⟨g,0,none⟩) n cap) xs 0 u'::L):=h.C2 (Int.le_refl 0) h1 u' hu
theorem Sep.Uk {w0 W:World} {L:List SA} {α:Type} {d:Kd α} {e t:Nat} {v:Value} {xs:List (List α)} {u:Value} {ys:List α} (h:Sep w0 W (gA (Kd.slice e d) t v xs 0 u::rA d e u ys::L)):Sep w0 W (sA (Kd.slice e d) t v (xs.set 0 ys)::L):=h.back
theorem Sep.none {w0 W:World} {L:List SA} (h:Sep w0 W L):Sep w0 W []:=⟨h.base,fun _=>0,trivial⟩
end Go.Proofs.YtihekdlcfohkkaaGreatDoorW.PrintMore
