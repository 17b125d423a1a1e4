import Derived.Test.YtihekdlcfohkkaaGreatDoorSep
namespace Go.Proofs.YtihekdlcfohkkaaGreatDoorW.PrintMore
open Go.RowKit Go.Proofs.YtihekdlcfohkkaaGreatDoorW.PrintWords Go.Proofs.YtihekdlcfohkkaaGreatDoorW.PrintLast
set_option linter.unusedVariables false
section
variable {P:Program} {ops:Array Oper} {rest:List Oper} {o:Oper} {a:Act} {Q:Exit→Act→World→Prop} {α:Type}
theorem Sep.uj (d:Kd α) {Rr:α→List Value→Prop} {w0 W:World} {L:List SA} (wg:o.guard=none) (s x:Operand) (t e:TypeId) (z:Value) (bytes:Nat)
    (ho:o.op= .call { callee:= .builtin .append,args:= #[s,x],argTypes:= #[t,t]})
    (ht:P.underlying t=some (.slice e)) (jS:(P.info? e).map (fun i=>(i.zero,i.size,i.bytes))=some (some z,d.sz,bytes)) (hz:z.cells.size=d.sz) (oX:0<d.sz) (uH:0<bytes)
    (v:Value) (xs ys:List α) (A:Option Addr) (m c:Nat) (hs:a.eval s=v) (hx:a.eval x= .slice A m c)
    (HS:Sep w0 W (rA d e v xs::L)) (HR:fA Rr d.sz W A m ys) (Uv:∀b okp x cs,Rr x cs→d.M W b okp x cs) (hl:(xs.length+m)*bytes≤140737488355328)
    (h:∀v1 w1,Sep w0 w1 (rA d e v1 (xs++ys)::L)→wpList P ops Q rest (a.put o.dst v1) w1):wpList P ops Q (o::rest) a W:=by
  obtain ⟨hB,c',h0,hL⟩:=HS
  exact Kd.eK d (w0:=w0) w0.heap.size wg s x t e z bytes ho ht jS hz oX uH v xs ys A m c (fun k=>c' k=0∨W.heap.size≤k) (fun _=>False) hs hx (Kd.bF h0 (fun _ hk=> .inl hk)) HR (fun x cs hx=>Uv _ _ x cs hx) (fun _ h=>h.elim) (fun _ hk=> .inr hk) hB hB.size hl (fun v1 w1 ho hb hg _=>h v1 w1 (Sep.grown hL (fun k e=>h0.1 k e) hg hb ho))
end
theorem Sep.XG {w0 W:World} {L:List SA} {k:IntKind} {e g n cap:Nat} {xs:List Int} (h:Sep w0 W (rA (Kd.int k) e (.slice (some ⟨g,0,none⟩) n cap) xs::L)) (i x:Int):Sep w0 (W.setCell ⟨g,i.toNat,none⟩ (.int k x)) (rA (Kd.int k) e (.slice (some ⟨g,0,none⟩) n cap) (xs.set i.toNat x)::L):=by
  obtain ⟨hb,c,hR,hL⟩:=h
  have hg0:c g=0:=hR.1 g (by simp [Value.ownBlock])
  have hgb:w0.heap.size≤g:=Kd.nE hR g (by simp [Value.ownBlock])
  exact ⟨dX hb hgb,c,Kd.pN hR i x,dD.to (i:=1) 0 hL (fun k j hj TO eO _=>⟨TO,Below.heap_setCell W _ _ k (fun he=>by
    have h1:k=g:=he
    subst h1
    omega)⟩)⟩
theorem Sep.QL {w0 W:World} {L:List SA} (h:Sep w0 W L) (j:Nat) {k:IntKind} {e g n cap:Nat} {xs:List Int} (i:Int) (h0:0≤i) (h1:i<n) (e1:L.getD j nA=rA (Kd.int k) e (.slice (some ⟨g,0,none⟩) n cap) xs:=by rfl) (hi:j<L.length:=by first|exact of_decide_eq_true rfl|(simp only [List.length_cons,List.length_append];omega)):W.cell? ⟨g,i.toNat,none⟩=some (.int k (rd xs i))∧W.frozen? ⟨g,i.toNat,none⟩=false:=by
  refine ⟨h.DA j i h0 h1 e1 hi,?_⟩
  obtain ⟨ok,h⟩:=h.at j e1 hi
  obtain ⟨_,_,_,_,Uc⟩:=Kd.Ga h (0:Int) i h0 h1
  have Ec:=Uc 0
  rw [show (Kd.int k).sz=1 from rfl,Nat.mul_one,Nat.add_zero] at Ec
  exact Ec
theorem Sep.text {P:Program} {w0 W:World} {L:List SA} {src dst e' e:TypeId} {v:Value} {xs:List Int} (h:Sep w0 W L) (j:Nat) (hs:P.underlying src=some (.slice e)) (he:P.underlying e=some (.int .u8)) (hd:P.underlying dst=some .string) (e1:L.getD j nA=rA (Kd.int .u8) e' v xs:=by rfl) (hi:j<L.length:=by first|exact of_decide_eq_true rfl|(simp only [List.length_cons,List.length_append];omega)):Sem.run P (convert src dst v) W= .ok (.string (strOfNums xs)) W:=by
  obtain ⟨ok,h⟩:=h.at j e1 hi
  exact iP hs he hd (Kd.iG h)
theorem O0 {j n:Nat} {H:List Int} (hH:H=List.replicate j 1) (h:j≤n) (hn:n≤1048576):(H.length+1)*8≤140737488355328:=by
  subst hH
  rw [List.length_replicate]
  omega
theorem Sep.Jr {w0 W:World} {L:List SA} (h:Sep w0 W L) {α:Type} (d:Kd α) (e:Nat):Sep w0 W (sA d e (.slice none 0 0) []::L):=
  h.new (A:=sA d e (.slice none 0 0) []) (ok:=fun _=>True) (Below.refl _ _) (Kd.pV _ _ _ _ _)
theorem Sep.Fg {w0 W W1:World} {L:List SA} {g:Nat} {cs MK:Array Value} {t t':TypeId} (h:Sep w0 W (bA g cs t::L)) (hb:Below w0.heap.size w0 W1) (hk:aN W W1 g none) (ho:W1.heap[g]? =some (.cells MK t' (0,0))):Sep w0 W1 (bA g MK t'::L):=by
  obtain ⟨h1,c,⟨⟨h2,h3⟩,h4⟩,h5⟩:=h
  refine ⟨hb,c,⟨⟨h2,h3⟩,ho⟩,dD.to (i:=1) 0 h5 (fun k q hq hkq eO _=>⟨hkq,hk.2 k eO (fun e=> ?_) (by simp)⟩)⟩
  have h2':c g=0:=h2
  rw [e,h2'] at hkq
  omega
end Go.Proofs.YtihekdlcfohkkaaGreatDoorW.PrintMore
