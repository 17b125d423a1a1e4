-- PRINTED BY print.sh 35421559b90ae4d0a3588c463048766b98c2df88dd9212a6774a882060cdf62d: not written by this session
import Derived.Test.YtihekdlcfohkkaaGreatDoorWWords
import Derived.Test.YtihekdlcfohkkaaGreatDoorWLast
namespace Go.Proofs.YtihekdlcfohkkaaGreatDoorW.PrintWords
open Go.RowKit
namespace Kd
def tag {α:Type} (f:Nat→Nat) (d:Kd α):Kd (α×Nat) where
  sz:=d.sz
  E:=d.E
  K:=fun w x cs=>d.K w x.1 cs
  M:=fun w base ok x cs=>d.M w base (fun k=>ok k∧f k=x.2) x.1 cs
  kO:=fun h=>d.kO h
  jX:=fun h=>d.jX h
  iy:=fun hb h=>d.iy hb h
  fW:=fun h=>d.fW h
  eL:=fun mL h=>d.eL (fun k hk=>⟨mL k hk.1,hk.2⟩) h
  fJ:=fun h=>d.eL (fun _ hk=>⟨⟨hk.1.1,hk.2⟩,hk.1.2⟩) (d.fJ h)
  gF:=fun hm h=>d.gF (fun k hk=>hm k hk.1) h
  iw:=fun hb h=>d.iw hb h
def bare {α:Type} (d:Kd α):Kd α where
  sz:=d.sz
  E:=d.E
  K:=d.K
  M:=fun w base _ x cs=>d.M w base (fun _=>False) x cs
  kO:=fun h=>d.kO h
  jX:=fun h=>d.jX h
  iy:=fun hb h=>d.iy hb h
  fW:=fun h=>d.fW h
  eL:=fun _ h=>h
  fJ:=fun h=>h
  gF:=fun _ h=>d.gF (fun _ hk=>hk.elim) h
  iw:=fun hb h=>d.iw hb h
def raw (sz:Nat):Kd (List Value) where
  sz:=sz
  E:=[]
  K:=fun _ x cs=>cs=x∧cs.length=sz∧∀u∈cs,u.oneCell'=true
  M:=fun _ _ _ x cs=>cs=x∧cs.length=sz∧∀u∈cs,u.oneCell'=true
  kO:=fun h=>h.2.1
  jX:=fun h=>h.2.2
  iy:=fun _ h=>h
  fW:=fun h=>h
  eL:=fun _ h=>h
  fJ:=fun h=>h
  gF:=fun _ h=>h
  iw:=fun _ h=>h
def S {α:Type} (d:Kd α) (e:Nat) (w:World) (base:Nat) (ok:Nat→Prop) (v:Value) (xs:List α):Prop:=∃f,(tag f d).R e w base ok v xs.zipIdx
section
variable {α β:Type} {d:Kd α} {d':Kd β} {e e':Nat} {w w1 W:World} {base b:Nat} {ok ok' V2 oku:Nat→Prop} {u v:Value} {xs:List α} {ys:List β}
theorem qi {xs:List α} {j:Nat} {p:α} (h:xs[j]? =some p):xs.zipIdx[j]? =some (p,j):=by rw [List.getElem?_zipIdx,h,Nat.zero_add];rfl
theorem Vq (h:S d e w base ok v xs):d.R e w base ok v xs:=by
  obtain ⟨f,h0,inner,ho,hr⟩:=h
  rw [List.length_zipIdx] at ho
  exact ⟨h0,inner,ho,by have:=hr.1;rw [List.length_zipIdx] at this;exact this,fun j p hj=>d.eL (fun _ hk=>hk.1) (hr.2 j (p,j) (qi hj))⟩
theorem iu (hE:d.E=[]) (h:d.R e w base ok v xs):d.R e w base (fun k=>some k=v.ownBlock) v xs:=by
  obtain ⟨h0,inner,ho,hr⟩:=h
  refine ⟨fun k hk=>hk.symm,inner,ho,hr.mE (fun p c hp=>d.eL (fun k hk=> ?_) (d.fJ hp))⟩
  obtain ⟨_,_,_,q,hq,_⟩:=hk
  rw [hE] at hq
  cases hq
theorem pV (d:Kd α) (e:Nat) (w:World) (base:Nat) (ok:Nat→Prop):S d e w base ok (.slice none 0 0) []:=⟨fun _=>0,pW _ _ _ _ _⟩
theorem lR (h:S d e w base ok v xs) (mL:∀k,ok k→ok' k):S d e w base ok' v xs:=by
  obtain ⟨f,h⟩:=h
  exact ⟨f,bF h mL⟩
theorem uo (h:S d e w base ok v xs):S d e w base (fun k=>ok k∧base≤k∧k<w.heap.size∧∃q,q∈e::d.E∧∃cells,w.heap[k]? =some (.cells cells q (0,0))) v xs:=by
  obtain ⟨f,h⟩:=h
  exact ⟨f,jc h⟩
theorem Vn (h:S d e w base ok v xs) (hm:∀k,ok k→w1.heap[k]? =w.heap[k]?):S d e w1 base ok v xs:=by
  obtain ⟨f,h⟩:=h
  exact ⟨f,vl h hm⟩
theorem Cg {lX:Nat} (h:S d e w base ok v xs) (hb:lX≤base):S d e w lX ok v xs:=by
  obtain ⟨f,h⟩:=h
  exact ⟨f,dB h hb⟩
theorem F8 (h:S d e w base ok v xs) (hm:∀k,ok k→k<w.heap.size→w1.heap[k]? =w.heap[k]?):S d e w1 base ok v xs:=
  lR (Vn (uo h) (fun k hk=>hm k hk.1 hk.2.2.1)) (fun _ hk=>hk.1)
theorem wS (h:S d e w base ok v xs) (hb:Below w.heap.size w w1):S d e w1 base ok v xs:=F8 h (fun k _ hk=>hb.block k hk)
theorem uq (h:S d e w base ok v xs) (o:Obj):S d e (w.alloc o) base ok v xs:=wS h (dA (Below.refl _ _) o)
theorem yI (h:S d e w base ok v xs):S d e w.drew base ok v xs:=wS h (ig (Below.refl _ _))
theorem um (h:S d e w base ok v xs) (m:Nat):S d e (w.drewN m) base ok v xs:=wS h (dS (Below.refl _ _) m)
theorem Qd (h:S d e w base ok v xs) {g t:Nat} {cells:Array Value} (hb:w.heap[g]? =some (.cells cells t (0,0))) (ht:∀q,q∈e::d.E→q≠t):S d e w base (fun k=>ok k∧k≠g) v xs:=by
  obtain ⟨f,h⟩:=h
  exact ⟨f,jB h hb ht⟩
theorem wR (h:S d e w base ok v xs):∀k,v.ownBlock=some k→∃cells,w.heap[k]? =some (.cells cells e (0,0)):=wT (Vq h)
theorem ae2 (h:S d e w base ok v xs):∀k,v.ownBlock=some k→k<w.heap.size:=rH (Vq h)
theorem Qe (h:S d e W base ok u xs) (XY:∀k,v.ownBlock=some k→∃cells,W.heap[k]? =some (.cells cells e' (0,0))) (ht:∀q,q∈e::d.E→q≠e') (hg:W.grownBy w1 v.ownBlock):S d e w1 base ok u xs:=by
  obtain ⟨f,h⟩:=h
  exact ⟨f,Ch h XY ht hg⟩
theorem D1 (h:S d e W base ok u xs) (hO:∀k,v.ownBlock=some k→W.heap.size≤k) (hb:Below W.heap.size W w1):S d e w1 base (fun k=>ok k∧some k≠v.ownBlock) u xs:=by
  obtain ⟨f,h⟩:=h
  exact ⟨f,mq h hO hb⟩
theorem Qf {v1:Value} (h:S d e W base (fun k=>ok k∧some k≠v.ownBlock) u xs) (hg:W.grownBy w1 v.ownBlock) (gV:v1.ownBlock=v.ownBlock∨∃b,v1.ownBlock=some b∧W.heap.size≤b):S d e w1 base (fun k=>ok k∧some k≠v1.ownBlock) u xs:=by
  obtain ⟨f,h⟩:=h
  exact ⟨f,oc h hg gV⟩
theorem No (h:(bare d).R e w base ok v xs):S d e w base ok v xs:=by
  obtain ⟨h0,inner,ho,hr⟩:=h
  refine ⟨fun _=>0,h0,inner,by rw [List.length_zipIdx];exact ho,by rw [List.length_zipIdx];exact hr.1,fun j p hj=> ?_⟩
  rw [List.getElem?_zipIdx,Nat.zero_add] at hj
  obtain ⟨x,hx,rfl⟩:=Option.map_eq_some_iff.1 hj
  exact d.eL (fun _ hk=>hk.elim) (hr.2 j x hx)
theorem aam {f f':Nat→Nat} {zs:List (α×Nat)} (h:(tag f d).R e w base ok v zs) (hf:∀k,ok k→k<w.heap.size→f' k=f k):(tag f' d).R e w base ok v zs:=by
  obtain ⟨h0,inner,ho,hr⟩:=jc h
  exact ⟨fun k hk=>(h0 k hk).1,inner,ho,hr.1,fun j p hj=>d.eL (fun k hk=>⟨⟨hk.1.1.1,hk.1.2⟩,(hf k hk.1.1.1 hk.1.1.2.2.1).trans hk.2⟩) (hr.2 j p hj)⟩
end
section
variable {α β:Type} {d:Kd α} {d':Kd β} {e e' g:Nat} {w w1 W:World} {base b:Nat} {ok ok' V2 oku:Nat→Prop} {u v:Value} {xs:List α} {ys:List β}
theorem me (h:S d e w base ok v xs):∃A c,v= .slice A xs.length c:=dc (Vq h)
theorem Cf (h:S d e w base ok v xs):∃A c,v= .slice A xs.length c∧xs.length≤c∧d.C w A xs.length xs:=ur (Vq h)
theorem yG {A:Option Addr} {n c:Nat} (h:S d e w base ok (.slice A n c) xs):n=xs.length∧n≤c∧d.C w A xs.length xs:=bL (Vq h)
theorem aak (h:S d e w base ok v xs):∃inner,w.ownsRow base e d.sz v xs.length inner:=yJ (Vq h)
theorem KA (xs:List α) (p:α):(xs++[p]).zipIdx=xs.zipIdx++[(p,xs.length)]:=by rw [List.zipIdx_append];simp
end
section
open Classical in
theorem aaj {α:Type} {d:Kd α} {e base:Nat} {V2:Nat→Prop} {w:World} {v:Value} {xs:List α} (h:S d e w base V2 v xs) (m:Nat) (okp:Nat→Prop) (hap:∀k,okp k→¬V2 k):∃f,(∀k,okp k→f k=m)∧(tag f d).R e w base V2 v xs.zipIdx:=by
  obtain ⟨f,h⟩:=h
  exact ⟨fun k=>if okp k then m else f k,fun k hk=>if_pos hk,aam h (fun k hk _=>if_neg (fun h2=>hap k h2 hk))⟩
variable {P:Program} {ops:Array Oper} {rest:List Oper} {o:Oper} {a:Act} {Q:Exit→Act→World→Prop} {Kc:Act→World→Prop} {α:Type}
theorem D2 (d:Kd α) {w0 W:World} (base:Nat) (wg:o.guard=none) (s x:Operand) (t e:TypeId) (z:Value) (bytes:Nat)
    (ho:o.op= .call { callee:= .builtin .append,args:= #[s,x],argTypes:= #[t,t]})
    (ht:P.underlying t=some (.slice e)) (jS:(P.info? e).map (fun i=>(i.zero,i.size,i.bytes))=some (some z,d.sz,bytes)) (hz:z.cells.size=d.sz) (oX:0<d.sz) (uH:0<bytes)
    (v:Value) (xs:List α) (p:α) (cs:List Value) (ok okp:Nat→Prop) (hs:a.eval s=v) (hx:a.eval x= .slice (some ⟨W.heap.size,0,none⟩) 1 1) (hp:d.M W base okp p cs) (uY:∀k,okp k→ok k∧some k≠v.ownBlock) (iQ:∀k,W.heap.size≤k→ok k)
    (HO:S d e W base (fun k=>ok k∧¬okp k) v xs) (HB:Below base w0 W) (hO:base≤W.heap.size) (hl:(xs.length+1)*bytes≤140737488355328)
    (h:∀v1 w1,S d e w1 base ok v1 (xs++[p])→Below base w0 w1→W.grownBy w1 v.ownBlock→(v1.ownBlock=v.ownBlock∨∃b,v1.ownBlock=some b∧W.heap.size≤b)→wpList P ops Q rest (a.put o.dst v1) w1):
    wpList P ops Q (o::rest) a (W.alloc (.cells cs.toArray e)):=by
  obtain ⟨f,hf,hR⟩:=aaj HO xs.length okp (fun _ hk h2=>h2.2 hk)
  refine lS (tag f d) base wg s x t e z bytes ho ht jS hz oX uH v xs.zipIdx (p,xs.length) cs ok okp hs hx (d.eL (fun k hk=>⟨hk,hf k hk⟩) hp) uY iQ (bF hR (fun _ hk=>hk.1)) HB hO (by rw [List.length_zipIdx];exact hl) ?_
  intro v1 w1 hr
  rw [←KA] at hr
  exact h v1 w1 ⟨f,hr⟩
theorem aal (d:Kd α) {w0 W:World} (base e:Nat) (wg:o.guard=none) {N:Tmp} (_hd:o.dst=some N) {xs:List α} {inner:List Value} {ok okp:Nat→Prop}
    (jR:(execOp a.eval o).run P W= .ok (.value (.slice (some ⟨W.heap.size,0,none⟩) xs.length xs.length)) (W.alloc (.cells inner.toArray e)))
    (Fm:bN (d.M W base (fun _=>False)) d.sz xs inner) (_hok:∀k,okp k→ok k) (iQ:ok W.heap.size) (HB:Below base w0 W) (hO:base≤W.heap.size) (hm:xs.length≤9223372036854775807)
    (h:∀v1 w1,S d e w1 base ok v1 xs→Below base w0 w1→W.grownBy w1 none→(∃b,v1.ownBlock=some b∧W.heap.size≤b)→wpList P ops Q rest (a.put o.dst v1) w1):wpList P ops Q (o::rest) a W:=
  gy (bare d) base e wg _hd (ok:=ok) (okp:=ok) jR Fm (fun _ hk=>hk) iQ HB hO hm (fun v1 w1 hr=>h v1 w1 (No hr))
theorem D0 (d:Kd α) {w0 W:World} (base e:Nat) (hw:Region.wanted o (yielded ops a.tmps)=true) {N:Tmp} (hd:o.dst=some N) (t:TypeId) (x y:Operand) (ho:o.op= .makeSlice t x y) (n:Int) (hx:a.eval x= .int .i64 n) (hy:a.eval y= .int .i64 n)
    (ht:P.underlying t=some (.slice e)) (z:Value) (bytes:Nat) (jS:(P.info? e).map (fun i=>(i.zero,i.size,i.bytes))=some (some z,d.sz,bytes)) (hz:z.cells.size=d.sz) (oX:0<d.sz) (uH:0<bytes)
    (z0:α) {ok okp:Nat→Prop} (hzero:d.M W base (fun _=>False) z0 z.cells.toList) (_hok:∀k,okp k→ok k) (iQ:ok W.heap.size) (h0:0≤n) (hl:n.toNat*bytes≤281474976710656) (HB:Below base w0 W) (hO:base≤W.heap.size)
    (h:∀v1 w1,S d e w1 base ok v1 (List.replicate n.toNat z0)→Below base w0 w1→W.grownBy w1 none→(∃b,v1.ownBlock=some b∧W.heap.size≤b)→Kc (a.put o.dst v1) w1):
    if Region.wanted o (yielded ops a.tmps)=true then Oper.wp P o a W Kc Q else Kc (a.put o.dst undef) W:=
  qO (bare d) base e hw hd t x y ho n hx hy ht z bytes jS hz oX uH z0 (ok:=ok) (okp:=ok) hzero (fun _ hk=>hk) iQ h0 hl HB hO (fun v1 w1 hr=>h v1 w1 (No hr))
end
def V9 {α:Type} (f:Nat→Nat) (d:Kd α) (i:Nat) (c:List Value):Kd (α×Nat) where
  sz:=d.sz
  E:=d.E
  K:=fun w x cs=>(x.2=i→cs=c∧cs.length=d.sz∧∀u∈cs,u.oneCell'=true)∧(x.2≠i→d.K w x.1 cs)
  M:=fun w base ok x cs=>(x.2=i→cs=c∧cs.length=d.sz∧∀u∈cs,u.oneCell'=true)∧(x.2≠i→d.M w base (fun k=>ok k∧f k=x.2) x.1 cs)
  kO:=fun {w x cs} h=>by
    by_cases hx:x.2=i
    · exact (h.1 hx).2.1
    · exact d.kO (h.2 hx)
  jX:=fun {w x cs} h=>by
    by_cases hx:x.2=i
    · exact (h.1 hx).2.2
    · exact d.jX (h.2 hx)
  iy:=fun hb h=>⟨h.1,fun hx=>d.iy hb (h.2 hx)⟩
  fW:=fun h=>⟨h.1,fun hx=>d.fW (h.2 hx)⟩
  eL:=fun mL h=>⟨h.1,fun hx=>d.eL (fun k hk=>⟨mL k hk.1,hk.2⟩) (h.2 hx)⟩
  fJ:=fun h=>⟨h.1,fun hx=>d.eL (fun _ hk=>⟨⟨hk.1.1,hk.2⟩,hk.1.2⟩) (d.fJ (h.2 hx))⟩
  gF:=fun hm h=>⟨h.1,fun hx=>d.gF (fun k hk=>hm k hk.1) (h.2 hx)⟩
  iw:=fun hb h=>⟨h.1,fun hx=>d.iw hb (h.2 hx)⟩
def H {α:Type} (d:Kd α) (e:Nat) (w:World) (base:Nat) (ok:Nat→Prop) (v:Value) (xs:List α) (i:Int) (oki:Nat→Prop) (c:List Value):Prop:=
  (∀k,oki k→ok k)∧∃f,(V9 f d i.toNat c).R e w base (fun k=>ok k∧¬oki k) v xs.zipIdx
section
variable {α β:Type} {d:Kd α} {e e' g n cap:Nat} {w w1 W:World} {base:Nat} {ok ok' oki okp:Nat→Prop} {u v:Value} {xs:List α} {i:Int} {c:List Value}
theorem Vo (h:S d e W base ok (.slice (some ⟨g,0,none⟩) n cap) xs) (z:α) (i:Int) (h0:0≤i) (h1:i<n):
    ∃(oki:Nat→Prop) (c:List Value),c.length=d.sz∧d.M W base oki (xs.getD i.toNat z) c∧(∀j u,c[j]? =some u→W.cell? ⟨g,i.toNat*d.sz+j,none⟩=some u)∧(∀k,oki k→ok k∧k≠g)∧H d e W base ok (.slice (some ⟨g,0,none⟩) n cap) xs i oki c:=by
  obtain ⟨f,hR⟩:=h
  have hn:=(bL hR).1
  rw [List.length_zipIdx] at hn
  have PG:some g=(Value.slice (some ⟨g,0,none⟩) n cap).ownBlock:=by simp [Value.ownBlock]
  obtain ⟨TI,inner,ho,hr⟩:=hR
  have Ft:i.toNat<xs.length:=by omega
  have hlen:inner.length=xs.length*d.sz:=by have:=hr.1;rw [List.length_zipIdx] at this;exact this
  have Pz:i.toNat*d.sz+d.sz≤inner.length:=by rw [hlen,←Nat.succ_mul];exact Nat.mul_le_mul_right _ Ft
  have hM:=hr.2 i.toNat _ (qi (List.getElem?_eq_getElem Ft))
  have hkg:∀k,some k≠(Value.slice (some ⟨g,0,none⟩) n cap).ownBlock→k≠g:=fun k hk he=>hk (by rw [he];exact PG)
  refine ⟨fun k=>(ok k∧k≠g)∧f k=i.toNat,(inner.drop (i.toNat*d.sz)).take d.sz,by rw [List.length_take,List.length_drop];omega,?_,fun j u hu=> ?_,fun k hk=>hk.1,fun k hk=>hk.1.1,f,fun k hk=>⟨TI k hk,fun h2=>h2.1.2 ?_⟩,inner,ho,hr.1,fun m p hm=> ?_⟩
  · rw [List.getD_eq_getElem?_getD,List.getElem?_eq_getElem Ft]
    exact d.eL (fun k hk=>⟨⟨hk.1.1,hkg k hk.1.2⟩,hk.2⟩) hM
  · rw [List.getElem?_take] at hu
    split at hu
    · rw [List.getElem?_drop] at hu
      have:=ho.cells (g:=g) PG.symm _ u hu
      rwa [add_plain] at this
    · cases hu
  · rw [←PG] at hk;injection hk with hk;exact hk.symm
  · have hold:=hr.2 m p hm
    have hp2:p.2=m:=by
      rw [List.getElem?_zipIdx,Nat.zero_add] at hm
      obtain ⟨q,_,rfl⟩:=Option.map_eq_some_iff.1 hm
      rfl
    refine ⟨fun hx=> ?_,fun hx=>d.eL (fun k hk=>⟨⟨⟨hk.1.1,fun h2=>hx ?_⟩,hk.1.2⟩,hk.2⟩) hold⟩
    · have Q5:m=i.toNat:=by omega
      subst Q5
      exact ⟨rfl,d.kO (d.fW hM),d.jX (d.fW hM)⟩
    · rw [←hk.2];exact h2.2
open Classical in
theorem Vy (h:H d e w base ok v xs i oki c) {x':α} (hM:d.M w base okp x' c) (mL:∀k,okp k→oki k):S d e w base ok v (xs.set i.toNat x'):=by
  obtain ⟨ho,f,h0,inner,oL,hr⟩:=h
  refine ⟨fun k=>if oki k then i.toNat else f k,fun k hk=>(h0 k hk).1,inner,by rw [List.length_zipIdx,List.length_set];rw [List.length_zipIdx] at oL;exact oL,by have:=hr.1;rw [List.length_zipIdx] at this;rw [List.length_zipIdx,List.length_set];exact this,fun m p hm=> ?_⟩
  rw [List.getElem?_zipIdx,Nat.zero_add] at hm
  obtain ⟨q,hq,rfl⟩:=Option.map_eq_some_iff.1 hm
  have TL:m<xs.length:=by
    have:=(List.getElem?_eq_some_iff.1 hq).1
    rwa [List.length_set] at this
  by_cases Q5:m=i.toNat
  · subst Q5
    rw [List.getElem?_set_self TL] at hq
    injection hq with hq
    subst hq
    have hc:=((hr.2 i.toNat _ (qi (List.getElem?_eq_getElem TL))).1 rfl).1
    show d.M w base _ x' ((inner.drop (i.toNat*d.sz)).take d.sz)
    rw [show (inner.drop (i.toNat*d.sz)).take d.sz=c from hc]
    exact d.eL (fun k hk=>⟨⟨ho k (mL k hk),fun he=>(h0 k he.symm).2 (mL k hk)⟩,if_pos (mL k hk)⟩) hM
  · rw [List.getElem?_set_ne (Ne.symm Q5)] at hq
    exact d.eL (fun k hk=>⟨⟨hk.1.1.1,hk.1.2⟩,(if_neg hk.1.1.2).trans hk.2⟩) ((hr.2 m (q,m) (qi hq)).2 Q5)
theorem Vp (h:S d e W base ok (.slice (some ⟨g,0,none⟩) n cap) xs) (z:α) (i:Int) (h0:0≤i) (h1:i<n):
    ∃(oki:Nat→Prop) (c:List Value),c.length=d.sz∧d.M W base oki (xs.getD i.toNat z) c∧(∀j u,c[j]? =some u→W.cell? ⟨g,i.toNat*d.sz+j,none⟩=some u)∧(∀j,W.frozen? ⟨g,i.toNat*d.sz+j,none⟩=false)∧(∀k,oki k→ok k∧k≠g)∧H d e W base ok (.slice (some ⟨g,0,none⟩) n cap) xs i oki c:=by
  obtain ⟨_,_,_,_,Uc⟩:=Ga (Vq h) z i h0 h1
  obtain ⟨oki,c,uG,hM,Mv,TG,hH⟩:=Vo h z i h0 h1
  exact ⟨oki,c,uG,hM,Mv,Uc,TG,hH⟩
theorem R6 (h:H d e W base ok (.slice (some ⟨g,0,none⟩) n cap) xs i oki c) (h0:0≤i) (h1:i<n):
    ∃ rows : List (List Value), rows.length = xs.length ∧ (raw d.sz).R e W base (fun _ => True) (.slice (some ⟨g, 0, none⟩) n cap) rows ∧ c.length = d.sz ∧ (∀ u ∈ c, u.oneCell' = true) ∧ (∀ j u, c[j]? = some u → W.cell? ⟨g, i.toNat * d.sz + j, none⟩ = some u) ∧
      ∀w1 c',W.grownBy w1 (some g)→(raw d.sz).R e w1 base (fun _=>True) (.slice (some ⟨g,0,none⟩) n cap) (rows.set i.toNat c')→H d e w1 base ok (.slice (some ⟨g,0,none⟩) n cap) xs i oki c':=by
  obtain ⟨hoo,f,hR⟩:=h
  have hn:=(bL hR).1
  rw [List.length_zipIdx] at hn
  have PG:some g=(Value.slice (some ⟨g,0,none⟩) n cap).ownBlock:=by simp [Value.ownBlock]
  obtain ⟨TI,inner,ho,hr⟩:=hR
  have Ft:i.toNat<xs.length:=by omega
  have hlen:inner.length=xs.length*d.sz:=by have:=hr.1;rw [List.length_zipIdx] at this;exact this
  have hkg:∀k,some k≠(Value.slice (some ⟨g,0,none⟩) n cap).ownBlock→k≠g:=fun k hk he=>hk (by rw [he];exact PG)
  have hci:=(hr.2 i.toNat _ (qi (List.getElem?_eq_getElem Ft))).1 rfl
  rw [hci.1] at hci
  have hc:=((hr.2 i.toNat _ (qi (List.getElem?_eq_getElem Ft))).1 rfl).1
  refine ⟨(List.range xs.length).map fun j=>(inner.drop (j*d.sz)).take d.sz,by rw [List.length_map,List.length_range],⟨fun _ _=>trivial,inner,?_,?_,fun j p hj=> ?_⟩,hci.2.1,hci.2.2,fun j u hu=> ?_,fun w1 c' hg L5=> ?_⟩
  · rw [List.length_map,List.length_range];rw [List.length_zipIdx] at ho;exact ho
  · rw [List.length_map,List.length_range];exact hlen
  · rw [List.getElem?_map] at hj
    obtain ⟨j',uF,rfl⟩:=Option.map_eq_some_iff.1 hj
    obtain ⟨hl,he⟩:=List.getElem?_eq_some_iff.1 uF
    rw [List.getElem_range] at he
    subst he
    rw [List.length_range] at hl
    have hm:=(V9 f d i.toNat c).fW (hr.2 j _ (qi (List.getElem?_eq_getElem hl)))
    exact ⟨rfl,(V9 f d i.toNat c).kO hm,(V9 f d i.toNat c).jX hm⟩
  · rw [←hc,List.getElem?_take] at hu
    split at hu
    · rw [List.getElem?_drop] at hu
      have:=ho.cells (g:=g) PG.symm _ u hu
      rwa [add_plain] at this
    · cases hu
  · obtain ⟨_,AV,ho',hr'⟩:=L5
    have Yd:AV.length=xs.length*d.sz:=by have:=hr'.1;rw [List.length_set,List.length_map,List.length_range] at this;exact this
    rw [List.length_set,List.length_map,List.length_range] at ho'
    refine ⟨hoo,f,TI,AV,by rw [List.length_zipIdx];exact ho',by rw [List.length_zipIdx];exact Yd,fun m p hm=> ?_⟩
    rw [List.getElem?_zipIdx,Nat.zero_add] at hm
    obtain ⟨q,hq,rfl⟩:=Option.map_eq_some_iff.1 hm
    have TL:m<xs.length:=(List.getElem?_eq_some_iff.1 hq).1
    have hold:=hr.2 m (q,m) (qi hq)
    refine ⟨fun hx=> ?_,fun hx=> ?_⟩
    · have hx':m=i.toNat:=hx
      subst hx'
      exact hr'.2 i.toNat c' (List.getElem?_set_self (by rw [List.length_map,List.length_range];exact TL))
    · have hx':m≠i.toNat:=hx
      have Yk:=(hr'.2 m ((inner.drop (m*d.sz)).take d.sz) (by
        rw [List.getElem?_set_ne (Ne.symm hx'),List.getElem?_map,List.getElem?_eq_getElem (by rw [List.length_range];exact TL),List.getElem_range]
        rfl)).1
      show d.M w1 base _ q ((AV.drop (m*d.sz)).take d.sz)
      rw [show (AV.drop (m*d.sz)).take d.sz=_ from Yk]
      exact d.eL (fun k hk=>hk.1) (d.gF (w1:=w1) (fun k hk=>hg.block k hk.2.2.1 (fun he=>hkg k hk.1.1.2 (by injection he))) (d.fJ (hold.2 hx)))
theorem aaX (h:H d e W base ok (.slice (some ⟨g,0,none⟩) n cap) xs i oki c) (h0:0≤i) (h1:i<n) {seg:List Value} {j:Nat} (hj:j+seg.length≤d.sz) (L8:∀q∈seg,q.oneCell'=true):
    H d e (W.setCells g (i.toNat*d.sz+j) seg) base ok (.slice (some ⟨g,0,none⟩) n cap) xs i oki (c.take j++seg++c.drop (j+seg.length))∧W.grownBy (W.setCells g (i.toNat*d.sz+j) seg) (some g):=by
  obtain ⟨rows,_,L5,uG,hco,Mv,Yl⟩:=R6 h h0 h1
  obtain ⟨h2,h3⟩:=aan L5 i h0 h1 (c:=c) (seg:=seg) (j:=j) (x':=c.take j++seg++c.drop (j+seg.length)) (okp:=fun _=>False) uG Mv hj
    ⟨rfl,by
      show (c.take j++seg++c.drop (j+seg.length)).length=d.sz
      simp only [List.length_append,List.length_take,List.length_drop];omega,fun u hu=>by
      rcases List.mem_append.1 hu with hu|hu
      · rcases List.mem_append.1 hu with hu|hu
        · exact hco u (List.mem_of_mem_take hu)
        · exact L8 u hu
      · exact hco u (List.mem_of_mem_drop hu)⟩ (fun _ hk=>hk.elim)
  exact ⟨Yl _ _ h3 h2,h3⟩
end
section
variable {P:Program} {ops:Array Oper} {rest:List Oper} {o:Oper} {a:Act} {Q:Exit→Act→World→Prop} {α:Type}
end
end Kd
end Go.Proofs.YtihekdlcfohkkaaGreatDoorW.PrintWords
