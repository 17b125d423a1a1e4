-- PRINTED BY print.sh 35421559b90ae4d0a3588c463048766b98c2df88dd9212a6774a882060cdf62d: not written by this session
import Derived.Test.YtihekdlcfohkkaaGreatDoorWWords
import Derived.Test.YtihekdlcfohkkaaGreatDoorWLast
namespace Go.Proofs.YtihekdlcfohkkaaGreatDoorW.PrintWords
open Go.RowKit
namespace Kd
def tag {α:Type} (f:Nat→Nat) (d:Kd α):Kd (α×Nat) where
  sz:=d.sz
  E:=d.E
  K:=fun w x cs=>d.K w x.1 cs
  M:=fun w base ok x cs=>d.M w base (fun k=>ok k∧f k=x.2) x.1 cs
  lM:=fun h=>d.lM h
  lu:=fun h=>d.lu h
  jq:=fun hb h=>d.jq hb h
  gQ:=fun h=>d.gQ h
  fh:=fun nY h=>d.fh (fun k hk=>⟨nY k hk.1,hk.2⟩) h
  gu:=fun h=>d.fh (fun _ hk=>⟨⟨hk.1.1,hk.2⟩,hk.1.2⟩) (d.gu h)
  iK:=fun hm h=>d.iK (fun k hk=>hm k hk.1) h
  jo:=fun hb h=>d.jo hb h
def bare {α:Type} (d:Kd α):Kd α where
  sz:=d.sz
  E:=d.E
  K:=d.K
  M:=fun w base _ x cs=>d.M w base (fun _=>False) x cs
  lM:=fun h=>d.lM h
  lu:=fun h=>d.lu h
  jq:=fun hb h=>d.jq hb h
  gQ:=fun h=>d.gQ h
  fh:=fun _ h=>h
  gu:=fun h=>h
  iK:=fun _ h=>d.iK (fun _ hk=>hk.elim) h
  jo:=fun hb h=>d.jo hb h
def raw (sz:Nat):Kd (List Value) where
  sz:=sz
  E:=[]
  K:=fun _ x cs=>cs=x∧cs.length=sz∧∀u∈cs,u.oneCell'=true
  M:=fun _ _ _ x cs=>cs=x∧cs.length=sz∧∀u∈cs,u.oneCell'=true
  lM:=fun h=>h.2.1
  lu:=fun h=>h.2.2
  jq:=fun _ h=>h
  gQ:=fun h=>h
  fh:=fun _ h=>h
  gu:=fun h=>h
  iK:=fun _ h=>h
  jo:=fun _ h=>h
def S {α:Type} (d:Kd α) (e:Nat) (w:World) (base:Nat) (ok:Nat→Prop) (v:Value) (xs:List α):Prop:=∃f,(tag f d).R e w base ok v xs.zipIdx
section
variable {α β:Type} {d:Kd α} {d':Kd β} {e e':Nat} {w w1 W:World} {base b:Nat} {ok ok' Zh oku:Nat→Prop} {u v:Value} {xs:List α} {ys:List β}
theorem qC {xs:List α} {j:Nat} {p:α} (h:xs[j]? =some p):xs.zipIdx[j]? =some (p,j):=by rw [List.getElem?_zipIdx,h,Nat.zero_add];rfl
theorem Yq (h:S d e w base ok v xs):d.R e w base ok v xs:=by
  obtain ⟨f,h0,inner,ho,hr⟩:=h
  rw [List.length_zipIdx] at ho
  exact ⟨h0,inner,ho,by have:=hr.1;rw [List.length_zipIdx] at this;exact this,fun j p hj=>d.fh (fun _ hk=>hk.1) (hr.2 j (p,j) (qC hj))⟩
theorem iN (hE:d.E=[]) (h:d.R e w base ok v xs):d.R e w base (fun k=>some k=v.ownBlock) v xs:=by
  obtain ⟨h0,inner,ho,hr⟩:=h
  refine ⟨fun k hk=>hk.symm,inner,ho,hr.pQ (fun p c hp=>d.fh (fun k hk=> ?_) (d.gu hp))⟩
  obtain ⟨_,_,_,q,hq,_⟩:=hk
  rw [hE] at hq
  cases hq
theorem qn (d:Kd α) (e:Nat) (w:World) (base:Nat) (ok:Nat→Prop):S d e w base ok (.slice none 0 0) []:=⟨fun _=>0,qo _ _ _ _ _⟩
theorem l8 (h:S d e w base ok v xs) (nY:∀k,ok k→ok' k):S d e w base ok' v xs:=by
  obtain ⟨f,h⟩:=h
  exact ⟨f,bJ h nY⟩
theorem uQ (h:S d e w base ok v xs):S d e w base (fun k=>ok k∧base≤k∧k<w.heap.size∧∃q,q∈e::d.E∧∃cells,w.heap[k]? =some (.cells cells q (0,0))) v xs:=by
  obtain ⟨f,h⟩:=h
  exact ⟨f,kf h⟩
theorem Yn (h:S d e w base ok v xs) (hm:∀k,ok k→w1.heap[k]? =w.heap[k]?):S d e w1 base ok v xs:=by
  obtain ⟨f,h⟩:=h
  exact ⟨f,vW h hm⟩
theorem DM {mq:Nat} (h:S d e w base ok v xs) (hb:mq≤base):S d e w mq ok v xs:=by
  obtain ⟨f,h⟩:=h
  exact ⟨f,dz h hb⟩
theorem DK (h:S d e w base ok v xs) (hm:∀k,ok k→k<w.heap.size→w1.heap[k]? =w.heap[k]?):S d e w1 base ok v xs:=
  l8 (Yn (uQ h) (fun k hk=>hm k hk.1 hk.2.2.1)) (fun _ hk=>hk.1)
theorem xV (h:S d e w base ok v xs) (hb:Below w.heap.size w w1):S d e w1 base ok v xs:=DK h (fun k _ hk=>hb.block k hk)
theorem uR (h:S d e w base ok v xs) (o:Obj):S d e (w.alloc o) base ok v xs:=xV h (dQ (Below.refl _ _) o)
theorem zQ (h:S d e w base ok v xs):S d e w.drew base ok v xs:=xV h (iI (Below.refl _ _))
theorem uP (h:S d e w base ok v xs) (m:Nat):S d e (w.drewN m) base ok v xs:=xV h (ek (Below.refl _ _) m)
theorem JS (h:S d e w base ok v xs) {g t:Nat} {cells:Array Value} (hb:w.heap[g]? =some (.cells cells t (0,0))) (ht:∀q,q∈e::d.E→q≠t):S d e w base (fun k=>ok k∧k≠g) v xs:=by
  obtain ⟨f,h⟩:=h
  exact ⟨f,qa h hb ht⟩
theorem xU (h:S d e w base ok v xs):∀k,v.ownBlock=some k→∃cells,w.heap[k]? =some (.cells cells e (0,0)):=xW (Yq h)
theorem ahI (h:S d e w base ok v xs):∀k,v.ownBlock=some k→k<w.heap.size:=ji (Yq h)
theorem SI (h:S d e W base ok u xs) (hty:∀k,v.ownBlock=some k→∃cells,W.heap[k]? =some (.cells cells e' (0,0))) (ht:∀q,q∈e::d.E→q≠e') (hg:W.grownBy w1 v.ownBlock):S d e w1 base ok u xs:=by
  obtain ⟨f,h⟩:=h
  exact ⟨f,DN h hty ht hg⟩
theorem FB (h:S d e W base ok u xs) (iG:∀k,v.ownBlock=some k→W.heap.size≤k) (hb:Below W.heap.size W w1):S d e w1 base (fun k=>ok k∧some k≠v.ownBlock) u xs:=by
  obtain ⟨f,h⟩:=h
  exact ⟨f,iX h iG hb⟩
theorem SJ {v1:Value} (h:S d e W base (fun k=>ok k∧some k≠v.ownBlock) u xs) (hg:W.grownBy w1 v.ownBlock) (eC:v1.ownBlock=v.ownBlock∨∃b,v1.ownBlock=some b∧W.heap.size≤b):S d e w1 base (fun k=>ok k∧some k≠v1.ownBlock) u xs:=by
  obtain ⟨f,h⟩:=h
  exact ⟨f,cF h hg eC⟩
theorem Pp (h:(bare d).R e w base ok v xs):S d e w base ok v xs:=by
  obtain ⟨h0,inner,ho,hr⟩:=h
  refine ⟨fun _=>0,h0,inner,by rw [List.length_zipIdx];exact ho,by rw [List.length_zipIdx];exact hr.1,fun j p hj=> ?_⟩
  rw [List.getElem?_zipIdx,Nat.zero_add] at hj
  obtain ⟨x,hx,rfl⟩:=Option.map_eq_some_iff.1 hj
  exact d.fh (fun _ hk=>hk.elim) (hr.2 j x hx)
theorem ac4 {f f':Nat→Nat} {zs:List (α×Nat)} (h:(tag f d).R e w base ok v zs) (hf:∀k,ok k→k<w.heap.size→f' k=f k):(tag f' d).R e w base ok v zs:=by
  obtain ⟨h0,inner,ho,hr⟩:=kf h
  exact ⟨fun k hk=>(h0 k hk).1,inner,ho,hr.1,fun j p hj=>d.fh (fun k hk=>⟨⟨hk.1.1.1,hk.1.2⟩,(hf k hk.1.1.1 hk.1.1.2.2.1).trans hk.2⟩) (hr.2 j p hj)⟩
end
section
variable {α β:Type} {d:Kd α} {d':Kd β} {e e' g:Nat} {w w1 W:World} {base b:Nat} {ok ok' Zh oku:Nat→Prop} {u v:Value} {xs:List α} {ys:List β}
theorem mJ (h:S d e w base ok v xs):∃A c,v= .slice A xs.length c:=de (Yq h)
theorem DL (h:S d e w base ok v xs):∃A c,v= .slice A xs.length c∧xs.length≤c∧d.C w A xs.length xs:=uS (Yq h)
theorem rD {A:Option Addr} {n c:Nat} (h:S d e w base ok (.slice A n c) xs):n=xs.length∧n≤c∧d.C w A xs.length xs:=aJ (Yq h)
theorem ac2 (h:S d e w base ok v xs):∃inner,w.ownsRow base e d.sz v xs.length inner:=zR (Yq h)
theorem Mh (xs:List α) (p:α):(xs++[p]).zipIdx=xs.zipIdx++[(p,xs.length)]:=by rw [List.zipIdx_append];simp
end
section
open Classical in
theorem ac1 {α:Type} {d:Kd α} {e base:Nat} {Zh:Nat→Prop} {w:World} {v:Value} {xs:List α} (h:S d e w base Zh v xs) (m:Nat) (okp:Nat→Prop) (hap:∀k,okp k→¬Zh k):∃f,(∀k,okp k→f k=m)∧(tag f d).R e w base Zh v xs.zipIdx:=by
  obtain ⟨f,h⟩:=h
  exact ⟨fun k=>if okp k then m else f k,fun k hk=>if_pos hk,ac4 h (fun k hk _=>if_neg (fun h2=>hap k h2 hk))⟩
variable {P:Program} {ops:Array Oper} {rest:List Oper} {o:Oper} {a:Act} {Q:Exit→Act→World→Prop} {Kc:Act→World→Prop} {α:Type}
theorem FC (d:Kd α) {w0 W:World} (base:Nat) (xk:o.guard=none) (s x:Operand) (t e:TypeId) (z:Value) (bytes:Nat)
    (ho:o.op= .call { callee:= .builtin .append,args:= #[s,x],argTypes:= #[t,t]})
    (ht:P.underlying t=some (.slice e)) (kJ:(P.info? e).map (fun i=>(i.zero,i.size,i.bytes))=some (some z,d.sz,bytes)) (hz:z.cells.size=d.sz) (rY:0<d.sz) (vl:0<bytes)
    (v:Value) (xs:List α) (p:α) (cs:List Value) (ok okp:Nat→Prop) (hs:a.eval s=v) (hx:a.eval x= .slice (some ⟨W.heap.size,0,none⟩) 1 1) (hp:d.M W base okp p cs) (vL:∀k,okp k→ok k∧some k≠v.ownBlock) (je:∀k,W.heap.size≤k→ok k)
    (HO:S d e W base (fun k=>ok k∧¬okp k) v xs) (HB:Below base w0 W) (iG:base≤W.heap.size) (hl:(xs.length+1)*bytes≤140737488355328)
    (h:∀v1 w1,S d e w1 base ok v1 (xs++[p])→Below base w0 w1→W.grownBy w1 v.ownBlock→(v1.ownBlock=v.ownBlock∨∃b,v1.ownBlock=some b∧W.heap.size≤b)→wpList P ops Q rest (a.put o.dst v1) w1):
    wpList P ops Q (o::rest) a (W.alloc (.cells cs.toArray e)):=by
  obtain ⟨f,hf,hR⟩:=ac1 HO xs.length okp (fun _ hk h2=>h2.2 hk)
  refine ig (tag f d) base xk s x t e z bytes ho ht kJ hz rY vl v xs.zipIdx (p,xs.length) cs ok okp hs hx (d.fh (fun k hk=>⟨hk,hf k hk⟩) hp) vL je (bJ hR (fun _ hk=>hk.1)) HB iG (by rw [List.length_zipIdx];exact hl) ?_
  intro v1 w1 hr
  rw [←Mh] at hr
  exact h v1 w1 ⟨f,hr⟩
theorem ac3 (d:Kd α) {w0 W:World} (base e:Nat) (xk:o.guard=none) {N:Tmp} (_hd:o.dst=some N) {xs:List α} {inner:List Value} {ok okp:Nat→Prop}
    (kI:(execOp a.eval o).run P W= .ok (.value (.slice (some ⟨W.heap.size,0,none⟩) xs.length xs.length)) (W.alloc (.cells inner.toArray e)))
    (GY:bT (d.M W base (fun _=>False)) d.sz xs inner) (_hok:∀k,okp k→ok k) (je:ok W.heap.size) (HB:Below base w0 W) (iG:base≤W.heap.size) (hm:xs.length≤9223372036854775807)
    (h:∀v1 w1,S d e w1 base ok v1 xs→Below base w0 w1→W.grownBy w1 none→(∃b,v1.ownBlock=some b∧W.heap.size≤b)→wpList P ops Q rest (a.put o.dst v1) w1):wpList P ops Q (o::rest) a W:=
  gD (bare d) base e xk _hd (ok:=ok) (okp:=ok) kI GY (fun _ hk=>hk) je HB iG hm (fun v1 w1 hr=>h v1 w1 (Pp hr))
theorem FA (d:Kd α) {w0 W:World} (base e:Nat) (hw:Region.wanted o (yielded ops a.tmps)=true) {N:Tmp} (hd:o.dst=some N) (t:TypeId) (x y:Operand) (ho:o.op= .makeSlice t x y) (n:Int) (hx:a.eval x= .int .i64 n) (hy:a.eval y= .int .i64 n)
    (ht:P.underlying t=some (.slice e)) (z:Value) (bytes:Nat) (kJ:(P.info? e).map (fun i=>(i.zero,i.size,i.bytes))=some (some z,d.sz,bytes)) (hz:z.cells.size=d.sz) (rY:0<d.sz) (vl:0<bytes)
    (z0:α) {ok okp:Nat→Prop} (hzero:d.M W base (fun _=>False) z0 z.cells.toList) (_hok:∀k,okp k→ok k) (je:ok W.heap.size) (h0:0≤n) (hl:n.toNat*bytes≤281474976710656) (HB:Below base w0 W) (iG:base≤W.heap.size)
    (h:∀v1 w1,S d e w1 base ok v1 (List.replicate n.toNat z0)→Below base w0 w1→W.grownBy w1 none→(∃b,v1.ownBlock=some b∧W.heap.size≤b)→Kc (a.put o.dst v1) w1):
    if Region.wanted o (yielded ops a.tmps)=true then Oper.wp P o a W Kc Q else Kc (a.put o.dst undef) W:=
  rF (bare d) base e hw hd t x y ho n hx hy ht z bytes kJ hz rY vl z0 (ok:=ok) (okp:=ok) hzero (fun _ hk=>hk) je h0 hl HB iG (fun v1 w1 hr=>h v1 w1 (Pp hr))
end
def Zr {α:Type} (f:Nat→Nat) (d:Kd α) (i:Nat) (c:List Value):Kd (α×Nat) where
  sz:=d.sz
  E:=d.E
  K:=fun w x cs=>(x.2=i→cs=c∧cs.length=d.sz∧∀u∈cs,u.oneCell'=true)∧(x.2≠i→d.K w x.1 cs)
  M:=fun w base ok x cs=>(x.2=i→cs=c∧cs.length=d.sz∧∀u∈cs,u.oneCell'=true)∧(x.2≠i→d.M w base (fun k=>ok k∧f k=x.2) x.1 cs)
  lM:=fun {w x cs} h=>by
    by_cases hx:x.2=i
    · exact (h.1 hx).2.1
    · exact d.lM (h.2 hx)
  lu:=fun {w x cs} h=>by
    by_cases hx:x.2=i
    · exact (h.1 hx).2.2
    · exact d.lu (h.2 hx)
  jq:=fun hb h=>⟨h.1,fun hx=>d.jq hb (h.2 hx)⟩
  gQ:=fun h=>⟨h.1,fun hx=>d.gQ (h.2 hx)⟩
  fh:=fun nY h=>⟨h.1,fun hx=>d.fh (fun k hk=>⟨nY k hk.1,hk.2⟩) (h.2 hx)⟩
  gu:=fun h=>⟨h.1,fun hx=>d.fh (fun _ hk=>⟨⟨hk.1.1,hk.2⟩,hk.1.2⟩) (d.gu (h.2 hx))⟩
  iK:=fun hm h=>⟨h.1,fun hx=>d.iK (fun k hk=>hm k hk.1) (h.2 hx)⟩
  jo:=fun hb h=>⟨h.1,fun hx=>d.jo hb (h.2 hx)⟩
def H {α:Type} (d:Kd α) (e:Nat) (w:World) (base:Nat) (ok:Nat→Prop) (v:Value) (xs:List α) (i:Int) (oki:Nat→Prop) (c:List Value):Prop:=
  (∀k,oki k→ok k)∧∃f,(Zr f d i.toNat c).R e w base (fun k=>ok k∧¬oki k) v xs.zipIdx
section
variable {α β:Type} {d:Kd α} {e e' g n cap:Nat} {w w1 W:World} {base:Nat} {ok ok' oki okp:Nat→Prop} {u v:Value} {xs:List α} {i:Int} {c:List Value}
theorem Yo (h:S d e W base ok (.slice (some ⟨g,0,none⟩) n cap) xs) (z:α) (i:Int) (h0:0≤i) (h1:i<n):
    ∃(oki:Nat→Prop) (c:List Value),c.length=d.sz∧d.M W base oki (xs.getD i.toNat z) c∧(∀j u,c[j]? =some u→W.cell? ⟨g,i.toNat*d.sz+j,none⟩=some u)∧(∀k,oki k→ok k∧k≠g)∧H d e W base ok (.slice (some ⟨g,0,none⟩) n cap) xs i oki c:=by
  obtain ⟨f,hR⟩:=h
  have hn:=(aJ hR).1
  rw [List.length_zipIdx] at hn
  have R4:some g=(Value.slice (some ⟨g,0,none⟩) n cap).ownBlock:=by simp [Value.ownBlock]
  obtain ⟨Ws,inner,ho,hr⟩:=hR
  have G7:i.toNat<xs.length:=by omega
  have hlen:inner.length=xs.length*d.sz:=by have:=hr.1;rw [List.length_zipIdx] at this;exact this
  have RT:i.toNat*d.sz+d.sz≤inner.length:=by rw [hlen,←Nat.succ_mul];exact Nat.mul_le_mul_right _ G7
  have hM:=hr.2 i.toNat _ (qC (List.getElem?_eq_getElem G7))
  have hkg:∀k,some k≠(Value.slice (some ⟨g,0,none⟩) n cap).ownBlock→k≠g:=fun k hk he=>hk (by rw [he];exact R4)
  refine ⟨fun k=>(ok k∧k≠g)∧f k=i.toNat,(inner.drop (i.toNat*d.sz)).take d.sz,by rw [List.length_take,List.length_drop];omega,?_,fun j u hu=> ?_,fun k hk=>hk.1,fun k hk=>hk.1.1,f,fun k hk=>⟨Ws k hk,fun h2=>h2.1.2 ?_⟩,inner,ho,hr.1,fun m p hm=> ?_⟩
  · rw [List.getD_eq_getElem?_getD,List.getElem?_eq_getElem G7]
    exact d.fh (fun k hk=>⟨⟨hk.1.1,hkg k hk.1.2⟩,hk.2⟩) hM
  · rw [List.getElem?_take] at hu
    split at hu
    · rw [List.getElem?_drop] at hu
      have:=ho.cells (g:=g) R4.symm _ u hu
      rwa [add_plain] at this
    · cases hu
  · rw [←R4] at hk;injection hk with hk;exact hk.symm
  · have hold:=hr.2 m p hm
    have hp2:p.2=m:=by
      rw [List.getElem?_zipIdx,Nat.zero_add] at hm
      obtain ⟨q,_,rfl⟩:=Option.map_eq_some_iff.1 hm
      rfl
    refine ⟨fun hx=> ?_,fun hx=>d.fh (fun k hk=>⟨⟨⟨hk.1.1,fun h2=>hx ?_⟩,hk.1.2⟩,hk.2⟩) hold⟩
    · have TE:m=i.toNat:=by omega
      subst TE
      exact ⟨rfl,d.lM (d.gQ hM),d.lu (d.gQ hM)⟩
    · rw [←hk.2];exact h2.2
open Classical in
theorem Yx (h:H d e w base ok v xs i oki c) {x':α} (hM:d.M w base okp x' c) (nY:∀k,okp k→oki k):S d e w base ok v (xs.set i.toNat x'):=by
  obtain ⟨ho,f,h0,inner,oV,hr⟩:=h
  refine ⟨fun k=>if oki k then i.toNat else f k,fun k hk=>(h0 k hk).1,inner,by rw [List.length_zipIdx,List.length_set];rw [List.length_zipIdx] at oV;exact oV,by have:=hr.1;rw [List.length_zipIdx] at this;rw [List.length_zipIdx,List.length_set];exact this,fun m p hm=> ?_⟩
  rw [List.getElem?_zipIdx,Nat.zero_add] at hm
  obtain ⟨q,hq,rfl⟩:=Option.map_eq_some_iff.1 hm
  have Wv:m<xs.length:=by
    have:=(List.getElem?_eq_some_iff.1 hq).1
    rwa [List.length_set] at this
  by_cases TE:m=i.toNat
  · subst TE
    rw [List.getElem?_set_self Wv] at hq
    injection hq with hq
    subst hq
    have hc:=((hr.2 i.toNat _ (qC (List.getElem?_eq_getElem Wv))).1 rfl).1
    show d.M w base _ x' ((inner.drop (i.toNat*d.sz)).take d.sz)
    rw [show (inner.drop (i.toNat*d.sz)).take d.sz=c from hc]
    exact d.fh (fun k hk=>⟨⟨ho k (nY k hk),fun he=>(h0 k he.symm).2 (nY k hk)⟩,if_pos (nY k hk)⟩) hM
  · rw [List.getElem?_set_ne (Ne.symm TE)] at hq
    exact d.fh (fun k hk=>⟨⟨hk.1.1.1,hk.1.2⟩,(if_neg hk.1.1.2).trans hk.2⟩) ((hr.2 m (q,m) (qC hq)).2 TE)
theorem Yp (h:S d e W base ok (.slice (some ⟨g,0,none⟩) n cap) xs) (z:α) (i:Int) (h0:0≤i) (h1:i<n):
    ∃(oki:Nat→Prop) (c:List Value),c.length=d.sz∧d.M W base oki (xs.getD i.toNat z) c∧(∀j u,c[j]? =some u→W.cell? ⟨g,i.toNat*d.sz+j,none⟩=some u)∧(∀j,W.frozen? ⟨g,i.toNat*d.sz+j,none⟩=false)∧(∀k,oki k→ok k∧k≠g)∧H d e W base ok (.slice (some ⟨g,0,none⟩) n cap) xs i oki c:=by
  obtain ⟨_,_,_,_,WU⟩:=Ih (Yq h) z i h0 h1
  obtain ⟨oki,c,vk,hM,Oo,Wr,hH⟩:=Yo h z i h0 h1
  exact ⟨oki,c,vk,hM,Oo,WU,Wr,hH⟩
theorem UN (h:H d e W base ok (.slice (some ⟨g,0,none⟩) n cap) xs i oki c) (h0:0≤i) (h1:i<n):
    ∃ rows : List (List Value), rows.length = xs.length ∧ (raw d.sz).R e W base (fun _ => True) (.slice (some ⟨g, 0, none⟩) n cap) rows ∧ c.length = d.sz ∧ (∀ u ∈ c, u.oneCell' = true) ∧ (∀ j u, c[j]? = some u → W.cell? ⟨g, i.toNat * d.sz + j, none⟩ = some u) ∧
      ∀w1 c',W.grownBy w1 (some g)→(raw d.sz).R e w1 base (fun _=>True) (.slice (some ⟨g,0,none⟩) n cap) (rows.set i.toNat c')→H d e w1 base ok (.slice (some ⟨g,0,none⟩) n cap) xs i oki c':=by
  obtain ⟨hoo,f,hR⟩:=h
  have hn:=(aJ hR).1
  rw [List.length_zipIdx] at hn
  have R4:some g=(Value.slice (some ⟨g,0,none⟩) n cap).ownBlock:=by simp [Value.ownBlock]
  obtain ⟨Ws,inner,ho,hr⟩:=hR
  have G7:i.toNat<xs.length:=by omega
  have hlen:inner.length=xs.length*d.sz:=by have:=hr.1;rw [List.length_zipIdx] at this;exact this
  have hkg:∀k,some k≠(Value.slice (some ⟨g,0,none⟩) n cap).ownBlock→k≠g:=fun k hk he=>hk (by rw [he];exact R4)
  have hci:=(hr.2 i.toNat _ (qC (List.getElem?_eq_getElem G7))).1 rfl
  rw [hci.1] at hci
  have hc:=((hr.2 i.toNat _ (qC (List.getElem?_eq_getElem G7))).1 rfl).1
  refine ⟨(List.range xs.length).map fun j=>(inner.drop (j*d.sz)).take d.sz,by rw [List.length_map,List.length_range],⟨fun _ _=>trivial,inner,?_,?_,fun j p hj=> ?_⟩,hci.2.1,hci.2.2,fun j u hu=> ?_,fun w1 c' hg NV=> ?_⟩
  · rw [List.length_map,List.length_range];rw [List.length_zipIdx] at ho;exact ho
  · rw [List.length_map,List.length_range];exact hlen
  · rw [List.getElem?_map] at hj
    obtain ⟨j',Qq,rfl⟩:=Option.map_eq_some_iff.1 hj
    obtain ⟨hl,he⟩:=List.getElem?_eq_some_iff.1 Qq
    rw [List.getElem_range] at he
    subst he
    rw [List.length_range] at hl
    have hm:=(Zr f d i.toNat c).gQ (hr.2 j _ (qC (List.getElem?_eq_getElem hl)))
    exact ⟨rfl,(Zr f d i.toNat c).lM hm,(Zr f d i.toNat c).lu hm⟩
  · rw [←hc,List.getElem?_take] at hu
    split at hu
    · rw [List.getElem?_drop] at hu
      have:=ho.cells (g:=g) R4.symm _ u hu
      rwa [add_plain] at this
    · cases hu
  · obtain ⟨_,CG,ho',hr'⟩:=NV
    have hl':CG.length=xs.length*d.sz:=by have:=hr'.1;rw [List.length_set,List.length_map,List.length_range] at this;exact this
    rw [List.length_set,List.length_map,List.length_range] at ho'
    refine ⟨hoo,f,Ws,CG,by rw [List.length_zipIdx];exact ho',by rw [List.length_zipIdx];exact hl',fun m p hm=> ?_⟩
    rw [List.getElem?_zipIdx,Nat.zero_add] at hm
    obtain ⟨q,hq,rfl⟩:=Option.map_eq_some_iff.1 hm
    have Wv:m<xs.length:=(List.getElem?_eq_some_iff.1 hq).1
    have hold:=hr.2 m (q,m) (qC hq)
    refine ⟨fun hx=> ?_,fun hx=> ?_⟩
    · have hx':m=i.toNat:=hx
      subst hx'
      exact hr'.2 i.toNat c' (List.getElem?_set_self (by rw [List.length_map,List.length_range];exact Wv))
    · have hx':m≠i.toNat:=hx
      have hcm:=(hr'.2 m ((inner.drop (m*d.sz)).take d.sz) (by
        rw [List.getElem?_set_ne (Ne.symm hx'),List.getElem?_map,List.getElem?_eq_getElem (by rw [List.length_range];exact Wv),List.getElem_range]
        rfl)).1
      show d.M w1 base _ q ((CG.drop (m*d.sz)).take d.sz)
      rw [show (CG.drop (m*d.sz)).take d.sz=_ from hcm]
      exact d.fh (fun k hk=>hk.1) (d.iK (w1:=w1) (fun k hk=>hg.block k hk.2.2.1 (fun he=>hkg k hk.1.1.2 (by injection he))) (d.gu (hold.2 hx)))
theorem adH (h:H d e W base ok (.slice (some ⟨g,0,none⟩) n cap) xs i oki c) (h0:0≤i) (h1:i<n) {seg:List Value} {j:Nat} (hj:j+seg.length≤d.sz) (NY:∀q∈seg,q.oneCell'=true):
    H d e (W.setCells g (i.toNat*d.sz+j) seg) base ok (.slice (some ⟨g,0,none⟩) n cap) xs i oki (c.take j++seg++c.drop (j+seg.length))∧W.grownBy (W.setCells g (i.toNat*d.sz+j) seg) (some g):=by
  obtain ⟨rows,_,NV,vk,hco,Oo,aa9⟩:=UN h h0 h1
  obtain ⟨h2,h3⟩:=ac5 NV i h0 h1 (c:=c) (seg:=seg) (j:=j) (x':=c.take j++seg++c.drop (j+seg.length)) (okp:=fun _=>False) vk Oo hj
    ⟨rfl,by
      show (c.take j++seg++c.drop (j+seg.length)).length=d.sz
      simp only [List.length_append,List.length_take,List.length_drop];omega,fun u hu=>by
      rcases List.mem_append.1 hu with hu|hu
      · rcases List.mem_append.1 hu with hu|hu
        · exact hco u (List.mem_of_mem_take hu)
        · exact NY u hu
      · exact hco u (List.mem_of_mem_drop hu)⟩ (fun _ hk=>hk.elim)
  exact ⟨aa9 _ _ h3 h2,h3⟩
end
section
variable {P:Program} {ops:Array Oper} {rest:List Oper} {o:Oper} {a:Act} {Q:Exit→Act→World→Prop} {α:Type}
end
end Kd
end Go.Proofs.YtihekdlcfohkkaaGreatDoorW.PrintWords
