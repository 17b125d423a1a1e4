-- PRINTED BY print.sh 35421559b90ae4d0a3588c463048766b98c2df88dd9212a6774a882060cdf62d: not written by this session
import Derived.Below
import Derived.Deep.Draws
import Derived.Deep.AppendLies
import Derived.Maps.AppendAt
import Derived.OwnWalk
import Derived.Laws.BytesArg
import Derived.Laws.MakeOwn
import Derived.Laws.OwnMore
import Derived.Deep.OwnRows
import Derived.Tactics
import Derived.Lib.ConvBytes
import Derived.Laws.Slices
import Derived.WalkKit
import Derived.KernelRfl
import Derived.RowKit3
import Derived.Deep.LoopGhost
import Derived.Deep.QuietTactic
import Derived.BigQuiet
import Derived.WideLaws
import Derived.Deep.DeepCutAuto
import Derived.Deep.CutBlock
import Derived.Deep.RegionHeld3
import Derived.Laws.Rows
import Derived.Lib.AppendStr
import Derived.ArgAppend
import Derived.Laws.IdiomCopy
import Derived.RowKit
set_option linter.unusedVariables false
set_option linter.unusedSimpArgs false
namespace Go.Proofs.YtihekdlcfohkkaaGreatDoorW.PrintWords
open Go.RowKit
structure Aside0 (p:Prop):Prop where mk::(out:p)
structure cQ (w w':World):Prop where mk::(out:∃n,w'=w.drewN n)
theorem cQ.refl (w:World):cQ w w:=⟨⟨0,rfl⟩⟩
theorem cQ.step {w w':World} (h:cQ w w') (n:Nat):cQ w (w'.drewN n):=by
  obtain ⟨m,rfl⟩:=h
  exact ⟨⟨m+n,World.drewN_drewN ..⟩⟩
theorem cQ.grown {w w':World} (h:cQ w w'):Grown w w':=by
  obtain ⟨n,rfl⟩:=h
  induction n with
  |zero=>exact Grown.refl _
  |succ n ih=>rw [←World.drew_drewN];exact Grown.drew ih
theorem cQ.below {w w':World} (h:cQ w w'):Below w.heap.size w w':=by
  obtain ⟨n,rfl⟩:=h
  induction n with
  |zero=>exact Below.refl _ _
  |succ n ih=>rw [←World.drew_drewN];exact ih.drew
def rd (xs:List Int) (i:Int):Int:=xs.getD i.toNat 0
def bt (s:ByteArray) (i:Int):Int:=if h:i.toNat<s.size then ((s[i.toNat]'h).toNat:Int) else 0
theorem jJ (s:ByteArray) (i:Int):∀h:i.toNat<s.size,((s[i.toNat]'h).toNat:Int)=bt s i:=fun h=>by simp [bt,h]
theorem nN (s:ByteArray) (i:Int):0≤bt s i∧bt s i≤255:=by
  unfold bt
  split
  · rename_i h
    have:=(s[i.toNat]'h).toNat_lt
    omega
  · omega
def nums (k:IntKind) (xs:List Int):List Value:=xs.map fun x=> .int k x
theorem dQ {w W:World} (h:Below w.heap.size w W) (o:Obj):Below w.heap.size w (W.alloc o):=h.alloc h.size o
theorem iI {B:Nat} {w W:World} (h:Below B w W):Below B w W.drew:=⟨h.os,h.tape,h.output,h.size,h.block⟩
theorem ek {B:Nat} {w W:World} (h:Below B w W) (n:Nat):Below B w (W.drewN n):=⟨h.os,h.tape,h.output,h.size,h.block⟩
theorem Ig {B:Nat} {w w1 w2:World} (h:Below B w w1) (hB:B≤w1.heap.size) (k:Below w1.heap.size w1 w2):Below B w w2:=
  h.trans ⟨k.os,k.tape,k.output,k.size,fun i hi=>k.block i (Nat.lt_of_lt_of_le hi hB)⟩
theorem qY {w w1:World} (h:Below w.heap.size w w1) (row:Option Nat):w.grownBy w1 row:=⟨h.os,h.tape,h.output,h.size,fun i hi _=>h.block i hi⟩
theorem k9 {w w1:World} (h:Below w.heap.size w w1) {a:Addr} {v:Value} (hc:w.cell? a=some v):w1.cell? a=some v:=(h.cell (World.block_lt_of_cell? w a hc)).trans hc
theorem add_plain (g j:Nat):(⟨g,0,none⟩:Addr).add j=⟨g,j,none⟩:=by unfold Addr.add;split<;>simp_all
def eJ (w:World) (k:IntKind) (A:Option Addr) (n:Nat) (xs:List Int):Prop:=
  xs.length=n∧n≤9223372036854775807∧(0<n→∃ad,A=some ad∧∀j,j<n→w.cell? (ad.add j)=some (.int k (xs.getD j 0)))
theorem eJ.at_ {w:World} {k:IntKind} {A:Option Addr} {n:Nat} {xs:List Int} (h:eJ w k A n xs) (i:Int) (h0:0≤i) (h1:i<n):∃ad,A=some ad∧w.cell? (ad.add i.toNat)=some (.int k (rd xs i)):=by
  obtain ⟨ad,e,hc⟩:=h.2.2 (by omega)
  exact ⟨ad,e,hc _ (by omega)⟩
theorem eJ.below {w w1:World} {k:IntKind} {A:Option Addr} {n:Nat} {xs:List Int} (h:eJ w k A n xs) (hb:Below w.heap.size w w1):eJ w1 k A n xs:=
  ⟨h.1, h.2.1, fun hn => by
    obtain ⟨ad,e,hc⟩:=h.2.2 hn
    exact ⟨ad,e,fun j hj=>k9 hb (hc j hj)⟩⟩
theorem Rl (W:World) (base:Nat) (e:TypeId) (size:Nat):W.ownsRow base e size (.slice none 0 0) 0 []:=⟨by simp,.inl ⟨rfl,rfl⟩⟩
theorem oQ {w:World} {base:Nat} {e:TypeId} {size n:Nat} {v:Value} {xs:List Value} (h:w.ownsRow base e size v n xs) (k:Nat) (hk:v.ownBlock=some k):base≤k:=by
  rcases h.2 with ⟨rfl,_⟩|⟨g,cap,cur,rfl,hb,_⟩
  · simp [Value.ownBlock] at hk
  · have:g=k:=by simpa [Value.ownBlock] using hk
    omega
theorem Ng {w:World} {base:Nat} {e:TypeId} {size n:Nat} {v:Value} {xs:List Value} (h:w.ownsRow base e size v n xs) (k:Nat) (hk:v.ownBlock=some k):k<w.heap.size:=by
  rcases h.2 with ⟨rfl,_⟩|⟨g,cap,cur,rfl,hb,hh,_⟩
  · simp [Value.ownBlock] at hk
  · have:g=k:=by simpa [Value.ownBlock] using hk
    subst this
    exact (Array.getElem?_eq_some_iff.1 hh).1
theorem Cr {w w1:World} {base:Nat} {e:TypeId} {size n:Nat} {v:Value} {xs:List Value} (h:w.ownsRow base e size v n xs) (hb:Below w.heap.size w w1):w1.ownsRow base e size v n xs:=
  h.kept (qY hb none) (by cases v.ownBlock<;>simp)
theorem jc {P:Program} {w:World} {base n:Nat} {e' src dst e:TypeId} {v:Value} {xs:List Int} (hs:P.underlying src=some (.slice e)) (he:P.underlying e=some (.int .u8)) (hd:P.underlying dst=some .string)
    (h:w.ownsRow base e' 1 v n (nums .u8 xs)):(convert src dst v).run P w= .ok (.string (strOfNums xs)) w:=by
  have hl:xs.length=n:=by have:=h.1;simp [nums] at this;exact this
  rcases h.2 with ⟨rfl,rfl⟩|⟨g,cap,cur,rfl,_⟩
  · obtain rfl:xs=[]:=List.eq_nil_of_length_eq_zero hl
    exact run_convert_bytes_nil w src e hs he 0 0 dst hd
  · refine run_convert_bytes_arg w src e hs he g 0 n cap xs hl (fun i hi=> ?_) dst hd
    have hc:=h.cells (g:=g) rfl i (.int .u8 (xs.getD i 0)) (by simp [nums,List.getElem?_eq_getElem (show i<xs.length by omega),List.getD_eq_getElem?_getD])
    have ha:(⟨g,0,none⟩:Addr).add i=⟨g,0+i,none⟩:=by unfold Addr.add;split<;>simp_all
    rwa [ha] at hc
section
variable {P:Program} {ops:Array Oper} {rest:List Oper} {o:Oper} {a:Act} {Q:Exit→Act→World→Prop}
end
section
variable {P:Program}
end
section
variable {P:Program} {ops:Array Oper} {rest:List Oper} {o:Oper} {a:Act} {Q:Exit→Act→World→Prop}
end
def bytesOf (s:ByteArray):List Int:=s.data.toList.map fun b=>(b.toNat:Int)
theorem E7 (s:ByteArray):s.data.toList.length=s.size:=by rw [Array.length_toList];rfl
theorem wj {P:Program} (src dst e:TypeId) {u:TypeDesc} (hs:P.underlying src=some u) (hd:P.underlying dst=some (.slice e)) (he:P.underlying e=some (.int .u8)) (s:ByteArray) (W:World):
    (convert src dst (.string s)).run P W= .ok (.slice (some ⟨W.heap.size,0,none⟩) s.size (grownCap W s.size 0 e)) (Lib.bytesWorld W e s):=Lib.run_convert_string_bytes W src dst e s hs hd he
theorem wQ {B:Nat} {w W:World} (h:Below B w W) (hB:B≤W.heap.size) (e:TypeId) (s:ByteArray):Below B w (Lib.bytesWorld W e s):=
  h.trans ⟨rfl,rfl,rfl,by rw [Lib.bytesWorld_size];omega,fun i hi=>Lib.bytesWorld_at_old W e s i (by omega)⟩
theorem eJ.IE {w:World} {k:IntKind} {A:Option Addr} {n:Nat} {xs:List Int} (h:eJ w k A n xs) (i:Nat) (hi:i≤n):eJ w k A i (xs.take i):=by
  refine ⟨by rw [List.length_take,h.1];omega,by have:=h.2.1;omega,fun hp=> ?_⟩
  obtain ⟨ad,e,hc⟩:=h.2.2 (by omega)
  refine ⟨ad,e,fun j hj=> ?_⟩
  rw [hc j (by omega)]
  simp [List.getD_eq_getElem?_getD,hj]
theorem eJ.TW {w:World} {k:IntKind} {A:Option Addr} {n c:Nat} {xs:List Int} (h:eJ w k A n xs) (i:Nat) (hi:i≤n) (hc:n≤c):eJ w k (if c=i then A else A.map (·.add i)) (n-i) (xs.drop i):=by
  refine ⟨by rw [List.length_drop,h.1],by have:=h.2.1;omega,fun hp=> ?_⟩
  obtain ⟨ad,rfl,mP⟩:=h.2.2 (by omega)
  rw [if_neg (by omega)]
  refine ⟨ad.add i,rfl,fun j hj=> ?_⟩
  have ha:(ad.add i).add j=ad.add (i+j):=by
    unfold Addr.add
    by_cases h1:i=0<;>by_cases h2:j=0<;>simp [h1,h2,Nat.add_assoc]
  rw [ha,mP (i+j) (by omega)]
  simp [List.getD_eq_getElem?_getD,List.getElem?_drop]
def Ai {α:Type} (a b:Option α):Prop:=∀r,a=some r→b=some r
theorem Ai.refl {α:Type} (a:Option α):Ai a a:=fun _ h=>h
theorem Ai.none {α:Type} (b:Option α):Ai Option.none b:=fun _ h=>by cases h
theorem Ai.trans {α:Type} {a b c:Option α} (h:Ai a b) (k:Ai b c):Ai a c:=fun r hr=>k r (h r hr)
theorem Ai.bind {α β:Type} {a a':Option α} {f f':α→Option β} (h:Ai a a') (k:∀x,Ai (f x) (f' x)):Ai (a.bind f) (a'.bind f'):=by
  intro r hr
  obtain ⟨x,hx,hf⟩:=Option.bind_eq_some_iff.1 hr
  exact Option.bind_eq_some_iff.2 ⟨x,h x hx,k x r hf⟩
theorem Ai.map {α β:Type} {a a':Option α} (f:α→β) (h:Ai a a'):Ai (a.map f) (a'.map f):=by
  intro r hr
  obtain ⟨x,hx,hf⟩:=Option.map_eq_some_iff.1 hr
  exact Option.map_eq_some_iff.2 ⟨x,h x hx,hf⟩
theorem wq {α:Type} {g:Nat→Option α} (h:∀k,Ai (g k) (g (k+1))) (k:Nat):∀j,Ai (g k) (g (k+j))
  |0=>Ai.refl _
  |j+1=>(wq h k j).trans (h (k+j))
theorem vT {α:Type} {g:Nat→Option α} (h:∀k,Ai (g k) (g (k+1))) {k k':Nat} (hk:k≤k') {r:α} (hr:g k=some r):g k'=some r:=by
  have:=wq h k (k'-k) r hr
  rwa [Nat.add_sub_cancel' hk] at this
theorem aak {α β:Type} {g:Nat→Option α} {f:Nat→Option β} (hg:∀k,Ai (g k) (g (k+1))) (hf:∀k,Ai (f k) (f (k+1))) {r:α} {q:β} (h:∃k,g k=some r) (h':∃k,f k=some q):∃k,g k=some r∧f k=some q:=by
  obtain ⟨k,hk⟩:=h
  obtain ⟨k',GZ⟩:=h'
  exact ⟨max k k',vT hg (Nat.le_max_left _ _) hk,vT hf (Nat.le_max_right _ _) GZ⟩
def bT {α:Type} (R:α→List Value→Prop) (size:Nat) (ps:List α) (cs:List Value):Prop:=
  cs.length=ps.length*size∧∀j p,ps[j]? =some p→R p ((cs.drop (j*size)).take size)
theorem bT.none {α:Type} (R:α→List Value→Prop) (size:Nat):bT R size [] []:=⟨by simp,fun j p h=>by simp at h⟩
theorem bT.snoc {α:Type} {R:α→List Value→Prop} {size:Nat} {ps:List α} {cs c:List Value} {p:α} (h:bT R size ps cs) (hp:R p c) (hc:c.length=size):bT R size (ps++[p]) (cs++c):=by
  refine ⟨by rw [List.length_append,h.1,hc,List.length_append,List.length_singleton,Nat.add_mul,Nat.one_mul],fun j q hq=> ?_⟩
  rcases Nat.lt_or_ge j ps.length with hj|hj
  · rw [List.getElem?_append_left hj] at hq
    have h1:j*size+size≤cs.length:=by rw [h.1,←Nat.succ_mul];exact Nat.mul_le_mul_right _ hj
    have h2:=h.2 j q hq
    rw [List.drop_append_of_le_length (by omega),List.take_append_of_le_length (by rw [List.length_drop];omega)]
    exact h2
  · have Qq:j=ps.length:=by
      have:=(List.getElem?_eq_some_iff.1 hq).1
      rw [List.length_append,List.length_singleton] at this
      omega
    subst Qq
    have hq':p=q:=by simpa using hq
    subst hq'
    rw [←h.1,List.drop_left,←hc,List.take_length]
    exact hp
theorem bT.pQ {α:Type} {R R':α→List Value→Prop} {size:Nat} {ps:List α} {cs:List Value} (h:bT R size ps cs) (hR:∀p c,R p c→R' p c):bT R' size ps cs:=⟨h.1,fun j p hj=>hR _ _ (h.2 j p hj)⟩
def fH {α:Type} (R:α→List Value→Prop) (size:Nat) (w:World) (A:Option Addr) (n:Nat) (ps:List α):Prop:=
  ps.length=n∧n≤9223372036854775807∧(0<n→∃ad,A=some ad∧∀j p,ps[j]? =some p→∃c,c.length=size∧R p c∧∀i u,c[i]? =some u→w.cell? (ad.add (j*size+i))=some u)
theorem fH.agF {α:Type} {R:α→List Value→Prop} {size:Nat} {w:World} {A:Option Addr} {n:Nat} {ps:List α} (h:fH R size w A n ps) (d:α) (i:Int) (h0:0≤i) (h1:i<n):
    ∃ad c,A=some ad∧c.length=size∧R (ps.getD i.toNat d) c∧∀j u,c[j]? =some u→w.cell? (ad.add (i.toNat*size+j))=some u:=by
  obtain ⟨ad,e,hc⟩:=h.2.2 (by omega)
  have hl:i.toNat<ps.length:=by have:=h.1;omega
  obtain ⟨c,hs,hr,mP⟩:=hc i.toNat _ (List.getElem?_eq_getElem hl)
  refine ⟨ad,c,e,hs,?_,mP⟩
  rw [List.getD_eq_getElem?_getD,List.getElem?_eq_getElem hl]
  exact hr
theorem fH.pQ {α:Type} {R R':α→List Value→Prop} {size:Nat} {w w1:World} {A:Option Addr} {n:Nat} {ps:List α} (h:fH R size w A n ps) (hb:Below w.heap.size w w1) (hR:∀p c,R p c→R' p c):fH R' size w1 A n ps:=
  ⟨h.1, h.2.1, fun hn => by
    obtain ⟨ad,e,hc⟩:=h.2.2 hn
    refine ⟨ad,e,fun j p hj=> ?_⟩
    obtain ⟨c,hs,hr,mP⟩:=hc j p hj
    exact ⟨c,hs,hR _ _ hr,fun i u hu=>k9 hb (mP i u hu)⟩⟩
theorem AE {α:Type} {R:α→List Value→Prop} {w:World} {base n size:Nat} {e:TypeId} {v:Value} {ps:List α} {cs:List Value} (h:w.ownsRow base e size v n cs) (hR:bT R size ps cs) (hn:ps.length=n):
    ∃A c,v= .slice A n c∧fH R size w A n ps:=by
  rcases Nat.eq_zero_or_pos n with h0|h0
  · rcases h.2 with ⟨rfl,rfl⟩|⟨g,cap,cur,rfl,_⟩
    · exact ⟨none,0,rfl,hn,by omega,fun hp=>absurd hp (by omega)⟩
    · exact ⟨_,cap,rfl,hn,by omega,fun hp=>absurd hp (by omega)⟩
  · obtain ⟨g,cap,rfl,_,_⟩:=h.form h0
    have hm:n≤9223372036854775807:=by
      rcases h.2 with ⟨_,h1⟩|⟨g',abQ,cur,he,_,_,h1,h2,_⟩
      · omega
      · simp only [maxLen] at h2
        omega
    refine ⟨_,cap,rfl,hn,hm,fun _=>⟨_,rfl,fun j p hj=>⟨(cs.drop (j*size)).take size,?_,hR.2 j p hj,fun i u hu=> ?_⟩⟩⟩
    · have Jl:=(List.getElem?_eq_some_iff.1 hj).1
      have h1:j*size+size≤cs.length:=by rw [hR.1,←Nat.succ_mul];exact Nat.mul_le_mul_right _ Jl
      rw [List.length_take,List.length_drop]
      omega
    · refine h.cells (g:=g) rfl _ u ?_
      rw [List.getElem?_take] at hu
      split at hu
      · rw [List.getElem?_drop] at hu
        exact hu
      · cases hu
theorem BN (ad:Addr) (m j:Nat) (hj:0<j):ad.add (m+j)=⟨(ad.add m).block,(ad.add m).off+j,none⟩:=by
  unfold Addr.add
  by_cases hm:m=0
  · subst hm
    simp [Nat.ne_of_gt hj]
  · simp [hm,Nat.add_assoc]
section
variable {P:Program} {ops:Array Oper} {rest:List Oper} {o:Oper} {a:Act} {Q:Exit→Act→World→Prop}
theorem nG {w0 W:World} (base:Nat) (xk:o.guard=none) (s x:Operand) (t e:TypeId) (z:Value) (size bytes:Nat)
    (ho:o.op= .call { callee:= .builtin .append,args:= #[s,x],argTypes:= #[t,t]})
    (ht:P.underlying t=some (.slice e)) (kJ:(P.info? e).map (fun i=>(i.zero,i.size,i.bytes))=some (some z,size,bytes)) (hz:z.cells.size=size) (rY:0<size) (vl:0<bytes)
    (v:Value) (n:Nat) (xs ys:List Value) (hs:a.eval s=v) (hx:a.eval x= .slice (some ⟨W.heap.size,0,none⟩) 1 1) (hys:ys.length=size) (h1:∀u∈ys,u.oneCell'=true)
    (HO:W.ownsRow base e size v n xs) (HB:Below base w0 W) (iG:base≤W.heap.size) (hl:(n+1)*bytes≤140737488355328)
    (h:∀v1 w1,w1.ownsRow base e size v1 (n+1) (xs++ys)→Below base w0 w1→W.grownBy w1 v.ownBlock→(v1.ownBlock=v.ownBlock∨∃b,v1.ownBlock=some b∧W.heap.size≤b)→wpList P ops Q rest (a.put o.dst v1) w1):
    wpList P ops Q (o::rest) a (W.alloc (.cells ys.toArray e)):=by
  obtain ⟨i0,hi,EM⟩:=Option.map_eq_some_iff.1 kJ
  simp only [Prod.mk.injEq] at EM
  obtain ⟨D3,Bv,D2⟩:=EM
  have hlen:n+1≤140737488355328:=Nat.le_trans (Nat.le_mul_of_pos_right _ vl) hl
  refine wpList_append_own_at (W.alloc (.cells ys.toArray e)) xk s x t ho base e i0 z size bytes ht hi D3 Bv D2 hz rY v n xs hs (HO.alloc _) ⟨W.heap.size,0,none⟩ 1 1 ys hx (by rw [hys];simp)
    (by simpa using World.news_of_block (cs:=ys.toArray) (t:=e) (fr:=(0,0)) (heap_alloc_new W (.cells ys.toArray e))) h1 (by simp only [maxLen];omega) hl (by simp;omega) ?_
  intro v1 w1 oV hg _ eC
  refine h v1 w1 oV ((HB.alloc iG _).grown hg (by simp;omega) (oQ HO)) (World.grownBy.trans (World.grownBy_alloc W _ _) hg) ?_
  rcases eC with eC|eC
  · exact .inl eC
  · exact .inr ⟨_,eC,by simp⟩
end
theorem lX {w:World} {base:Nat} {e t:TypeId} {size n g:Nat} {v:Value} {xs:List Value} {cs:Array Value} (h:w.ownsRow base e size v n xs) (hg:w.heap[g]? =some (.cells cs t (0,0))) (iP:e≠t):some g≠v.ownBlock:=by
  rcases h.2 with ⟨rfl,_⟩|⟨g',cap,cur,rfl,_,hh,_⟩
  · simp [Value.ownBlock]
  · intro he
    have:g=g':=by simpa [Value.ownBlock] using he
    subst this
    rw [hg] at hh
    injection hh with hh
    injection hh with _ ht
    exact iP ht.symm
theorem Ex {w:World} {base:Nat} {e:TypeId} {size n:Nat} {v:Value} {xs:List Value} (h:w.ownsRow base e size v n xs) {p:Addr} (iP:some p.block≠v.ownBlock) (u:Value):(w.setCell p u).ownsRow base e size v n xs:=by
  obtain ⟨h1,h2⟩:=h
  refine ⟨h1,?_⟩
  rcases h2 with h2|⟨g,cap,cur,rfl,hg,hh,r⟩
  · exact .inl h2
  · exact .inr ⟨g,cap,cur,rfl,hg,by rw [Below.heap_setCell _ _ _ _ (fun e=>iP (by rw [e];rfl))];exact hh,r⟩
theorem xT {w:World} {g:Nat} {t:TypeId} {cs:Array Value} (h:w.heap[g]? =some (.cells cs t (0,0))) (i:Nat) (u:Value):(w.setCell ⟨g,i,none⟩ u).heap[g]? =some (.cells (cs.setIfInBounds i u) t (0,0)):=by
  simp [World.setCell,Array.getElem?_modify,h]
theorem SC {w:World} {g:Nat} {t:TypeId} {cs:Array Value} (h:w.heap[g]? =some (.cells cs t (0,0))) {p:Addr} (hp:g≠p.block) (u:Value):(w.setCell p u).heap[g]? =some (.cells cs t (0,0)):=(Below.heap_setCell w p u g hp).trans h
theorem iR {w:World} {g:Nat} {o:Obj} (h:w.heap[g]? =some o):g<w.heap.size:=(Array.getElem?_eq_some_iff.1 h).1
theorem iH {w:World} {g:Nat} {t:TypeId} {cs:Array Value} (h:w.heap[g]? =some (.cells cs t (0,0))) (i:Nat):w.cell? ⟨g,i,none⟩=cs[i]? :=cell_of_row w g i cs t (0,0) h
theorem eN {w:World} {g:Nat} {t:TypeId} {cs:Array Value} (h:w.heap[g]? =some (.cells cs t (0,0))) (i:Nat):w.frozen? ⟨g,i,none⟩=false:=by simp [World.frozen?,h]
theorem ej {w w1:World} {g:Nat} {o:Obj} {row:Option Nat} (h:w.heap[g]? =some o) (hg:w.grownBy w1 row) (iP:some g≠row):w1.heap[g]? =some o:=(hg.block g (iR h) iP).trans h
def aZ (w w':World) (g:Nat) (row:Option Nat):Prop:=w.heap.size≤w'.heap.size∧∀i,i<w.heap.size→i≠g→some i≠row→w'.heap[i]? =w.heap[i]?
theorem aZ.refl (w:World) (g:Nat) (row:Option Nat):aZ w w g row:=⟨Nat.le_refl _,fun _ _ _ _=>rfl⟩
theorem aZ.nH {w w1:World} {row:Option Nat} (h:w.grownBy w1 row) (g:Nat):aZ w w1 g row:=⟨h.size,fun i hi _ hr=>h.block i hi hr⟩
theorem aZ.lY {w w1:World} (h:Below w.heap.size w w1) (g:Nat) (row:Option Nat):aZ w w1 g row:=⟨h.size,fun i hi _ _=>h.block i hi⟩
theorem aZ.Vx {w w1:World} {g:Nat} {row:Option Nat} (h:aZ w w1 g row) (j:Nat) (u:Value):aZ w (w1.setCell ⟨g,j,none⟩ u) g row:=
  ⟨by simpa [World.setCell] using h.1,fun i hi hg hr=>(Below.heap_setCell w1 ⟨g,j,none⟩ u i hg).trans (h.2 i hi hg hr)⟩
theorem aZ.trans {w w1 w2:World} {g:Nat} {row VB:Option Nat} (h:aZ w w1 g row) (k:aZ w1 w2 g VB) (hr:VB=row∨∃b,VB=some b∧w.heap.size≤b):aZ w w2 g row:=
  ⟨Nat.le_trans h.1 k.1,fun i hi hg hn=>by
    refine (k.2 i (Nat.lt_of_lt_of_le hi h.1) hg ?_).trans (h.2 i hi hg hn)
    rcases hr with rfl|⟨b,rfl,hb⟩
    · exact hn
    · intro e
      injection e with e
      omega⟩
theorem aZ.aI {w w1:World} {g g':Nat} {row:Option Nat} {o:Obj} (h:aZ w w1 g row) (hb:w.heap[g']? =some o) (hg:g'≠g) (hr:some g'≠row):w1.heap[g']? =some o:=(h.2 g' (iR hb) hg hr).trans hb
theorem aZ.own {w w1:World} {g:Nat} {row:Option Nat} {base:Nat} {e:TypeId} {size n:Nat} {v:Value} {xs:List Value} (h:aZ w w1 g row) (ho:w.ownsRow base e size v n xs) (hg:v.ownBlock≠some g) (hr:v.ownBlock=none∨v.ownBlock≠row):w1.ownsRow base e size v n xs:=by
  obtain ⟨h1,h2⟩:=ho
  refine ⟨h1,?_⟩
  rcases h2 with h2|⟨b,cap,cur,rfl,hb,hh,r⟩
  · exact .inl h2
  · refine .inr ⟨b,cap,cur,rfl,hb,h.aI hh ?_ ?_,r⟩
    · intro e
      exact hg (by rw [←e];rfl)
    · rcases hr with hr|hr
      · simp [Value.ownBlock] at hr
      · exact hr
def Ev {α:Type} (g:Nat→Option α) (r:α):Prop:=∃K,∀k,K≤k→g k=some r
theorem Ev.of {α:Type} {g:Nat→Option α} {r:α} (hg:∀k,Ai (g k) (g (k+1))) {k:Nat} (h:g k=some r):Ev g r:=⟨k,fun _ hk=>vT hg hk h⟩
theorem Ev.now {α:Type} (r:α):Ev (fun _=>some r) r:=⟨0,fun _ _=>rfl⟩
theorem Ev.rounds {α:Type} {g:Nat→Option α} {r:α} (h:Ev g r):∃k,g k=some r:=by
  obtain ⟨K,h⟩:=h
  exact ⟨K,h K (Nat.le_refl _)⟩
theorem Ev.bind {α β:Type} {g:Nat→Option α} {f:Nat→α→Option β} {a:α} {r:β} (h:Ev g a) (k:Ev (fun n=>f n a) r):Ev (fun n=>(g n).bind (f n)) r:=by
  obtain ⟨K,h⟩:=h
  obtain ⟨K',k⟩:=k
  refine ⟨max K K',fun n hn=> ?_⟩
  have h1:=h n (by omega)
  have h2:=k n (by omega)
  simp only [h1,Option.bind_some]
  exact h2
theorem Ev.step {α:Type} {g f:Nat→Option α} {r:α} (h:∀k,g (k+1)=f k) (k:Ev f r):Ev g r:=by
  obtain ⟨K,k⟩:=k
  refine ⟨K+1,fun n hn=> ?_⟩
  obtain ⟨m,rfl⟩:∃m,n=m+1:=⟨n-1,by omega⟩
  rw [h]
  exact k m (by omega)
theorem Ev.congr {α:Type} {g f:Nat→Option α} {r:α} (h:∀k,g k=f k) (k:Ev f r):Ev g r:=by
  obtain ⟨K,k⟩:=k
  exact ⟨K,fun n hn=>(h n).trans (k n hn)⟩
section
variable {P:Program} {ops:Array Oper} {o:Oper} {a:Act} {Q:Exit→Act→World→Prop} {K:Act→World→Prop}
end
theorem yL {w:World} {base mq:Nat} {e:TypeId} {size n:Nat} {v:Value} {xs:List Value} (h:w.ownsRow base e size v n xs) (hb:mq≤base):w.ownsRow mq e size v n xs:=by
  obtain ⟨h1,h2⟩:=h
  refine ⟨h1,?_⟩
  rcases h2 with h2|⟨g,cap,cur,rfl,hg,r⟩
  · exact .inl h2
  · exact .inr ⟨g,cap,cur,rfl,Nat.le_trans hb hg,r⟩
section
variable {α:Type} {enc:α→Value} {d:α}
def jg (enc:α→Value) (xs:List α):List Value:=xs.map enc
def aQ (d:α) (xs:List α) (i:Int):α:=xs.getD i.toNat d
theorem qZ (xs:List α):(jg enc xs).length=xs.length:=by simp [jg]
theorem Oy (xs:List α) (j:Nat) (h:j<xs.length):(jg enc xs)[j]? =some (enc (xs.getD j d)):=by
  simp [jg,List.getElem?_eq_getElem h,List.getD_eq_getElem?_getD]
def fA (enc:α→Value) (d:α) (w:World) (A:Option Addr) (n:Nat) (xs:List α):Prop:=
  xs.length=n∧n≤9223372036854775807∧(0<n→∃ad,A=some ad∧∀j,j<n→w.cell? (ad.add j)=some (enc (xs.getD j d)))
theorem fA.at_ {w:World} {A:Option Addr} {n:Nat} {xs:List α} (h:fA enc d w A n xs) (i:Int) (h0:0≤i) (h1:i<n):∃ad,A=some ad∧w.cell? (ad.add i.toNat)=some (enc (aQ d xs i)):=by
  obtain ⟨ad,e,hc⟩:=h.2.2 (by omega)
  exact ⟨ad,e,hc _ (by omega)⟩
theorem fA.below {w w1:World} {A:Option Addr} {n:Nat} {xs:List α} (h:fA enc d w A n xs) (hb:Below w.heap.size w w1):fA enc d w1 A n xs:=
  ⟨h.1, h.2.1, fun hn => by
    obtain ⟨ad,e,hc⟩:=h.2.2 hn
    exact ⟨ad,e,fun j hj=>k9 hb (hc j hj)⟩⟩
theorem fA.IE {w:World} {A:Option Addr} {n:Nat} {xs:List α} (h:fA enc d w A n xs) (i:Nat) (hi:i≤n):fA enc d w A i (xs.take i):=by
  refine ⟨by rw [List.length_take,h.1];omega,by have:=h.2.1;omega,fun hp=> ?_⟩
  obtain ⟨ad,e,hc⟩:=h.2.2 (by omega)
  refine ⟨ad,e,fun j hj=> ?_⟩
  rw [hc j (by omega)]
  simp [List.getD_eq_getElem?_getD,hj]
theorem fA.TW {w:World} {A:Option Addr} {n c:Nat} {xs:List α} (h:fA enc d w A n xs) (i:Nat) (hi:i≤n) (hc:n≤c):fA enc d w (if c=i then A else A.map (·.add i)) (n-i) (xs.drop i):=by
  refine ⟨by rw [List.length_drop,h.1],by have:=h.2.1;omega,fun hp=> ?_⟩
  obtain ⟨ad,rfl,mP⟩:=h.2.2 (by omega)
  rw [if_neg (by omega)]
  refine ⟨ad.add i,rfl,fun j hj=> ?_⟩
  have ha:(ad.add i).add j=ad.add (i+j):=by
    unfold Addr.add
    by_cases h1:i=0<;>by_cases h2:j=0<;>simp [h1,h2,Nat.add_assoc]
  rw [ha,mP (i+j) (by omega)]
  simp [List.getD_eq_getElem?_getD,List.getElem?_drop]
theorem Cs {P:Program} (enc:α→Value) (d:α) (t e:TypeId) (kl:IntKind) {i:TypeInfo} (ht:P.underlying t=some (.slice e)) (hi:P.info? e=some i) (sr:i.size=1) (A:Option Addr) (n c m:Nat) (hm:m≤n):
    ∃ A' : Option Addr, (∀ W : World, (Instr.slice t (.slice A n c) (some (.int kl (m : Int))) none none).run P W = .ok (.slice A' (n - m) (c - m)) W) ∧
      ∀(w:World) (xs:List α),n≤c→fA enc d w A n xs→fA enc d w A' (n-m) (xs.drop m):=by
  refine ⟨if c=m then A else A.map (·.add m),fun W=> ?_,fun w xs hc h=>h.TW m hm hc⟩
  have Og:P.elem t=e:=by simp [Program.elem,ht]
  have hu:P.underlying t=some (.slice (P.elem t)):=by rw [Og];exact ht
  rw [run_slice_l W t A n c hu kl (m:Int) (Int.natCast_nonneg _) (by omega),Og]
  simp [sizeOf,typeInfo,hi,sr,sliced,Result.andThen]
theorem KV {W:World} {base g n cap:Nat} {e:TypeId} {xs:List α} (h:W.ownsRow base e 1 (.slice (some ⟨g,0,none⟩) n cap) n (jg enc xs)) (i:Int) (h0:0≤i) (h1:i<n):
    W.cell? ⟨g,i.toNat,none⟩=some (enc (aQ d xs i))∧W.frozen? ⟨g,i.toNat,none⟩=false:=by
  have hl:xs.length=n:=by have:=h.1;simp [jg] at this;exact this
  constructor
  · have hc:=h.cells (g:=g) rfl i.toNat _ (Oy (d:=d) xs i.toNat (by omega))
    rwa [add_plain] at hc
  · rcases h.2 with ⟨h',_⟩|⟨g',abQ,cur,h',_,hh,_⟩
    · cases h'
    · have:g=g':=by injection h' with h';injection h' with h';injection h' with h'
      subst this
      simp [World.frozen?,hh]
theorem Cx {W:World} {base g n cap:Nat} {e:TypeId} {xs:List α} (h:W.ownsRow base e 1 (.slice (some ⟨g,0,none⟩) n cap) n (jg enc xs)) (i:Int) (x:α):
    (W.setCell ⟨g,i.toNat,none⟩ (enc x)).ownsRow base e 1 (.slice (some ⟨g,0,none⟩) n cap) n (jg enc (xs.set i.toNat x))∧W.grownBy (W.setCell ⟨g,i.toNat,none⟩ (enc x)) (some g):=by
  have hs:=h.stored i.toNat (enc x)
  have he:(jg enc xs).set i.toNat (enc x)=jg enc (xs.set i.toNat x):=by simp [jg,List.map_set]
  rwa [he] at hs
end
section
variable {α:Type} {P:Program} {ops:Array Oper} {rest:List Oper} {o:Oper} {a:Act} {Q:Exit→Act→World→Prop}
end
theorem fC {w:World} {g:Nat} {o:Obj} (h:w.heap[g]? =some o) (o':Obj):(w.alloc o').heap[g]? =some o:=(Below.heap_alloc w o' g (iR h)).trans h
theorem fG {w:World} {g:Nat} {o:Obj} (h:w.heap[g]? =some o):w.drew.heap[g]? =some o:=h
theorem fB {w:World} {g:Nat} {o:Obj} (h:w.heap[g]? =some o) (n:Nat):(w.drewN n).heap[g]? =some o:=h
theorem cW {w w1:World} {g:Nat} {o:Obj} (h:w.heap[g]? =some o) (hb:Below w.heap.size w w1):w1.heap[g]? =some o:=(hb.block g (iR h)).trans h
theorem JP (w:World) (o:Obj):(w.alloc o).heap[w.heap.size]? =some o:=heap_alloc_new w o
section
variable {P:Program}
theorem cK {fn:Func} {p u:Tmp} {ty:TypeId} (h:fn.results= #[.cell p ty,.tmp u]) (tmps:Array Value) (w:World) (g:Nat) (t:TypeId) (cs:Array Value) (fr:Nat×Nat) (d:TypeDesc)
    (hp:tmps.getD p undef= .pointer (some ⟨g,0,none⟩)) (hg:w.heap[g]? =some (.cells cs t fr))
    (hu:P.underlying ty=some d) (hd:(match d with| .struct _| .array _ _=>true|_=>false)=true) (hi:(P.info? ty).map (·.size)=some cs.size):
    (results fn tmps).run P w= .ok (.tuple #[.agg cs,tmps.getD u undef]) w:=by
  have RU:tmps[p]?.getD undef= .pointer (some ⟨g,0,none⟩):=by simpa using hp
  simp [results,h,RU,asAddr,run_loadVar_row w g t ty cs fr d hg hu hd hi]
theorem yE {fn:Func} {p p':Tmp} {ty ty':TypeId} (h:fn.results= #[.cell p ty,.cell p' ty']) (tmps:Array Value) (w:World) (g g':Nat) (t t':TypeId) (cs Ah:Array Value) (fr fr':Nat×Nat) (d d':TypeDesc)
    (hp:tmps.getD p undef= .pointer (some ⟨g,0,none⟩)) (hg:w.heap[g]? =some (.cells cs t fr))
    (hu:P.underlying ty=some d) (hd:(match d with| .struct _| .array _ _=>true|_=>false)=true) (hi:(P.info? ty).map (·.size)=some cs.size)
    (RU:tmps.getD p' undef= .pointer (some ⟨g',0,none⟩)) (hg':w.heap[g']? =some (.cells Ah t' fr'))
    (hu':P.underlying ty'=some d') (hd':(match d' with| .struct _| .array _ _=>true|_=>false)=true) (hi':(P.info? ty').map (·.size)=some Ah.size):
    (results fn tmps).run P w= .ok (.tuple #[.agg cs,.agg Ah]) w:=by
  have h1:tmps[p]?.getD undef= .pointer (some ⟨g,0,none⟩):=by simpa using hp
  have h2:tmps[p']?.getD undef= .pointer (some ⟨g',0,none⟩):=by simpa using RU
  simp [results,h,h1,h2,asAddr,run_loadVar_row w g t ty cs fr d hg hu hd hi,run_loadVar_row w g' t' ty' Ah fr' d' hg' hu' hd' hi']
theorem qL {fn:Func} {p u v:Tmp} {ty:TypeId} (h:fn.results= #[.cell p ty,.tmp u,.tmp v]) (tmps:Array Value) (w:World) (g:Nat) (t:TypeId) (cs:Array Value) (fr:Nat×Nat) (d:TypeDesc)
    (hp:tmps.getD p undef= .pointer (some ⟨g,0,none⟩)) (hg:w.heap[g]? =some (.cells cs t fr))
    (hu:P.underlying ty=some d) (hd:(match d with| .struct _| .array _ _=>true|_=>false)=true) (hi:(P.info? ty).map (·.size)=some cs.size):
    (results fn tmps).run P w= .ok (.tuple #[.agg cs,tmps.getD u undef,tmps.getD v undef]) w:=by
  have RU:tmps[p]?.getD undef= .pointer (some ⟨g,0,none⟩):=by simpa using hp
  simp [results,h,RU,asAddr,run_loadVar_row w g t ty cs fr d hg hu hd hi]
end
theorem V5 {w:World} {base n m c size:Nat} {e:TypeId} {A:Option Addr} {xs:List Value} (h:w.ownsRow base e size (.slice A m c) n xs):m≤c:=by
  rcases h.2 with ⟨he,_⟩|⟨g,cap,cur,he,_,_,I9,_⟩
  · injection he with _ h2 h3
    omega
  · injection he with _ h2 h3
    omega
def gb {α:Type} (R:α→List Value→Prop) (e:TypeId) (size:Nat) (w:World) (base:Nat) (v:Value) (ps:List α):Prop:=
  ∃inner,w.ownsRow base e size v ps.length inner∧bT R size ps inner
section
variable {α:Type} {R R':α→List Value→Prop} {e:TypeId} {size:Nat} {w w1:World} {base:Nat} {v:Value} {ps:List α}
theorem gb.none_ (R:α→List Value→Prop) (e:TypeId) (size:Nat) (w:World) (base:Nat):gb R e size w base (.slice none 0 0) []:=⟨[],Rl _ _ _ _,bT.none _ _⟩
theorem gb.pQ (h:gb R e size w base v ps) (hR:∀p c,R p c→R' p c):gb R' e size w base v ps:=by
  obtain ⟨inner,ho,hr⟩:=h
  exact ⟨inner,ho,hr.pQ hR⟩
theorem gb.below (h:gb R e size w base v ps) (hb:Below w.heap.size w w1):gb R e size w1 base v ps:=by
  obtain ⟨inner,ho,hr⟩:=h
  exact ⟨inner,Cr ho hb,hr⟩
theorem gb.Vx (h:gb R e size w base v ps) {g:Nat} {t:TypeId} {cells:Array Value} (hb:w.heap[g]? =some (.cells cells t (0,0))) (ht:e≠t) (j:Nat) (u:Value):gb R e size (w.setCell ⟨g,j,none⟩ u) base v ps:=by
  obtain ⟨inner,ho,hr⟩:=h
  exact ⟨inner,Ex ho (lX ho hb ht) u,hr⟩
theorem gb.K6 (h:gb R e size w base v ps) {g:Nat} {t:TypeId} {cells:Array Value} (hb:w.heap[g]? =some (.cells cells t (0,0))) (ht:e≠t) (hk:aZ w w1 g none):gb R e size w1 base v ps:=by
  obtain ⟨inner,ho,hr⟩:=h
  exact ⟨inner,hk.own ho (Ne.symm (lX ho hb ht)) (by cases v.ownBlock<;>simp),hr⟩
theorem gb.lower (h:gb R e size w base v ps) {mq:Nat} (hb:mq≤base):gb R e size w mq v ps:=by
  obtain ⟨inner,ho,hr⟩:=h
  exact ⟨inner,yL ho hb,hr⟩
theorem gb.reads (h:gb R e size w base v ps):∃A c,v= .slice A ps.length c∧ps.length≤c∧fH R size w A ps.length ps:=by
  obtain ⟨inner,ho,hr⟩:=h
  obtain ⟨A,c,rfl,af5⟩:=AE ho hr rfl
  exact ⟨A,c,rfl,V5 ho,af5⟩
theorem gb.Nv (h:gb R e size w base v ps) {g:Nat} {t:TypeId} {cells:Array Value} (hb:w.heap[g]? =some (.cells cells t (0,0))) (ht:e≠t):some g≠v.ownBlock:=by
  obtain ⟨inner,ho,hr⟩:=h
  exact lX ho hb ht
theorem gb.lit (W:World) (base:Nat) {inner:List Value} (hr:bT R size ps inner) (hb:base≤W.heap.size) (hm:ps.length≤9223372036854775807):
    gb R e size (W.alloc (.cells inner.toArray e)) base (.slice (some ⟨W.heap.size,0,none⟩) ps.length ps.length) ps:=by
  have h:=World.ownsRow_lit (base:=base) (e:=e) (size:=size) W inner.toArray ps.length hb (by simpa [maxLen] using hm) (by simpa using hr.1)
  exact ⟨inner,by simpa using h,hr⟩
end
section
variable {P:Program} {ops:Array Oper} {rest:List Oper} {o:Oper} {a:Act} {Q:Exit→Act→World→Prop} {α:Type} {R:α→List Value→Prop}
theorem gb.append {w0 W:World} (base:Nat) (xk:o.guard=none) (s x:Operand) (t e:TypeId) (z:Value) (size bytes:Nat)
    (ho:o.op= .call { callee:= .builtin .append,args:= #[s,x],argTypes:= #[t,t]})
    (ht:P.underlying t=some (.slice e)) (kJ:(P.info? e).map (fun i=>(i.zero,i.size,i.bytes))=some (some z,size,bytes)) (hz:z.cells.size=size) (rY:0<size) (vl:0<bytes)
    (v:Value) (ps:List α) (p:α) (cs:List Value) (hs:a.eval s=v) (hx:a.eval x= .slice (some ⟨W.heap.size,0,none⟩) 1 1) (hp:R p cs) (tF:cs.length=size) (h1:∀u∈cs,u.oneCell'=true)
    (HO:gb R e size W base v ps) (HB:Below base w0 W) (iG:base≤W.heap.size) (hl:(ps.length+1)*bytes≤140737488355328)
    (h:∀v1 w1,gb R e size w1 base v1 (ps++[p])→Below base w0 w1→W.grownBy w1 v.ownBlock→(v1.ownBlock=v.ownBlock∨∃b,v1.ownBlock=some b∧W.heap.size≤b)→wpList P ops Q rest (a.put o.dst v1) w1):
    wpList P ops Q (o::rest) a (W.alloc (.cells cs.toArray e)):=by
  obtain ⟨inner,oV,hr⟩:=HO
  refine nG base xk s x t e z size bytes ho ht kJ hz rY vl v ps.length inner cs hs hx tF h1 oV HB iG hl ?_
  intro v1 w1 NW Oq hg1 Sn
  exact h v1 w1 ⟨inner++cs,by rw [List.length_append,List.length_singleton];exact NW,hr.snoc hp tF⟩ Oq hg1 Sn
end
section
variable {P:Program} {ops:Array Oper} {o:Oper} {a:Act} {Q:Exit→Act→World→Prop} {K:Act→World→Prop} {α:Type} {R:α→List Value→Prop}
end
theorem fH.NI {α:Type} {R:α→List Value→Prop} {size:Nat} {w:World} {ad:Addr} {n:Nat} {ps:List α} (h:fH R size w (some ad) n ps):
    ∃inner,bT R size ps inner∧∀j u,inner[j]? =some u→w.cell? (ad.add j)=some u:=by
  have key:∀m,m≤ps.length→∃inner,bT R size (ps.take m) inner∧∀j u,inner[j]? =some u→w.cell? (ad.add j)=some u:=by
    intro m
    induction m with
    |zero=>exact fun _=>⟨[],bT.none _ _,fun j u hu=>by simp at hu⟩
    | succ m ih =>
      intro hm
      obtain ⟨inner,hr,hc⟩:=ih (by omega)
      obtain ⟨ad',he,mP⟩:=h.2.2 (by have:=h.1;omega)
      injection he with he
      subst he
      obtain ⟨c,vk,hp,Oo⟩:=mP m _ (List.getElem?_eq_getElem (show m<ps.length by omega))
      refine ⟨inner++c,?_,fun j u hu=> ?_⟩
      · rw [List.take_succ_eq_append_getElem (show m<ps.length by omega)]
        exact hr.snoc hp vk
      · have G7:inner.length=m*size:=by rw [hr.1,List.length_take,Nat.min_eq_left (by omega)]
        rcases Nat.lt_or_ge j inner.length with hj|hj
        · rw [List.getElem?_append_left hj] at hu
          exact hc j u hu
        · rw [List.getElem?_append_right hj] at hu
          have:=Oo (j-inner.length) u hu
          rwa [G7,Nat.add_sub_cancel' (by omega)] at this
  obtain ⟨inner,hr,hc⟩:=key ps.length (Nat.le_refl _)
  rw [List.take_length] at hr
  exact ⟨inner,hr,hc⟩
section
variable {α:Type} {P:Program}
theorem oE (enc:α→Value) (d:α) (t e:TypeId) (kl:IntKind) {i:TypeInfo} (ht:P.underlying t=some (.slice e)) (hi:P.info? e=some i) (sr:i.size=1) (A:Option Addr) (c:Nat) (xs:List α) (j:Int) (h0:0≤j) (hm:j≤xs.length) (hc:xs.length≤c):
    (∀W:World,(Instr.slice t (.slice A xs.length c) none (some (.int kl j)) none).run P W= .ok (.slice A (xs.take j.toNat).length c) W)∧
      (∀w:World,fA enc d w A xs.length xs→fA enc d w A (xs.take j.toNat).length (xs.take j.toNat))∧(xs.take j.toNat).length≤c:=by
  have hl:(xs.take j.toNat).length=j.toNat:=by rw [List.length_take];omega
  refine ⟨fun W=> ?_,fun w h=>by rw [hl];exact h.IE j.toNat (by omega),by rw [hl];omega⟩
  have Og:P.elem t=e:=by simp [Program.elem,ht]
  have hu:P.underlying t=some (.slice (P.elem t)):=by rw [Og];exact ht
  have ha:(A.map fun x=>x.add 0)=A:=by cases A<;>simp [Addr.add]
  rw [run_slice_h W t A xs.length c hu kl j h0 (by omega),Og,hl]
  simp [sizeOf,typeInfo,hi,sr,sliced,Result.andThen,ha]
theorem sE (enc:α→Value) (d:α) (t e:TypeId) (kl:IntKind) {i:TypeInfo} (ht:P.underlying t=some (.slice e)) (hi:P.info? e=some i) (sr:i.size=1) (A:Option Addr) (c:Nat) (xs:List α) (j:Int) (h0:0≤j) (hm:j≤xs.length) (hc:xs.length≤c):
    ∃ A' : Option Addr, (∀ W : World, (Instr.slice t (.slice A xs.length c) (some (.int kl j)) none none).run P W = .ok (.slice A' (xs.drop j.toNat).length (c - j.toNat)) W) ∧
      (∀w:World,fA enc d w A xs.length xs→fA enc d w A' (xs.drop j.toNat).length (xs.drop j.toNat))∧(xs.drop j.toNat).length≤c-j.toNat:=by
  obtain ⟨m,rfl⟩:=Int.eq_ofNat_of_zero_le h0
  simp only [Int.toNat_natCast]
  have hmn:m≤xs.length:=by omega
  obtain ⟨A',h1,h2⟩:=Cs (P:=P) enc d t e kl ht hi sr A xs.length c m hmn
  have hl:(xs.drop m).length=xs.length-m:=List.length_drop
  exact ⟨A',fun W=>by rw [hl];exact h1 W,fun w h=>by rw [hl];exact h2 w xs hc h,by rw [hl];omega⟩
end
section
variable {P:Program} {ops:Array Oper} {rest:List Oper} {o:Oper} {a:Act} {Q:Exit→Act→World→Prop}
end
structure Kd (α:Type) where
  sz:Nat
  E:List Nat
  K:World→α→List Value→Prop
  M:World→Nat→(Nat→Prop)→α→List Value→Prop
  lM:∀ {w x cs},K w x cs→cs.length=sz
  lu:∀ {w x cs},K w x cs→∀u∈cs,u.oneCell'=true
  jq:∀ {w w1:World} {x cs},Below w.heap.size w w1→K w x cs→K w1 x cs
  gQ:∀ {w base ok x cs},M w base ok x cs→K w x cs
  fh:∀ {w base ok ok' x cs},(∀k,ok k→ok' k)→M w base ok x cs→M w base ok' x cs
  gu:∀ {w:World} {base ok x cs},M w base ok x cs→M w base (fun k=>ok k∧base≤k∧k<w.heap.size∧∃q,q∈E∧∃cells,w.heap[k]? =some (.cells cells q (0,0))) x cs
  iK:∀ {w w1:World} {base ok x cs},(∀k,ok k→w1.heap[k]? =w.heap[k]?)→M w base ok x cs→M w1 base ok x cs
  jo:∀ {w base mq ok x cs},mq≤base→M w base ok x cs→M w mq ok x cs
theorem Nf {w w1:World} {base:Nat} {e:TypeId} {size n:Nat} {v:Value} {xs:List Value} (h:w.ownsRow base e size v n xs) (hm:∀k,v.ownBlock=some k→w1.heap[k]? =w.heap[k]?):w1.ownsRow base e size v n xs:=by
  obtain ⟨h1,h2⟩:=h
  refine ⟨h1,?_⟩
  rcases h2 with h2|⟨g,cap,cur,rfl,hg,hh,r⟩
  · exact .inl h2
  · exact .inr ⟨g,cap,cur,rfl,hg,(hm g (by simp [Value.ownBlock])).trans hh,r⟩
theorem rT {w:World} {base:Nat} {e:TypeId} {size n:Nat} {v:Value} {xs:List Value} (h:w.ownsRow base e size v n xs) (k:Nat) (hk:v.ownBlock=some k):∃cells,w.heap[k]? =some (.cells cells e (0,0)):=by
  rcases h.2 with ⟨rfl,_⟩|⟨g,cap,cur,rfl,hg,hh,r⟩
  · simp [Value.ownBlock] at hk
  · have:g=k:=by simpa [Value.ownBlock] using hk
    subst this
    exact ⟨cur,hh⟩
namespace Kd
def C {α:Type} (d:Kd α) (w:World) (A:Option Addr) (n:Nat) (xs:List α):Prop:=fH (d.K w) d.sz w A n xs
def R {α:Type} (d:Kd α) (e:Nat) (w:World) (base:Nat) (ok:Nat→Prop) (v:Value) (xs:List α):Prop:=
  (∀k,v.ownBlock=some k→ok k)∧gb (d.M w base (fun k=>ok k∧some k≠v.ownBlock)) e d.sz w base v xs
section
variable {α:Type} {d:Kd α} {e:Nat} {w w1:World} {base:Nat} {ok ok':Nat→Prop} {v:Value} {xs:List α}
theorem aD {A:Option Addr} {n:Nat} (h:d.C w A n xs) (hb:Below w.heap.size w w1):d.C w1 A n xs:=fH.pQ h hb (fun _ _ hp=>d.jq hb hp)
theorem qo (d:Kd α) (e:Nat) (w:World) (base:Nat) (ok:Nat→Prop):d.R e w base ok (.slice none 0 0) []:=⟨fun k hk=>by simp [Value.ownBlock] at hk,gb.none_ _ _ _ _ _⟩
theorem bJ (h:d.R e w base ok v xs) (nY:∀k,ok k→ok' k):d.R e w base ok' v xs:=⟨fun k hk=>nY k (h.1 k hk),h.2.pQ (fun _ _ hp=>d.fh (fun k hk=>⟨nY k hk.1,hk.2⟩) hp)⟩
theorem kf (h:d.R e w base ok v xs):d.R e w base (fun k=>ok k∧base≤k∧k<w.heap.size∧∃q,q∈e::d.E∧∃cells,w.heap[k]? =some (.cells cells q (0,0))) v xs:=by
  obtain ⟨h0,inner,ho,hr⟩:=h
  refine ⟨fun k hk=> ?_,inner,ho,hr.pQ (fun _ _ hp=>d.fh (fun k hk=> ?_) (d.gu hp))⟩
  · obtain ⟨cells,hc⟩:=rT ho k hk
    exact ⟨h0 k hk,oQ ho k hk,Ng ho k hk,e,List.mem_cons_self,cells,hc⟩
  · obtain ⟨⟨h1,h2⟩,h3,h4,q,hq,hc⟩:=hk
    exact ⟨⟨h1,h3,h4,q,List.mem_cons_of_mem _ hq,hc⟩,h2⟩
theorem vW (h:d.R e w base ok v xs) (hm:∀k,ok k→w1.heap[k]? =w.heap[k]?):d.R e w1 base ok v xs:=by
  obtain ⟨h0,inner,ho,hr⟩:=h
  exact ⟨h0,inner,Nf ho (fun k hk=>hm k (h0 k hk)),hr.pQ (fun _ _ hp=>d.iK (fun k hk=>hm k hk.1) hp)⟩
theorem dz {mq:Nat} (h:d.R e w base ok v xs) (hb:mq≤base):d.R e w mq ok v xs:=by
  obtain ⟨h0,inner,ho,hr⟩:=h
  exact ⟨h0,inner,yL ho hb,hr.pQ (fun _ _ hp=>d.jo hb hp)⟩
theorem rE (h:d.R e w base ok v xs) (hm:∀k,ok k→k<w.heap.size→w1.heap[k]? =w.heap[k]?):d.R e w1 base ok v xs:=
  bJ (vW (kf h) (fun k hk=>hm k hk.1 hk.2.2.1)) (fun _ hk=>hk.1)
theorem PE {x:α} {cs:List Value} (h:d.M w base ok x cs) (hm:∀k,ok k→k<w.heap.size→w1.heap[k]? =w.heap[k]?):d.M w1 base ok x cs:=
  d.fh (fun _ hk=>hk.1) (d.iK (fun k hk=>hm k hk.1 hk.2.2.1) (d.gu h))
theorem fF (h:d.R e w base ok v xs) (hb:Below w.heap.size w w1):d.R e w1 base ok v xs:=rE h (fun k _ hk=>hb.block k hk)
theorem JV {x:α} {cs:List Value} (h:d.M w base ok x cs) (hb:Below w.heap.size w w1):d.M w1 base ok x cs:=PE h (fun k _ hk=>hb.block k hk)
theorem ac6 (h:d.R e w base ok v xs) {p:Addr} (nY:∀k,ok k→k≠p.block) (u:Value):d.R e (w.setCell p u) base ok v xs:=rE h (fun k ho _=>Below.heap_setCell w p u k (nY k ho))
theorem jj (h:d.R e w base ok v xs) {g:Nat} (hk:aZ w w1 g none) (nY:∀k,ok k→k≠g):d.R e w1 base ok v xs:=rE h (fun k ho fl=>hk.2 k fl (nY k ho) (by simp))
theorem qa (h:d.R e w base ok v xs) {g t:Nat} {cells:Array Value} (hb:w.heap[g]? =some (.cells cells t (0,0))) (ht:∀q,q∈e::d.E→q≠t):d.R e w base (fun k=>ok k∧k≠g) v xs:=
  bJ (kf h) (fun k hk=>⟨hk.1,by
    obtain ⟨_,_,_,q,hq,HW,hc⟩:=hk
    rintro rfl
    rw [hc] at hb
    injection hb with hb
    injection hb with _ hb
    exact ht q hq hb⟩)
theorem uS (h:d.R e w base ok v xs):∃A c,v= .slice A xs.length c∧xs.length≤c∧d.C w A xs.length xs:=by
  obtain ⟨A,c,he,hl,hr⟩:=gb.reads h.2
  exact ⟨A,c,he,hl,hr.pQ (Below.refl _ _) (fun _ _ hp=>d.gQ hp)⟩
theorem de (h:d.R e w base ok v xs):∃A c,v= .slice A xs.length c:=by
  obtain ⟨A,c,he,_⟩:=uS h
  exact ⟨A,c,he⟩
theorem zR (h:d.R e w base ok v xs):∃inner,w.ownsRow base e d.sz v xs.length inner:=by
  obtain ⟨_,inner,ho,_⟩:=h
  exact ⟨inner,ho⟩
theorem mS (h:d.R e w base ok v xs) {g t:Nat} {cells:Array Value} (hb:w.heap[g]? =some (.cells cells t (0,0))) (ht:e≠t):some g≠v.ownBlock:=gb.Nv h.2 hb ht
end
def scalar {α:Type} (enc:α→Value) (h1:∀x,(enc x).oneCell'=true):Kd α where
  sz:=1
  E:=[]
  K:=fun _ x cs=>cs=[enc x]
  M:=fun _ _ _ x cs=>cs=[enc x]
  lM:=fun h=>by rw [h];rfl
  lu:=fun h u hu=>by
    rw [h] at hu
    rw [List.mem_singleton.1 hu]
    exact h1 _
  jq:=fun _ h=>h
  gQ:=fun h=>h
  fh:=fun _ h=>h
  gu:=fun h=>h
  iK:=fun _ h=>h
  jo:=fun _ h=>h
def int (k:IntKind):Kd Int:=scalar (Value.int k) (fun _=>rfl)
def bool:Kd Bool:=scalar Value.bool (fun _=>rfl)
def string:Kd ByteArray:=scalar Value.string (fun _=>rfl)
def slice {α:Type} (e:Nat) (d:Kd α):Kd (List α) where
  sz:=1
  E:=e::d.E
  K:=fun w xs cs=>∃A c,cs=[.slice A xs.length c]∧xs.length≤c∧d.C w A xs.length xs
  M:=fun w base ok xs cs=>∃v,cs=[v]∧d.R e w base ok v xs
  lM:=by
    rintro w x cs ⟨A,c,rfl,_⟩
    rfl
  lu:=by
    rintro w x cs ⟨A,c,rfl,_⟩ u hu
    rw [List.mem_singleton.1 hu]
    rfl
  jq:=by
    rintro w w1 x cs hb ⟨A,c,rfl,hl,hr⟩
    exact ⟨A,c,rfl,hl,aD hr hb⟩
  gQ:=by
    rintro w base ok x cs ⟨v,rfl,h⟩
    obtain ⟨A,c,rfl,hl,hr⟩:=uS h
    exact ⟨A,c,rfl,hl,hr⟩
  fh:=by
    rintro w base ok ok' x cs nY ⟨v,rfl,h⟩
    exact ⟨v,rfl,bJ h nY⟩
  gu:=by
    rintro w base ok x cs ⟨v,rfl,h⟩
    exact ⟨v,rfl,kf h⟩
  iK:=by
    rintro w w1 base ok x cs hm ⟨v,rfl,h⟩
    exact ⟨v,rfl,vW h hm⟩
  jo:=by
    rintro w base mq ok x cs hb ⟨v,rfl,h⟩
    exact ⟨v,rfl,dz h hb⟩
def pair {α β:Type} (a:Kd α) (b:Kd β):Kd (α×β) where
  sz:=a.sz+b.sz
  E:=a.E++b.E
  K:=fun w x cs=>∃c0 c1,cs=c0++c1∧a.K w x.1 c0∧b.K w x.2 c1
  M:=fun w base ok x cs=>∃c0 c1,cs=c0++c1∧a.M w base ok x.1 c0∧b.M w base ok x.2 c1
  lM:=by
    rintro w x cs ⟨c0,c1,rfl,h0,h1⟩
    rw [List.length_append,a.lM h0,b.lM h1]
  lu:=by
    rintro w x cs ⟨c0,c1,rfl,h0,h1⟩ u hu
    rcases List.mem_append.1 hu with hu|hu
    · exact a.lu h0 u hu
    · exact b.lu h1 u hu
  jq:=by
    rintro w w1 x cs hb ⟨c0,c1,rfl,h0,h1⟩
    exact ⟨c0,c1,rfl,a.jq hb h0,b.jq hb h1⟩
  gQ:=by
    rintro w base ok x cs ⟨c0,c1,rfl,h0,h1⟩
    exact ⟨c0,c1,rfl,a.gQ h0,b.gQ h1⟩
  fh:=by
    rintro w base ok ok' x cs nY ⟨c0,c1,rfl,h0,h1⟩
    exact ⟨c0,c1,rfl,a.fh nY h0,b.fh nY h1⟩
  gu:=by
    rintro w base ok x cs ⟨c0,c1,rfl,h0,h1⟩
    refine ⟨c0,c1,rfl,a.fh ?_ (a.gu h0),b.fh ?_ (b.gu h1)⟩
    · rintro k ⟨h2,h3,h4,q,hq,hc⟩
      exact ⟨h2,h3,h4,q,List.mem_append_left _ hq,hc⟩
    · rintro k ⟨h2,h3,h4,q,hq,hc⟩
      exact ⟨h2,h3,h4,q,List.mem_append_right _ hq,hc⟩
  iK:=by
    rintro w w1 base ok x cs hm ⟨c0,c1,rfl,h0,h1⟩
    exact ⟨c0,c1,rfl,a.iK hm h0,b.iK hm h1⟩
  jo:=by
    rintro w base mq ok x cs hb ⟨c0,c1,rfl,h0,h1⟩
    exact ⟨c0,c1,rfl,a.jo hb h0,b.jo hb h1⟩
def iso {α β:Type} (d:Kd α) (f:β→α):Kd β where
  sz:=d.sz
  E:=d.E
  K:=fun w x cs=>d.K w (f x) cs
  M:=fun w base ok x cs=>d.M w base ok (f x) cs
  lM:=d.lM
  lu:=d.lu
  jq:=d.jq
  gQ:=d.gQ
  fh:=d.fh
  gu:=d.gu
  iK:=d.iK
  jo:=d.jo
def bot {α:Type} (sz:Nat) (E:List Nat):Kd α where
  sz:=sz
  E:=E
  K:=fun _ _ _=>False
  M:=fun _ _ _ _ _=>False
  lM:=fun h=>h.elim
  lu:=fun h=>h.elim
  jq:=fun _ h=>h
  gQ:=fun h=>h
  fh:=fun _ h=>h
  gu:=fun h=>h
  iK:=fun _ h=>h
  jo:=fun _ h=>h
def upto {α:Type} (F:Kd α→Kd α) (sz:Nat) (E:List Nat):Nat→Kd α
  |0=>bot sz E
  |n+1=>F (upto F sz E n)
theorem U7 {α:Type} {d:Kd α} {w:World} {A:Option Addr} {n:Nat} {xs:List α} (h:d.C w A n xs) (z:α) (i:Int) (h0:0≤i) (h1:i<n):
    ∃ad c,A=some ad∧c.length=d.sz∧d.K w (xs.getD i.toNat z) c∧∀j u,c[j]? =some u→w.cell? (ad.add (i.toNat*d.sz+j))=some u:=fH.agF h z i h0 h1
theorem Ii {α:Type} {d:Kd α} {e base:Nat} {ok okp:Nat→Prop} {W w1:World} {v v1:Value} {xs:List α} {p:α} {inner cs:List Value} (h0:∀k,v.ownBlock=some k→ok k) (hr:bT (d.M W base (fun k=>ok k∧some k≠v.ownBlock)) d.sz xs inner) (hp:d.M W base okp p cs) (vL:∀k,okp k→ok k∧some k≠v.ownBlock) (je:∀k,W.heap.size≤k→ok k)
    (oV:w1.ownsRow base e d.sz v1 (xs.length+1) (inner++cs)) (hg:W.grownBy w1 v.ownBlock) (eC:v1.ownBlock=v.ownBlock∨∃b,v1.ownBlock=some b∧W.heap.size≤b):d.R e w1 base ok v1 (xs++[p]):=by
  have iP:∀k,some k≠v.ownBlock→k<W.heap.size→some k≠v1.ownBlock:=by
    intro k hk fl
    rcases eC with eC|⟨b,hb,hle⟩
    · rw [eC];exact hk
    · rw [hb]
      intro he
      injection he with he
      omega
  have step:∀ {q:α} {c:List Value} {o:Nat→Prop},d.M W base o q c→(∀k,o k→ok k∧some k≠v.ownBlock)→d.M w1 base (fun k=>ok k∧some k≠v1.ownBlock) q c:=by
    intro q c o hq ho
    have h1:=d.iK (w1:=w1) (fun k hk=>hg.block k hk.2.2.1 (ho k hk.1).2) (d.gu hq)
    exact d.fh (fun k hk=>⟨(ho k hk.1).1,iP k (ho k hk.1).2 hk.2.2.1⟩) h1
  refine ⟨fun k hk=> ?_,inner++cs,by rw [List.length_append,List.length_singleton];exact oV,?_⟩
  · rcases eC with eC|⟨b,hb,hle⟩
    · exact h0 k (eC▸hk)
    · rw [hb] at hk
      injection hk with hk
      exact je k (by omega)
  · exact (hr.pQ (fun _ _ hq=>step hq (fun _ hk=>hk))).snoc (step hp vL) (d.lM (d.gQ hp))
section
variable {P:Program} {ops:Array Oper} {rest:List Oper} {o:Oper} {a:Act} {Q:Exit→Act→World→Prop} {α:Type}
theorem ig (d:Kd α) {w0 W:World} (base:Nat) (xk:o.guard=none) (s x:Operand) (t e:TypeId) (z:Value) (bytes:Nat)
    (ho:o.op= .call { callee:= .builtin .append,args:= #[s,x],argTypes:= #[t,t]})
    (ht:P.underlying t=some (.slice e)) (kJ:(P.info? e).map (fun i=>(i.zero,i.size,i.bytes))=some (some z,d.sz,bytes)) (hz:z.cells.size=d.sz) (rY:0<d.sz) (vl:0<bytes)
    (v:Value) (xs:List α) (p:α) (cs:List Value) (ok okp:Nat→Prop) (hs:a.eval s=v) (hx:a.eval x= .slice (some ⟨W.heap.size,0,none⟩) 1 1) (hp:d.M W base okp p cs) (vL:∀k,okp k→ok k∧some k≠v.ownBlock) (je:∀k,W.heap.size≤k→ok k)
    (HO:d.R e W base ok v xs) (HB:Below base w0 W) (iG:base≤W.heap.size) (hl:(xs.length+1)*bytes≤140737488355328)
    (h:∀v1 w1,d.R e w1 base ok v1 (xs++[p])→Below base w0 w1→W.grownBy w1 v.ownBlock→(v1.ownBlock=v.ownBlock∨∃b,v1.ownBlock=some b∧W.heap.size≤b)→wpList P ops Q rest (a.put o.dst v1) w1):
    wpList P ops Q (o::rest) a (W.alloc (.cells cs.toArray e)):=by
  obtain ⟨h0,inner,oV,hr⟩:=HO
  refine nG base xk s x t e z d.sz bytes ho ht kJ hz rY vl v xs.length inner cs hs hx (d.lM (d.gQ hp)) (d.lu (d.gQ hp)) oV HB iG hl ?_
  intro v1 w1 NW Oq hg1 Sn
  exact h v1 w1 (Ii h0 hr hp vL je NW hg1 Sn) Oq hg1 Sn
end
section
variable {P:Program} {ops:Array Oper} {o:Oper} {a:Act} {Q:Exit→Act→World→Prop} {Kc:Act→World→Prop} {α:Type}
end
theorem Es {α:Type} {enc:α→Value} (xs:List α):bT (fun (x:α) (cs:List Value)=>cs=[enc x]) 1 xs (jg enc xs):=by
  refine ⟨by simp [jg],fun j p hj=> ?_⟩
  obtain ⟨hl,hp⟩:=List.getElem?_eq_some_iff.1 hj
  have hl':j<(jg enc xs).length:=by rw [qZ];exact hl
  rw [Nat.mul_one,List.drop_eq_getElem_cons hl']
  simp [jg,hp]
theorem o8 {α:Type} {enc:α→Value} {h1:∀x,(enc x).oneCell'=true} {e:Nat} {w:World} {base:Nat} {ok:Nat→Prop} {v:Value} {xs:List α} (ho:w.ownsRow base e 1 v xs.length (jg enc xs)) (nY:∀k,v.ownBlock=some k→ok k):(scalar enc h1).R e w base ok v xs:=⟨nY,jg enc xs,ho,Es xs⟩
theorem iV {α:Type} {enc:α→Value} {h1:∀x,(enc x).oneCell'=true} {e:Nat} {w:World} {base:Nat} {ok:Nat→Prop} {v:Value} {xs:List α} (h:(scalar enc h1).R e w base ok v xs):w.ownsRow base e 1 v xs.length (jg enc xs):=by
  obtain ⟨_,inner,ho,hr⟩:=h
  have:inner=jg enc xs:=by
    apply List.ext_getElem?
    intro j
    rcases Nat.lt_or_ge j xs.length with hj|hj
    · have h2:=hr.2 j _ (List.getElem?_eq_getElem hj)
      have hl:j<inner.length:=by have:=hr.1;simp [scalar] at this;omega
      have h3:(inner.drop (j*1)).take 1=[enc xs[j]]:=h2
      rw [Nat.mul_one,List.drop_eq_getElem_cons hl] at h3
      have h4:inner[j]=enc xs[j]:=by
        have h5:=congrArg List.head? h3
        rw [List.take_succ_cons] at h5
        exact Option.some.inj h5
      rw [List.getElem?_eq_getElem hl,h4]
      simp [jg,List.getElem?_eq_getElem hj]
    · have h3:inner.length=xs.length:=by have:=hr.1;simp [scalar] at this;omega
      rw [List.getElem?_eq_none (by omega),List.getElem?_eq_none (by rw [qZ];omega)]
  rw [←this]
  exact ho
theorem lE {α:Type} {enc:α→Value} {d:α} {h1:∀x,(enc x).oneCell'=true} {w:World} {A:Option Addr} {n:Nat} {xs:List α} (h:fA enc d w A n xs):(scalar enc h1).C w A n xs:=by
  refine ⟨h.1,h.2.1,fun hn=> ?_⟩
  obtain ⟨ad,e,hc⟩:=h.2.2 hn
  refine ⟨ad,e,fun j p hj=>⟨[enc p],rfl,rfl,fun i u hu=> ?_⟩⟩
  obtain ⟨hl,hp⟩:=List.getElem?_eq_some_iff.1 hj
  have h2:=hc j (by have:=h.1;omega)
  rw [List.getD_eq_getElem?_getD,hj] at h2
  cases i with
  | zero =>
    have:enc p=u:=by simpa using hu
    subst this
    simpa [scalar] using h2
  |succ i=>simp at hu
theorem lC {α:Type} {enc:α→Value} {d:α} {h1:∀x,(enc x).oneCell'=true} {w:World} {A:Option Addr} {n:Nat} {xs:List α} (h:(scalar enc h1).C w A n xs):fA enc d w A n xs:=by
  refine ⟨h.1,h.2.1,fun hn=> ?_⟩
  obtain ⟨ad,e,hc⟩:=h.2.2 hn
  refine ⟨ad,e,fun j hj=> ?_⟩
  have hl:j<xs.length:=by have:=h.1;omega
  obtain ⟨c,_,hK,mP⟩:=hc j _ (List.getElem?_eq_getElem hl)
  have hK':c=[enc xs[j]]:=hK
  subst hK'
  have:=mP 0 _ rfl
  simpa [scalar,List.getD_eq_getElem?_getD,List.getElem?_eq_getElem hl] using this
end Kd
namespace Kd
section
variable {α:Type} {F:Kd α→Kd α} {sz:Nat} {E:List Nat} {hs:∀n,(upto F sz E n).sz=sz} {hE:∀n q,q∈(upto F sz E n).E→q∈E}
end
end Kd
namespace Kd
theorem cF {α:Type} {d:Kd α} {e base:Nat} {ok:Nat→Prop} {W w1:World} {u v v1:Value} {xs:List α} (h:d.R e W base (fun k=>ok k∧some k≠v.ownBlock) u xs) (hg:W.grownBy w1 v.ownBlock) (eC:v1.ownBlock=v.ownBlock∨∃b,v1.ownBlock=some b∧W.heap.size≤b):d.R e w1 base (fun k=>ok k∧some k≠v1.ownBlock) u xs:=by
  refine bJ (vW (kf h) (fun k hk=>hg.block k hk.2.2.1 hk.1.2)) (fun k hk=>⟨hk.1.1,?_⟩)
  rcases eC with eC|⟨b,hb,hle⟩
  · rw [eC];exact hk.1.2
  · rw [hb]
    intro he
    injection he with he
    have:=hk.2.2.1
    omega
theorem UL {α:Type} {d:Kd α} {e base:Nat} {ok:Nat→Prop} {w:World} {v:Value} {xs:List α} (h:d.R e w base ok v xs):(slice e d).M w base ok xs [v]:=⟨v,rfl,h⟩
end Kd
namespace Kd
section
variable {α β:Type} {d:Kd α} {d':Kd β} {e e':Nat} {w w1 W:World} {base b b':Nat} {ok ok' Zh oku:Nat→Prop} {v u:Value} {xs:List α} {ys:List β}
theorem cz (h:d.R e w base ok v xs) (o:Obj):d.R e (w.alloc o) base ok v xs:=fF h (dQ (Below.refl _ _) o)
theorem cD (h:d.R e w base ok v xs):d.R e w.drew base ok v xs:=fF h (iI (Below.refl _ _))
theorem cy (h:d.R e w base ok v xs) (m:Nat):d.R e (w.drewN m) base ok v xs:=fF h (ek (Below.refl _ _) m)
theorem kS {A:Option Addr} {n:Nat} (h:d.C w A n xs) (o:Obj):d.C (w.alloc o) A n xs:=aD h (dQ (Below.refl _ _) o)
theorem mG {A:Option Addr} {n:Nat} (h:d.C w A n xs):d.C w.drew A n xs:=aD h (iI (Below.refl _ _))
theorem kR {A:Option Addr} {n:Nat} (h:d.C w A n xs) (m:Nat):d.C (w.drewN m) A n xs:=aD h (ek (Below.refl _ _) m)
theorem aed (d:Kd α) (w:World):d.C w none ([]:List α).length []:=⟨rfl,by simp,fun h=>absurd h (Nat.lt_irrefl 0)⟩
theorem aJ {A:Option Addr} {n c:Nat} (h:d.R e w base ok (.slice A n c) xs):n=xs.length∧n≤c∧d.C w A xs.length xs:=by
  obtain ⟨A',c',he,hl,hr⟩:=uS h
  injection he with h1 h2 h3
  subst h1
  exact ⟨h2,by omega,hr⟩
theorem ji (h:d.R e w base ok v xs):∀k,v.ownBlock=some k→k<w.heap.size:=by
  obtain ⟨inner,ho⟩:=zR h
  exact Ng ho
theorem j3 (h:d.R e w base ok v xs):∀k,v.ownBlock=some k→base≤k:=by
  obtain ⟨inner,ho⟩:=zR h
  exact oQ ho
theorem Pt (h:d.R e w base ok v xs) {g:Nat} (nY:∀k,ok k→k≠g):some g≠v.ownBlock:=fun e=>nY g (h.1 g e.symm) rfl
theorem zS (h:d.R e w base ok v xs) (hp:0<xs.length):∃g cap,v= .slice (some ⟨g,0,none⟩) xs.length cap∧base≤g∧g<w.heap.size∧∃cells,w.heap[g]? =some (.cells cells e (0,0)):=by
  obtain ⟨inner,ho⟩:=zR h
  obtain ⟨g,cap,he,hb,hl⟩:=ho.form hp
  obtain ⟨cells,hc⟩:=rT ho g (by rw [he];simp [Value.ownBlock])
  exact ⟨g,cap,he,hb,hl,cells,hc⟩
end
section
variable {w W:World} {A:Option Addr} {n:Nat}
theorem jS {k:IntKind} {xs:List Int} (h:(Kd.int k).C w A n xs) (i:Int) (h0:0≤i) (h1:i<n):∃ad,A=some ad∧w.cell? (ad.add i.toNat)=some (.int k (rd xs i)):=
  fA.at_ (lC (enc:=Value.int k) (d:=(0:Int)) (h1:=fun _=>rfl) h) i h0 h1
theorem bq {xs:List ByteArray} (h:Kd.string.C w A n xs) (i:Int) (h0:0≤i) (h1:i<n):∃ad,A=some ad∧w.cell? (ad.add i.toNat)=some (.string (aQ ByteArray.empty xs i)):=
  fA.at_ (lC (enc:=Value.string) (d:=ByteArray.empty) (h1:=fun _=>rfl) h) i h0 h1
variable {α:Type} {enc:α→Value} {h1:∀x,(enc x).oneCell'=true} {e base g cap:Nat} {ok:Nat→Prop} {xs:List α}
theorem Ys (d:α) (h:(scalar enc h1).R e W base ok (.slice (some ⟨g,0,none⟩) xs.length cap) xs) (i:Int) (h0:0≤i) (hi:i<xs.length):W.cell? ⟨g,i.toNat,none⟩=some (enc (aQ d xs i))∧W.frozen? ⟨g,i.toNat,none⟩=false:=KV (iV h) i h0 hi
theorem Uq (h:(scalar enc h1).R e W base ok (.slice (some ⟨g,0,none⟩) xs.length cap) xs) (i:Int) (x:α):(scalar enc h1).R e (W.setCell ⟨g,i.toNat,none⟩ (enc x)) base ok (.slice (some ⟨g,0,none⟩) xs.length cap) (xs.set i.toNat x)∧W.grownBy (W.setCell ⟨g,i.toNat,none⟩ (enc x)) (some g):=by
  obtain ⟨ho,hg⟩:=Cx (iV h) i x
  exact ⟨o8 (by rw [List.length_set];exact ho) h.1,hg⟩
end
section
variable {P:Program} {ops:Array Oper} {rest:List Oper} {o:Oper} {a:Act} {Q:Exit→Act→World→Prop}
theorem BD {W w1:World} {v:Value} (xk:o.guard=none) (kI:(execOp a.eval o).run P W= .ok (.value v) w1) (h:wpList P ops Q rest (a.put o.dst v) w1):wpList P ops Q (o::rest) a W:=by
  refine wpList_plain xk fun K hK=> ?_
  unfold Oper.wp
  rw [kI]
  exact hK _ _ h
variable {α:Type}
theorem gD (d:Kd α) {w0 W:World} (base e:Nat) (xk:o.guard=none) {N:Tmp} (_hd:o.dst=some N) {xs:List α} {inner:List Value} {ok okp:Nat→Prop}
    (kI:(execOp a.eval o).run P W= .ok (.value (.slice (some ⟨W.heap.size,0,none⟩) xs.length xs.length)) (W.alloc (.cells inner.toArray e)))
    (GY:bT (d.M W base okp) d.sz xs inner) (nY:∀k,okp k→ok k) (je:ok W.heap.size) (HB:Below base w0 W) (iG:base≤W.heap.size) (hm:xs.length≤9223372036854775807)
    (h:∀v1 w1,d.R e w1 base ok v1 xs→Below base w0 w1→W.grownBy w1 none→(∃b,v1.ownBlock=some b∧W.heap.size≤b)→wpList P ops Q rest (a.put o.dst v1) w1):wpList P ops Q (o::rest) a W:=by
  refine BD xk kI (h _ _ ⟨fun k hk=> ?_,inner,?_,?_⟩ (HB.alloc iG _) (World.grownBy_alloc W _ none) ⟨W.heap.size,by simp [Value.ownBlock],Nat.le_refl _⟩)
  · have:W.heap.size=k:=by simpa [Value.ownBlock] using hk
    subst this
    exact je
  · have h2:=World.ownsRow_lit (base:=base) (e:=e) (size:=d.sz) W inner.toArray xs.length iG (by simpa [maxLen] using hm) (by simpa using GY.1)
    simpa using h2
  · refine GY.pQ (fun p c hp=>d.fh (fun k hk=>⟨nY k hk.1,fun he=> ?_⟩) (JV (d.gu hp) (dQ (Below.refl _ _) _)))
    have h3:k=W.heap.size:=by simpa [Value.ownBlock] using he
    have:=hk.2.2.1
    omega
theorem Bc {α:Type} {R:α→List Value→Prop} {z:Value} {size:Nat} {z0:α} (hz:z.cells.size=size) (hs:0<size) (h0:R z0 z.cells.toList) (m:Nat):bT R size (List.replicate m z0) (madeCells z.cells (m*size)).toList:=by
  refine ⟨by simp [size_madeCells],fun j p hj=> ?_⟩
  obtain ⟨Jl,hp⟩:=List.getElem?_eq_some_iff.1 hj
  have hjm:j<m:=by simpa using Jl
  have RU:z0=p:=by simpa using hp
  subst RU
  have hle:j*size+size≤m*size:=by rw [←Nat.succ_mul];exact Nat.mul_le_mul_right _ hjm
  have:((madeCells z.cells (m*size)).toList.drop (j*size)).take size=z.cells.toList:=by
    apply List.ext_getElem
    · simp [size_madeCells,hz]
      omega
    · intro i h1 h2
      have hi:i<size:=by rw [Array.length_toList,hz] at h2;exact h2
      have af7:(j*size+i)%size=i:=by
        rw [Nat.mul_comm,Nat.mul_add_mod]
        exact Nat.mod_eq_of_lt hi
      simp [madeCells,hz,af7]
      rw [getElem!_pos z.cells i (by omega)]
  rw [this]
  exact h0
theorem Pq (d:Kd α) {w0 W:World} (base e:Nat) (xk:o.guard=none) {N:Tmp} (hd:o.dst=some N) (t:TypeId) (x y:Operand) (ho:o.op= .makeSlice t x y) (n:Int) (hx:a.eval x= .int .i64 n) (hy:a.eval y= .int .i64 n)
    (ht:P.underlying t=some (.slice e)) (z:Value) (bytes:Nat) (kJ:(P.info? e).map (fun i=>(i.zero,i.size,i.bytes))=some (some z,d.sz,bytes)) (hz:z.cells.size=d.sz) (rY:0<d.sz) (vl:0<bytes)
    (z0:α) {ok okp:Nat→Prop} (hzero:d.M W base okp z0 z.cells.toList) (nY:∀k,okp k→ok k) (je:ok W.heap.size) (h0:0≤n) (hl:n.toNat*bytes≤281474976710656) (HB:Below base w0 W) (iG:base≤W.heap.size)
    (h:∀v1 w1,d.R e w1 base ok v1 (List.replicate n.toNat z0)→Below base w0 w1→W.grownBy w1 none→(∃b,v1.ownBlock=some b∧W.heap.size≤b)→wpList P ops Q rest (a.put o.dst v1) w1):wpList P ops Q (o::rest) a W:=by
  obtain ⟨m,rfl⟩:=Int.eq_ofNat_of_zero_le h0
  simp only [Int.toNat_natCast] at hl h
  obtain ⟨i0,hi,EM⟩:=Option.map_eq_some_iff.1 kJ
  simp only [Prod.mk.injEq] at EM
  obtain ⟨D3,Bv,D2⟩:=EM
  have hm:m≤281474976710656:=Nat.le_trans (Nat.le_mul_of_pos_right _ vl) hl
  have hr:=run_make (P:=P) W t e i0 z ht hi D3 .i64 .i64 (m:Int) (m:Int) (by omega) (by omega)
    (by
      have h3:((i0.bytes*m:Nat):Int)≤281474976710656:=by rw [D2,Nat.mul_comm];omega
      rwa [Int.natCast_mul] at h3) (by omega)
  simp only [Int.toNat_natCast] at hr
  rw [Bv] at hr
  refine gD d base e xk hd (xs:=List.replicate m z0) (inner:=(madeCells z.cells (m*d.sz)).toList) (okp:=okp) (ok:=ok) ?_ (Bc hz rY hzero m) nY je HB iG (by simp;omega) h
  simp [execOp,ho,hx,hy,hr]
end
end Kd
section
variable {P:Program}
theorem vP (t e:TypeId) (kh:IntKind) {i:TypeInfo} (ht:P.underlying t=some (.slice e)) (hi:P.info? e=some i) (A:Option Addr) (n c:Nat) (j:Int) (h0:0≤j) (hm:j≤n) (hc:n≤c):
    ∀W:World,(Instr.slice t (.slice A n c) none (some (.int kh j)) none).run P W= .ok (.slice A j.toNat c) W:=by
  intro W
  have Og:P.elem t=e:=by simp [Program.elem,ht]
  have hu:P.underlying t=some (.slice (P.elem t)):=by rw [Og];exact ht
  have ha:(A.map fun x=>x.add 0)=A:=by cases A<;>simp [Addr.add]
  rw [run_slice_h W t A n c hu kh j h0 (by omega),Og]
  simp [sizeOf,typeInfo,hi,sliced,Result.andThen,ha]
theorem o4 (t e:TypeId) (kl:IntKind) {i:TypeInfo} (ht:P.underlying t=some (.slice e)) (hi:P.info? e=some i) (size:Nat) (sr:i.size=size) (A:Option Addr) (n c:Nat) (j:Int) (h0:0≤j) (hm:j≤n):
    ∀W:World,(Instr.slice t (.slice A n c) (some (.int kl j)) none none).run P W= .ok (.slice (if c=j.toNat then A else A.map (·.add (j.toNat*size))) (n-j.toNat) (c-j.toNat)) W:=by
  intro W
  have Og:P.elem t=e:=by simp [Program.elem,ht]
  have hu:P.underlying t=some (.slice (P.elem t)):=by rw [Og];exact ht
  rw [run_slice_l W t A n c hu kl j h0 hm,Og]
  simp [sizeOf,typeInfo,hi,sr,sliced,Result.andThen]
end
def ac7 (w:World) (base:Nat) (e:TypeId) (size:Nat) (v:Value) (n:Nat) (xs:List Value):Prop:=
  xs.length=n*size∧
  ((n = 0 ∧ ∃ A, v = .slice A 0 0 ∧ ∀ a, A = some a → base ≤ a.block ∧ ∃ cur, w.heap[a.block]? = some (.cells cur e (0, 0))) ∨
   ∃g off cap cur,v= .slice (some ⟨g,off*size,none⟩) n cap∧base≤g∧w.heap[g]? =some (.cells cur e (0,0))∧n≤cap∧off+cap≤maxLen∧cur.size=(off+cap)*size∧(cur.toList.drop (off*size)).take (n*size)=xs)
section
variable {w w1:World} {base n size:Nat} {e:TypeId} {v:Value} {xs:List Value}
theorem M4 (h:w.ownsRow base e size v n xs):ac7 w base e size v n xs:=by
  obtain ⟨h1,h2⟩:=h
  refine ⟨h1,?_⟩
  rcases h2 with ⟨rfl,h0⟩|⟨g,cap,cur,rfl,hb,hh,I9,hcm,tF,ht⟩
  · exact .inl ⟨h0,none,rfl,fun a ha=>by cases ha⟩
  · exact .inr ⟨g,0,cap,cur,by rw [Nat.zero_mul],hb,hh,I9,by rw [Nat.zero_add];exact hcm,by rw [Nat.zero_add];exact tF,by rw [Nat.zero_mul,List.drop_zero];exact ht⟩
theorem Ym (g o j:Nat):(⟨g,o,none⟩:Addr).add j=⟨g,o+j,none⟩:=by unfold Addr.add;split<;>simp_all
theorem tO {g:Nat} :∀(vs:List Value) (o:Nat) {w:World} (k:Nat),k≠g→(w.setCells g o vs).heap[k]? =w.heap[k]?
  |[],_,_,_,_=>rfl
  | v :: r, o, w, k, hk => by
    rw [World.setCells,tO r (o+1) k hk]
    exact Below.heap_setCell w ⟨g,o,none⟩ v k hk
theorem sC (g:Nat):∀(vs:List Value) (o:Nat) (w:World),(w.setCells g o vs).os=w.os∧(w.setCells g o vs).tape=w.tape∧(w.setCells g o vs).output=w.output∧(w.setCells g o vs).heap.size=w.heap.size
  |[],_,_=>⟨rfl,rfl,rfl,rfl⟩
  | v :: r, o, w => by
    obtain ⟨h1,h2,h3,h4⟩:=sC g r (o+1) (w.setCell ⟨g,o,none⟩ v)
    rw [World.setCells]
    exact ⟨h1,h2,h3,by rw [h4];simp [World.setCell]⟩
theorem jO {g:Nat} {e:TypeId} :∀(vs:List Value) (o:Nat) (w:World) (cur:Array Value),w.heap[g]? =some (.cells cur e (0,0))→o+vs.length≤cur.size→
    ∃vQ,(w.setCells g o vs).heap[g]? =some (.cells vQ e (0,0))∧vQ.size=cur.size∧vQ.toList=cur.toList.take o++vs++cur.toList.drop (o+vs.length)
  |[],o,w,cur,h,_=>⟨cur,h,rfl,by simp⟩
  | v :: r, o, w, cur, h, hl => by
    have h2:=xT h o v
    simp only [List.length_cons] at hl
    obtain ⟨vQ,h3,h4,h5⟩:=jO r (o+1) (w.setCell ⟨g,o,none⟩ v) _ h2 (by simp;omega)
    refine ⟨vQ,h3,by rw [h4];simp,?_⟩
    rw [h5,Array.toList_setIfInBounds]
    have ho:o<cur.toList.length:=by rw [Array.length_toList];omega
    rw [List.take_set,List.drop_set_of_lt (by omega)]
    simp only [List.length_cons]
    rw [show o+1+r.length=o+(r.length+1) by omega]
    congr 1
    rw [List.take_succ_eq_append_getElem ho,List.set_append_right _ _ (by rw [List.length_take];omega)]
    have ho':o<cur.size:=by omega
    simp [Nat.min_eq_left (Nat.le_of_lt ho')]
end
section
variable {P:Program}
end
namespace Kd
def Q {α:Type} (d:Kd α) (e:Nat) (w:World) (base:Nat) (ok:Nat→Prop) (v:Value) (xs:List α):Prop:=
  (∀k,v.ownBlock=some k→ok k)∧∃inner,ac7 w base e d.sz v xs.length inner∧bT (d.M w base (fun k=>ok k∧some k≠v.ownBlock)) d.sz xs inner
section
variable {α:Type} {d:Kd α} {e:Nat} {w w1 W:World} {base:Nat} {ok ok':Nat→Prop} {v:Value} {xs:List α}
theorem Yt (h:d.R e w base ok v xs):d.Q e w base ok v xs:=by
  obtain ⟨h0,inner,ho,hr⟩:=h
  exact ⟨h0,inner,M4 ho,hr⟩
theorem Ur (d:Kd α) (e:Nat) (w:World) (base:Nat) (ok:Nat→Prop):d.Q e w base ok (.slice none 0 0) []:=Yt (qo d e w base ok)
end
section
variable {P:Program} {ops:Array Oper} {rest:List Oper} {o:Oper} {a:Act} {Q':Exit→Act→World→Prop} {Kc:Act→World→Prop} {α:Type}
end
end Kd
namespace Kd
section
variable {α:Type} {d:Kd α} {e e':Nat} {w w1 W:World} {base:Nat} {ok:Nat→Prop} {u v:Value} {xs:List α}
theorem xW (h:d.R e w base ok v xs):∀k,v.ownBlock=some k→∃cells,w.heap[k]? =some (.cells cells e (0,0)):=by
  obtain ⟨inner,ho⟩:=zR h
  exact fun k hk=>rT ho k hk
theorem DN (h:d.R e W base ok u xs) (hty:∀k,v.ownBlock=some k→∃cells,W.heap[k]? =some (.cells cells e' (0,0))) (ht:∀q,q∈e::d.E→q≠e') (hg:W.grownBy w1 v.ownBlock):d.R e w1 base ok u xs:=by
  refine bJ (vW (kf h) (fun k hk=>hg.block k hk.2.2.1 (fun he=> ?_))) (fun _ hk=>hk.1)
  obtain ⟨_,_,_,q,hq,cells,hc⟩:=hk
  obtain ⟨HW,By⟩:=hty k he.symm
  rw [hc] at By
  injection By with By
  injection By with _ By
  exact ht q hq By
theorem uT (h:d.R e W base ok u xs) (hty:∀k,v.ownBlock=some k→∃cells,W.heap[k]? =some (.cells cells e' (0,0))) (ht:∀q,q∈e::d.E→q≠e'):d.R e W base (fun k=>ok k∧some k≠v.ownBlock) u xs:=by
  refine bJ (kf h) (fun k hk=>⟨hk.1,fun he=> ?_⟩)
  obtain ⟨_,_,_,q,hq,cells,hc⟩:=hk
  obtain ⟨HW,By⟩:=hty k he.symm
  rw [hc] at By
  injection By with By
  injection By with _ By
  exact ht q hq By
theorem iX (hu:d.R e W base ok u xs) (iG:∀k,v.ownBlock=some k→W.heap.size≤k) (hb:Below W.heap.size W w1):d.R e w1 base (fun k=>ok k∧some k≠v.ownBlock) u xs:=
  bJ (vW (kf hu) (fun k hk=>hb.block k hk.2.2.1)) (fun k hk=>⟨hk.1,fun he=>by have:=iG k he.symm;have:=hk.2.2.1;omega⟩)
theorem l9 (h:d.R e w1 W.heap.size ok v xs) (fl:∀k,u.ownBlock=some k→k<W.heap.size):d.R e w1 W.heap.size (fun k=>ok k∧some k≠u.ownBlock) v xs:=
  bJ (kf h) (fun k hk=>⟨hk.1,fun he=>by have:=fl k he.symm;have:=hk.2.1;omega⟩)
theorem gI (fl:∀k,u.ownBlock=some k→k<W.heap.size):∀k,W.heap.size≤k→some k≠u.ownBlock:=fun k hk he=>by have:=fl k he.symm;omega
end
end Kd
theorem nC {n c g:Nat} {A:Option Addr} (iP:some g≠(Value.slice A n c).ownBlock):∀ad,A=some ad→0<n→ad.block≠g:=by
  rintro ad rfl _ rfl
  exact iP (by simp [Value.ownBlock])
theorem tP {α:Type} (a seg:List α) (o:Nat) (h:o+seg.length≤a.length) (q:Nat):
    (a.take o++seg++a.drop (o+seg.length))[q]? =if q<o then a[q]? else if q<o+seg.length then seg[q-o]? else a[q]? :=by
  have hl:(a.take o).length=o:=by rw [List.length_take];omega
  rw [List.append_assoc]
  by_cases h1:q<o
  · rw [if_pos h1,List.getElem?_append_left (by omega),List.getElem?_take,if_pos h1]
  · rw [if_neg h1,List.getElem?_append_right (by omega),hl]
    by_cases h2:q<o+seg.length
    · rw [if_pos h2,List.getElem?_append_left (by omega)]
    · rw [if_neg h2,List.getElem?_append_right (by omega),List.getElem?_drop]
      congr 1
      omega
namespace Kd
section
variable {α:Type} {d:Kd α} {e base g n cap:Nat} {ok okp:Nat→Prop} {W:World} {xs:List α}
theorem Ih (h:d.R e W base ok (.slice (some ⟨g,0,none⟩) n cap) xs) (z:α) (i:Int) (h0:0≤i) (h1:i<n):
    ∃c,c.length=d.sz∧d.M W base (fun k=>ok k∧k≠g) (xs.getD i.toNat z) c∧(∀j u,c[j]? =some u→W.cell? ⟨g,i.toNat*d.sz+j,none⟩=some u)∧∀j,W.frozen? ⟨g,i.toNat*d.sz+j,none⟩=false:=by
  obtain ⟨hn,I9,hC⟩:=aJ h
  obtain ⟨_,inner,ho,hr⟩:=h
  have G7:i.toNat<xs.length:=by omega
  have RT:i.toNat*d.sz+d.sz≤inner.length:=by rw [hr.1,←Nat.succ_mul];exact Nat.mul_le_mul_right _ G7
  have hM:=hr.2 i.toNat _ (List.getElem?_eq_getElem G7)
  refine ⟨(inner.drop (i.toNat*d.sz)).take d.sz,by rw [List.length_take,List.length_drop];omega,?_,fun j u hu=> ?_,fun j=> ?_⟩
  · rw [List.getD_eq_getElem?_getD,List.getElem?_eq_getElem G7]
    exact d.fh (fun k hk=>⟨hk.1,fun he=>hk.2 (by rw [he];simp [Value.ownBlock])⟩) hM
  · rw [List.getElem?_take] at hu
    split at hu
    · rw [List.getElem?_drop] at hu
      have:=ho.cells (g:=g) (by simp [Value.ownBlock]) _ u hu
      rwa [add_plain] at this
    · cases hu
  · obtain ⟨cells,hc⟩:=rT ho g (by simp [Value.ownBlock])
    exact eN hc _
theorem ac5 (h:d.R e W base ok (.slice (some ⟨g,0,none⟩) n cap) xs) (i:Int) (h0:0≤i) (h1:i<n) {c seg:List Value} {j:Nat} (vk:c.length=d.sz) (Oo:∀j u,c[j]? =some u→W.cell? ⟨g,i.toNat*d.sz+j,none⟩=some u)
    (hj:j+seg.length≤d.sz) {x':α} (hM:d.M W base okp x' (c.take j++seg++c.drop (j+seg.length))) (vL:∀k,okp k→ok k∧k≠g):
    d.R e (W.setCells g (i.toNat*d.sz+j) seg) base ok (.slice (some ⟨g,0,none⟩) n cap) (xs.set i.toNat x')∧W.grownBy (W.setCells g (i.toNat*d.sz+j) seg) (some g):=by
  obtain ⟨hn,I9,_⟩:=aJ h
  obtain ⟨nY,inner,ho,hr⟩:=h
  have G7:i.toNat<xs.length:=by omega
  have RT:i.toNat*d.sz+d.sz≤inner.length:=by rw [hr.1,←Nat.succ_mul];exact Nat.mul_le_mul_right _ G7
  have Ob:inner.length=n*d.sz:=by rw [hr.1,hn]
  obtain ⟨ho1,ho2⟩:=ho
  rcases ho2 with ⟨hv,_⟩|⟨g',abQ,cur,hv,hb,hh,ajZ,hcm,tF,ht⟩
  · cases hv
  injection hv with ha _ hc
  injection ha with ha
  injection ha with hg
  subst hg;subst hc
  have Hi:i.toNat*d.sz+j+seg.length≤cur.size:=by
    have:n*d.sz≤cap*d.sz:=Nat.mul_le_mul_right _ I9
    omega
  obtain ⟨vQ,h3,h4,h5⟩:=jO seg (i.toNat*d.sz+j) W cur hh Hi
  obtain ⟨s1,s2,s3,s4⟩:=sC g seg (i.toNat*d.sz+j) W
  have WV:∀k,k≠g→(W.setCells g (i.toNat*d.sz+j) seg).heap[k]? =W.heap[k]? :=fun k hk=>tO seg _ k hk
  have agz:∀q,q<d.sz→c[q]? =inner[i.toNat*d.sz+q]? :=by
    intro q hq
    have hq':q<c.length:=by omega
    have h6:=Oo q _ (List.getElem?_eq_getElem hq')
    rw [cell_of_row W g _ cur e (0,0) hh] at h6
    rw [List.getElem?_eq_getElem hq',←h6,←ht,List.getElem?_take,if_pos (by rw [←hn];omega),Array.getElem?_toList]
  refine ⟨⟨nY,inner.take (i.toNat*d.sz+j)++seg++inner.drop (i.toNat*d.sz+j+seg.length),⟨?_,.inr ⟨g,cap,vQ,by rw [List.length_set,hn],hb,h3,by rw [List.length_set,←hn];exact I9,hcm,by rw [h4,tF],?_⟩⟩,?_⟩,
    ⟨s1,s2,s3,by rw [s4];exact Nat.le_refl _,fun k _ hk=>WV k (fun he=>hk (by rw [he]))⟩⟩
  · rw [List.length_set]
    simp only [List.length_append,List.length_take,List.length_drop]
    rw [hr.1] at RT⊢
    omega
  · rw [List.length_set,←hn]
    apply List.ext_getElem?
    intro q
    rw [List.getElem?_take,h5]
    rw [tP cur.toList seg (i.toNat*d.sz+j) (by rw [Array.length_toList];omega) q,tP inner seg (i.toNat*d.sz+j) (by omega) q]
    have agy:∀q,q<n*d.sz→cur.toList[q]? =inner[q]? :=by
      intro q hq
      rw [←ht,List.getElem?_take,if_pos (by rw [←hn];exact hq)]
    by_cases hq:q<n*d.sz
    · rw [if_pos hq,agy q hq]
    · rw [if_neg hq,if_neg (by omega),if_neg (by omega),List.getElem?_eq_none (by omega)]
  · refine ⟨?_,fun m p hm=> ?_⟩
    · rw [List.length_set]
      simp only [List.length_append,List.length_take,List.length_drop]
      rw [hr.1] at RT⊢
      omega
    · have Wv:m<xs.length:=by
        have:=(List.getElem?_eq_some_iff.1 hm).1
        rwa [List.length_set] at this
      have ail:m*d.sz+d.sz≤inner.length:=by rw [hr.1,←Nat.succ_mul];exact Nat.mul_le_mul_right _ Wv
      have R4:some g=(Value.slice (some ⟨g,0,none⟩) n cap).ownBlock:=by simp [Value.ownBlock]
      by_cases TE:m=i.toNat
      · subst TE
        rw [List.getElem?_set_self (by omega)] at hm
        injection hm with hm
        subst hm
        have Ht:((inner.take (i.toNat*d.sz+j)++seg++inner.drop (i.toNat*d.sz+j+seg.length)).drop (i.toNat*d.sz)).take d.sz=c.take j++seg++c.drop (j+seg.length):=by
          apply List.ext_getElem?
          intro q
          rw [List.getElem?_take,List.getElem?_drop,tP inner seg _ (by omega),tP c seg j (by omega) q]
          by_cases hq:q<d.sz
          · rw [if_pos hq,agz q hq]
            by_cases Lg:q<j
            · rw [if_pos (by omega),if_pos Lg]
            · rw [if_neg (by omega),if_neg Lg]
              by_cases Lf:q<j+seg.length
              · rw [if_pos (by omega),if_pos Lf]
                congr 1
                omega
              · rw [if_neg (by omega),if_neg Lf]
          · rw [if_neg hq,if_neg (by omega),if_neg (by omega),List.getElem?_eq_none (by omega)]
        rw [Ht]
        refine d.fh (fun k hk=> ?_) (d.iK (w1:=W.setCells g (i.toNat*d.sz+j) seg) (fun k hk=>WV k (vL k hk).2) hM)
        exact ⟨(vL k hk).1,fun he=>(vL k hk).2 (by rw [←R4] at he;injection he)⟩
      · rw [List.getElem?_set_ne (by omega)] at hm
        have hold:=hr.2 m p hm
        have Ht:((inner.take (i.toNat*d.sz+j)++seg++inner.drop (i.toNat*d.sz+j+seg.length)).drop (m*d.sz)).take d.sz=(inner.drop (m*d.sz)).take d.sz:=by
          apply List.ext_getElem?
          intro q
          rw [List.getElem?_take,List.getElem?_take,List.getElem?_drop,List.getElem?_drop,tP inner seg _ (by omega)]
          by_cases hq:q<d.sz
          · rw [if_pos hq,if_pos hq]
            rcases Nat.lt_or_gt_of_ne TE with fl|hgt
            · have:m*d.sz+d.sz≤i.toNat*d.sz:=by rw [←Nat.succ_mul];exact Nat.mul_le_mul_right _ fl
              rw [if_pos (by omega)]
            · have:i.toNat*d.sz+d.sz≤m*d.sz:=by rw [←Nat.succ_mul];exact Nat.mul_le_mul_right _ hgt
              rw [if_neg (by omega),if_neg (by omega)]
          · rw [if_neg hq,if_neg hq]
        rw [Ht]
        refine d.iK (fun k hk=>WV k (fun he=>hk.2 (by rw [he];exact R4))) hold
end
end Kd
namespace Kd
section
variable {α:Type} {F:Kd α→Kd α} {sz:Nat} {E:List Nat} {hs:∀n,(upto F sz E n).sz=sz} {hE:∀n q,q∈(upto F sz E n).E→q∈E}
end
end Kd
namespace Kd
theorem wg {α:Type} {R:α→List Value→Prop} {size:Nat} {ps qs:List α} {cs ds:List Value} (h:bT R size ps cs) (h':bT R size qs ds):bT R size (ps++qs) (cs++ds):=by
  refine ⟨by rw [List.length_append,List.length_append,h.1,h'.1,Nat.add_mul],fun j p hj=> ?_⟩
  rcases Nat.lt_or_ge j ps.length with fl|hge
  · rw [List.getElem?_append_left fl] at hj
    have hle:j*size+size≤cs.length:=by rw [h.1,←Nat.succ_mul];exact Nat.mul_le_mul_right _ fl
    rw [List.drop_append_of_le_length (by omega),List.take_append_of_le_length (by rw [List.length_drop];omega)]
    exact h.2 j p hj
  · rw [List.getElem?_append_right hge] at hj
    have h2:=h'.2 (j-ps.length) p hj
    have hle:ps.length*size≤j*size:=Nat.mul_le_mul_right _ hge
    rw [List.drop_append,List.drop_eq_nil_of_le (by rw [h.1];exact hle),List.nil_append,h.1,←Nat.sub_mul]
    exact h2
section
variable {P:Program} {ops:Array Oper} {rest:List Oper} {o:Oper} {a:Act} {Q:Exit→Act→World→Prop} {α:Type}
theorem cH (d:Kd α) {Rr:α→List Value→Prop} {w0 W:World} (base:Nat) (xk:o.guard=none) (s x:Operand) (t e:TypeId) (z:Value) (bytes:Nat)
    (ho:o.op= .call { callee:= .builtin .append,args:= #[s,x],argTypes:= #[t,t]})
    (ht:P.underlying t=some (.slice e)) (kJ:(P.info? e).map (fun i=>(i.zero,i.size,i.bytes))=some (some z,d.sz,bytes)) (hz:z.cells.size=d.sz) (rY:0<d.sz) (vl:0<bytes)
    (v:Value) (xs ys:List α) (A:Option Addr) (m c:Nat) (ok okp:Nat→Prop) (hs:a.eval s=v) (hx:a.eval x= .slice A m c)
    (HO:d.R e W base ok v xs) (HR:fH Rr d.sz W A m ys) (Xm:∀x cs,Rr x cs→d.M W base okp x cs) (vL:∀k,okp k→ok k∧some k≠v.ownBlock) (je:∀k,W.heap.size≤k→ok k)
    (HB:Below base w0 W) (iG:base≤W.heap.size) (hl:(xs.length+m)*bytes≤140737488355328)
    (h:∀v1 w1,d.R e w1 base ok v1 (xs++ys)→Below base w0 w1→W.grownBy w1 v.ownBlock→(v1.ownBlock=v.ownBlock∨∃b,v1.ownBlock=some b∧W.heap.size≤b)→wpList P ops Q rest (a.put o.dst v1) w1):
    wpList P ops Q (o::rest) a W:=by
  obtain ⟨i0,hi,EM⟩:=Option.map_eq_some_iff.1 kJ
  simp only [Prod.mk.injEq] at EM
  obtain ⟨D3,Bv,D2⟩:=EM
  have hm:ys.length=m:=HR.1
  have hlen:xs.length+m≤140737488355328:=Nat.le_trans (Nat.le_mul_of_pos_right _ vl) hl
  obtain ⟨nY,inner,oV,hr⟩:=HO
  have kI:∃v1 w1,(Builtin.append_ #[t,t] o.type #[v,.slice A m c]).run P W= .ok v1 w1∧d.R e w1 base ok v1 (xs++ys)∧W.grownBy w1 v.ownBlock∧(v1.ownBlock=v.ownBlock∨∃b,v1.ownBlock=some b∧W.heap.size≤b):=by
    rcases A with _|ad
    · have h0:m=0:=by
        rcases Nat.eq_zero_or_pos m with h0|h0
        · exact h0
        · obtain ⟨ad,h,_⟩:=HR.2.2 h0
          cases h
      subst h0
      obtain rfl:ys=[]:=List.eq_nil_of_length_eq_zero hm
      refine ⟨v,W,?_,by rw [List.append_nil];exact ⟨nY,inner,oV,hr⟩,World.grownBy.refl W _,.inl rfl⟩
      rcases oV.2 with ⟨rfl,hn⟩|⟨g,cap,cur,rfl,_,_,I9,_⟩
      · simp [Builtin.append_,run_underlying ht,sizeOf,typeInfo,hi,Builtin.lenOf,Builtin.firstCells]
      · simp [Builtin.append_,run_underlying ht,sizeOf,typeInfo,hi,Builtin.lenOf,Builtin.firstCells,I9,storeCells]
    · obtain ⟨news,hnr,I9⟩:=fH.NI HR
      have RY:bT (d.M W base okp) d.sz ys news:=hnr.pQ (fun p c hp=>Xm p c hp)
      have NY:∀u∈news,u.oneCell'=true:=by
        intro u hu
        obtain ⟨q,hq,rfl⟩:=List.mem_iff_getElem.1 hu
        have hql:q/d.sz<ys.length:=by
          rw [Nat.div_lt_iff_lt_mul rY]
          rw [←RY.1]
          exact hq
        have hc:=RY.2 (q/d.sz) _ (List.getElem?_eq_getElem hql)
        refine d.lu (d.gQ hc) _ ?_
        rw [List.mem_iff_getElem?]
        refine ⟨q%d.sz,?_⟩
        rw [List.getElem?_take,if_pos (Nat.mod_lt _ rY),List.getElem?_drop,Nat.mul_comm,Nat.div_add_mod,List.getElem?_eq_getElem hq]
      obtain ⟨v1,w1,kI,h2,hg,_,eC⟩:=run_append_own_at (P:=P) W base t o.type e i0 z d.sz bytes ht hi D3 Bv D2 hz rY v xs.length inner oV ad m c news (by rw [RY.1,hm]) I9 NY (by simp only [maxLen];omega) hl iG
      have Hu:v1.ownBlock=v.ownBlock∨∃b,v1.ownBlock=some b∧W.heap.size≤b:=by
        rcases eC with eC|eC
        · exact .inl eC
        · exact .inr ⟨_,eC,Nat.le_refl _⟩
      have iP:∀k,some k≠v.ownBlock→k<W.heap.size→some k≠v1.ownBlock:=by
        intro k hk fl
        rcases Hu with eC|⟨b,hb,hle⟩
        · rw [eC];exact hk
        · rw [hb]
          intro he
          injection he with he
          omega
      have step:∀ {q:α} {c:List Value} {o:Nat→Prop},d.M W base o q c→(∀k,o k→ok k∧some k≠v.ownBlock)→d.M w1 base (fun k=>ok k∧some k≠v1.ownBlock) q c:=by
        intro q c o hq ho
        have h1:=d.iK (w1:=w1) (fun k hk=>hg.block k hk.2.2.1 (ho k hk.1).2) (d.gu hq)
        exact d.fh (fun k hk=>⟨(ho k hk.1).1,iP k (ho k hk.1).2 hk.2.2.1⟩) h1
      refine ⟨v1,w1,kI,⟨fun k hk=> ?_,inner++news,by rw [List.length_append,hm];exact h2,wg (hr.pQ (fun _ _ hq=>step hq (fun _ hk=>hk))) (RY.pQ (fun _ _ hq=>step hq vL))⟩,hg,Hu⟩
      rcases Hu with eC|⟨b,hb,hle⟩
      · exact nY k (eC▸hk)
      · rw [hb] at hk
        injection hk with hk
        exact je k (by omega)
  obtain ⟨v1,w1,sH,h1,hg,eC⟩:=kI
  refine wpList_plain xk fun K hK=> ?_
  unfold Oper.wp execOp
  simp only [ho,resolve,invoke,builtin,Sem.run_bind,Sem.run_pure,Result.andThen_ok,List.map_toArray,List.map_cons,List.map_nil,hs,hx,sH]
  exact hK _ _ (h v1 w1 h1 (HB.grown hg iG (oQ oV)) hg eC)
end
end Kd
namespace Kd
section
variable {P:Program} {ops:Array Oper} {rest:List Oper} {o:Oper} {a:Act} {Q:Exit→Act→World→Prop} {α:Type}
end
end Kd
theorem add_add (a:Addr) (i j:Nat):(a.add i).add j=a.add (i+j):=by
  unfold Addr.add
  by_cases h1:i=0<;>by_cases h2:j=0<;>simp [h1,h2,Nat.add_assoc]
namespace Kd
section
variable {α:Type} {k:Kd α} {w:World} {A:Option Addr} {xs:List α} {m c:Nat}
theorem ir (h:k.C w A xs.length xs) (hm:m≤xs.length):k.C w A (xs.take m).length (xs.take m):=by
  have hl:(xs.take m).length=m:=by rw [List.length_take];omega
  refine ⟨rfl,by rw [hl];have:=h.2.1;omega,fun hp=> ?_⟩
  obtain ⟨ad,e,hc⟩:=h.2.2 (by omega)
  refine ⟨ad,e,fun j p hj=>hc j p ?_⟩
  rw [List.getElem?_take] at hj
  split at hj
  · exact hj
  · cases hj
theorem m9 (h:k.C w A xs.length xs) (hm:m≤xs.length) (hc:xs.length≤c):k.C w (if c=m then A else A.map (·.add (m*k.sz))) (xs.drop m).length (xs.drop m):=by
  have hl:(xs.drop m).length=xs.length-m:=List.length_drop
  refine ⟨rfl,by rw [hl];have:=h.2.1;omega,fun hp=> ?_⟩
  rw [hl] at hp
  obtain ⟨ad,rfl,mP⟩:=h.2.2 (by omega)
  rw [if_neg (by omega)]
  refine ⟨ad.add (m*k.sz),rfl,fun j p hj=> ?_⟩
  rw [List.getElem?_drop] at hj
  obtain ⟨cs,h1,h2,h3⟩:=mP (m+j) p hj
  refine ⟨cs,h1,h2,fun i u hu=> ?_⟩
  rw [add_add,show m*k.sz+(j*k.sz+i)=(m+j)*k.sz+i by rw [Nat.add_mul];omega]
  exact h3 i u hu
end
end Kd
section
variable {P:Program}
end
theorem qj {P:Program} {w:World} {src dst e:TypeId} {A:Option Addr} {n c:Nat} {xs:List Int} (hs:P.underlying src=some (.slice e)) (he:P.underlying e=some (.int .u8)) (hd:P.underlying dst=some .string)
    (h:eJ w .u8 A n xs):(convert src dst (.slice A n c)).run P w= .ok (.string (strOfNums xs)) w:=by
  have hn:xs.length=n:=h.1
  rcases A with _|ad
  · have h0:n=0:=by
      rcases Nat.eq_zero_or_pos n with h0|h0
      · exact h0
      · obtain ⟨ad,h',_⟩:=h.2.2 h0
        cases h'
    subst h0
    obtain rfl:xs=[]:=List.eq_nil_of_length_eq_zero hn
    exact run_convert_bytes_nil w src e hs he 0 c dst hd
  · have hl:(loadCells ad n).run P w= .ok (xs.map (Value.int .u8)).toArray w:=by
      have:=run_loadCells_list (P:=P) w ad (xs.map (Value.int .u8)) (fun j v hj=>by
        have Jl:j<xs.length:=by
          rcases Nat.lt_or_ge j xs.length with h'|h'
          · exact h'
          · rw [List.getElem?_eq_none (by rw [List.length_map];exact h')] at hj
            cases hj
        obtain ⟨ad',he',hc⟩:=h.2.2 (by omega)
        injection he' with he'
        subst he'
        rw [hc j (by omega)]
        rw [List.getElem?_map,List.getElem?_eq_getElem Jl] at hj
        simp at hj
        subst hj
        simp [List.getD_eq_getElem?_getD,List.getElem?_eq_getElem Jl])
      simpa [hn] using this
    rw [run_convert_bytes_string w src dst e _ n c hs he hd,run_bytesToString w ad n c xs hl,foldl_push_bytes]
    simp [strOfNums,ByteArray.empty,ByteArray.emptyWithCapacity]
    rfl
theorem aX {w W:World} (h:Below w.heap.size w W):w.heap.size≤W.heap.size:=h.size
theorem aH {w W w2:World} (h:Below w.heap.size w W) (k:Below W.heap.size W w2):Below w.heap.size w w2:=Ig h h.size k
theorem eJ.nil (W:World) (k:IntKind):eJ W k none ([]:List Int).length []:=⟨rfl,by simp,fun h=>absurd h (Nat.lt_irrefl 0)⟩
theorem eJ.drewN {W:World} {k:IntKind} {A:Option Addr} {n:Nat} {xs:List Int} (h:eJ W k A n xs) (m:Nat):eJ (W.drewN m) k A n xs:=h
theorem eJ.ofRow {k:IntKind} {w:World} {a:Option Addr} {len cap:Nat} {zs:List Int} (h:(a=none∧len=0∧cap=0∧zs=[])∨∃x,a=some x∧len≤cap∧cap≤maxLen∧zs.length=cap∧(∀i,i<zs.length→w.cell? (x.add i)=some (.int k (zs.getD i 0)))∧∀n∈zs,(Lit.int k n).wf=true):
    ∃l:List Int,len=l.length∧eJ w k a l.length l∧l.length≤maxLen∧∀x∈l,(Lit.int k x).wf=true:=by
  rcases h with ⟨rfl,rfl,rfl,rfl⟩|⟨x,rfl,hl,hm,hz,hc,hw⟩
  · exact ⟨[],rfl,eJ.nil _ _,Nat.zero_le _,fun x hx=>by simp at hx⟩
  · have e:(zs.take len).length=len:=by simp;omega
    have hm':len≤maxLen:=Nat.le_trans hl hm
    refine ⟨zs.take len,e.symm,⟨rfl,by rw [e];simpa [maxLen] using hm',fun _=>⟨x,rfl,fun j hj=> ?_⟩⟩,by rw [e];exact hm',fun y hy=>hw y (List.mem_of_mem_take hy)⟩
    rw [e] at hj
    rw [hc j (by omega)]
    simp [List.getD,List.getElem?_take,hj]
theorem ew {w W:World} {g j:Nat} {v:Value} (h:Below w.heap.size w W) (hg:w.heap.size≤g):Below w.heap.size w (W.setCell ⟨g,j,none⟩ v):=h.setCell hg _
theorem yT {w W:World} {g:Nat} {row:Option Nat} (h:aZ w W g row) (m:Nat):aZ w (W.drewN m) g row:=h
theorem yU {w W:World} {g:Nat} (h:aZ w W g none) (o:Obj):aZ w (W.alloc o) g none:=h.trans (aZ.nH (World.grownBy_alloc W o none) g) (.inl rfl)
theorem rX {w W:World} {g:Nat} (h:aZ w W g none) {a:Addr} {v:Value} (hc:w.cell? a=some v) (iP:a.block≠g):W.cell? a=some v:=by
  have:=h.2 a.block (World.block_lt_of_cell? w a hc) iP (by simp)
  simpa [World.cell?,this] using hc
theorem sk (a:Addr) (i:Nat):(a.add i).block=a.block:=by unfold Addr.add;split<;>rfl
theorem nv {w0 w w1:World} {B:Nat} (h:Below w0.heap.size w0 w) (hB:w0.heap.size≤B) (k:Below B w w1):Below w0.heap.size w0 w1:=
  h.trans ⟨k.os,k.tape,k.output,k.size,fun i hi=>k.block i (Nat.lt_of_lt_of_le hi hB)⟩
theorem KU {w:World} {base:Nat} {e:TypeId} {size n:Nat} {v:Value} {xs:List Value} (h:w.ownsRow base e size v n xs):v.ownBlock=none∨∃b,v.ownBlock=some b∧base≤b:=by
  cases hv:v.ownBlock with
  |none=>exact .inl rfl
  |some b=>exact .inr ⟨b,rfl,oQ h b hv⟩
theorem iT {w W:World} {g:Nat} {row:Option Nat} (h:aZ w W g row):w.heap.size≤W.heap.size:=h.1
theorem fA.nil {α:Type} (enc:α→Value) (d:α) (W:World):fA enc d W none ([]:List α).length []:=⟨rfl,by simp,fun h=>absurd h (Nat.lt_irrefl 0)⟩
theorem fA.drewN {α:Type} {enc:α→Value} {d:α} {W:World} {A:Option Addr} {n:Nat} {xs:List α} (h:fA enc d W A n xs) (m:Nat):fA enc d (W.drewN m) A n xs:=h
theorem eJ.K6 {w W:World} {k:IntKind} {A:Option Addr} {n g:Nat} {xs:List Int} (h:eJ w k A n xs) (hk:aZ w W g none) (hf:∀ad,A=some ad→0<n→ad.block≠g):eJ W k A n xs:=
  ⟨h.1, h.2.1, fun hn => by
    obtain ⟨ad,e,hc⟩:=h.2.2 hn
    exact ⟨ad,e,fun j hj=>rX hk (hc j hj) (by rw [sk];exact hf ad e hn)⟩⟩
theorem fA.K6 {α:Type} {enc:α→Value} {d:α} {w W:World} {A:Option Addr} {n g:Nat} {xs:List α} (h:fA enc d w A n xs) (hk:aZ w W g none) (hf:∀ad,A=some ad→0<n→ad.block≠g):fA enc d W A n xs:=
  ⟨h.1, h.2.1, fun hn => by
    obtain ⟨ad,e,hc⟩:=h.2.2 hn
    exact ⟨ad,e,fun j hj=>rX hk (hc j hj) (by rw [sk];exact hf ad e hn)⟩⟩
theorem hJ {w:World} {g:Nat} {t:TypeId} {cs Ah:Array Value} (h:w.heap[g]? =some (.cells cs t (0,0))) (i:Nat) (u:Value) (e:cs.setIfInBounds i u=Ah):(w.setCell ⟨g,i,none⟩ u).heap[g]? =some (.cells Ah t (0,0)):=e▸xT h i u
theorem NB {w W:World} {g:Nat} {row:Option Nat} (h:aZ w W g row) {p:Addr} (hp:w.heap.size≤p.block) (u:Value):aZ w (W.setCell p u) g row:=
  ⟨by simpa [World.setCell] using h.1,fun i hi hg hr=>(Below.heap_setCell W p u i (by omega)).trans (h.2 i hi hg hr)⟩
theorem eJ.Np {k:IntKind} {w:World} {a:Option Addr} {len cap:Nat} {zs:List Int} (h:(a=none∧len=0∧cap=0∧zs=[])∨∃x,a=some x∧len≤cap∧cap≤maxLen∧zs.length=cap∧(∀i,i<zs.length→w.cell? (x.add i)=some (.int k (zs.getD i 0)))∧∀n∈zs,(Lit.int k n).wf=true):
    ∃l:List Int,len=l.length∧eJ w k a l.length l∧l.length≤maxLen∧(∀x∈l,(Lit.int k x).wf=true)∧l.length≤cap:=by
  have hl:len≤cap:=by
    rcases h with ⟨_,rfl,rfl,_⟩|⟨_,_,h,_⟩
    · exact Nat.le_refl _
    · exact h
  obtain ⟨l,e,h1,h2,h3⟩:=eJ.ofRow h
  exact ⟨l,e,h1,h2,h3,e▸hl⟩
theorem cO {base:Nat} {w W:World} (h:Below base w W):Below base w W.drew:=h.drew
theorem Bt {w W:World} {g:Nat} {row:Option Nat} (h:aZ w W g row):aZ w W.drew g row:=h
namespace Kd
section
variable {α β:Type} {d:Kd α} {d':Kd β} {e e' base mq n:Nat} {ok ok':Nat→Prop} {w W w1 W1:World} {v u:Value} {xs:List α} {ys:List β} {A:Option Addr} {c:Nat}
theorem xX (h:d.R e w base ok v xs):v.ownBlock=none∨∃k,v.ownBlock=some k∧base≤k:=by
  obtain ⟨inner,ho⟩:=zR h
  exact KU ho
end
section
variable {α:Type} {enc:α→Value} {h1:∀x,(enc x).oneCell'=true} {w W:World} {A:Option Addr} {n g:Nat} {xs:List α}
end
end Kd
namespace Kd
section
variable {α:Type} {d:Kd α} {e base g:Nat} {ok:Nat→Prop} {w w1:World} {v:Value} {xs:List α} {o:Obj}
theorem Pr (h:d.R e w base ok v xs) (a:Nat) (ha:w.heap.size≤a):d.R e w base (fun k=>ok k∧k≠a) v xs:=bJ (kf h) (fun k hk=>⟨hk.1,by have:=hk.2.2.1;omega⟩)
theorem Hy (hb:w.heap[g]? =some o):∀k,w.heap.size≤k→k≠g:=fun k hk=>by have:=iR hb;omega
end
end Kd
section
variable {P:Program} {ops:Array Oper} {rest:List Oper} {o:Oper} {a:Act} {Q:Exit→Act→World→Prop}
theorem BM {W:World} (xk:o.guard=none) {N:Tmp} (_hd:o.dst=some N) {cs:Array Value} {t:TypeId}
    (kI:(execOp a.eval o).run P W= .ok (.value (.pointer (some ⟨W.heap.size,0,none⟩))) (W.alloc (.cells cs t (0,0))))
    (h:∀g,g=W.heap.size→∀w1,w1.heap[g]? =some (.cells cs t (0,0))→Below W.heap.size W w1→wpList P ops Q rest (a.put o.dst (.pointer (some ⟨g,0,none⟩))) w1):wpList P ops Q (o::rest) a W:=
  Kd.BD xk kI (h _ rfl _ (JP W _) (dQ (Below.refl _ _) _))
end
namespace Kd
section
variable {α:Type} {enc:α→Value} {h1:∀x,(enc x).oneCell'=true} {e base g n cap:Nat} {ok:Nat→Prop} {W:World} {xs:List α}
theorem nw (d:α) (h:(scalar enc h1).R e W base ok (.slice (some ⟨g,0,none⟩) n cap) xs) (i:Int) (h0:0≤i) (hi:i<n):W.cell? ⟨g,i.toNat,none⟩=some (enc (aQ d xs i))∧W.frozen? ⟨g,i.toNat,none⟩=false:=by
  obtain ⟨rfl,_⟩:=aJ h
  exact Ys d h i h0 hi
theorem qb (h:(scalar enc h1).R e W base ok (.slice (some ⟨g,0,none⟩) n cap) xs) (i:Int) (x:α):(scalar enc h1).R e (W.setCell ⟨g,i.toNat,none⟩ (enc x)) base ok (.slice (some ⟨g,0,none⟩) n cap) (xs.set i.toNat x):=by
  obtain ⟨rfl,_⟩:=aJ h
  exact (Uq h i x).1
end
end Kd
section
variable {P:Program} {ops:Array Oper} {rest:List Oper} {o:Oper} {a:Act} {Q:Exit→Act→World→Prop}
theorem n9 {W w1:World} (xk:o.guard=none) {t:TypeId} {p:Tmp} {v:Operand} (_ho:o.op= .store t (.tmp p) v) (hN:o.dst=none)
    (kI:(execOp a.eval o).run P W= .ok .skip w1) (h:∀w',w'=w1→wpList P ops Q rest a w'):wpList P ops Q (o::rest) a W:=by
  refine wpList_plain xk fun K hK=> ?_
  unfold Oper.wp
  rw [kI]
  show K (a.put o.dst undef) w1
  rw [hN]
  exact hK _ _ (h _ rfl)
end
namespace Kd
section
variable {α:Type} {enc:α→Value} {h1:∀x,(enc x).oneCell'=true} {e base g n cap:Nat} {ok:Nat→Prop} {W:World} {xs:List α}
theorem Yr (h:(scalar enc h1).R e W base ok (.slice (some ⟨g,0,none⟩) n cap) xs) (i:Int) (x:α):(scalar enc h1).R e (W.setCell ⟨g,i.toNat,none⟩ (enc x)) base ok (.slice (some ⟨g,0,none⟩) n cap) (xs.set i.toNat x)∧W.grownBy (W.setCell ⟨g,i.toNat,none⟩ (enc x)) (some g):=by
  obtain ⟨rfl,_⟩:=aJ h
  exact Uq h i x
end
end Kd
section
variable {P:Program} {ops:Array Oper} {rest:List Oper} {o:Oper} {a:Act} {Q:Exit→Act→World→Prop} {W:World}
theorem av {N:Tmp} (_hN:o.dst=some N) (h:wpList P ops Q (o::rest) a W):wpList P ops Q (o::rest) a W:=h
theorem p7 {t:TypeId} {p:Tmp} {v:Operand} (_ho:o.op= .store t (.tmp p) v) (h:wpList P ops Q (o::rest) a W):wpList P ops Q (o::rest) a W:=h
end
section
variable {P:Program} {ops:Array Oper} {o:Oper} {a:Act} {Q:Exit→Act→World→Prop} {Kc:Act→World→Prop}
theorem zm {W w1:World} {v:Value} (hw:Region.wanted o (yielded ops a.tmps)=true) (kI:(execOp a.eval o).run P W= .ok (.value v) w1) (h:Kc (a.put o.dst v) w1):if Region.wanted o (yielded ops a.tmps)=true then Oper.wp P o a W Kc Q else Kc (a.put o.dst undef) W:=by
  rw [if_pos hw]
  unfold Oper.wp
  rw [kI]
  exact h
theorem nP {W:World} (hw:Region.wanted o (yielded ops a.tmps)=true) {N:Tmp} (_hd:o.dst=some N) {cs:Array Value} {t:TypeId}
    (kI:(execOp a.eval o).run P W= .ok (.value (.pointer (some ⟨W.heap.size,0,none⟩))) (W.alloc (.cells cs t (0,0))))
    (h:∀g,g=W.heap.size→∀w1,w1.heap[g]? =some (.cells cs t (0,0))→Below W.heap.size W w1→Kc (a.put o.dst (.pointer (some ⟨g,0,none⟩))) w1):if Region.wanted o (yielded ops a.tmps)=true then Oper.wp P o a W Kc Q else Kc (a.put o.dst undef) W:=
  zm hw kI (h _ rfl _ (JP W _) (dQ (Below.refl _ _) _))
namespace Kd
variable {α:Type}
theorem iJ (d:Kd α) {w0 W:World} (base e:Nat) (hw:Region.wanted o (yielded ops a.tmps)=true) {N:Tmp} (_hd:o.dst=some N) {xs:List α} {inner:List Value} {ok okp:Nat→Prop}
    (kI:(execOp a.eval o).run P W= .ok (.value (.slice (some ⟨W.heap.size,0,none⟩) xs.length xs.length)) (W.alloc (.cells inner.toArray e)))
    (GY:bT (d.M W base okp) d.sz xs inner) (nY:∀k,okp k→ok k) (je:ok W.heap.size) (HB:Below base w0 W) (iG:base≤W.heap.size) (hm:xs.length≤9223372036854775807)
    (h:∀v1 w1,d.R e w1 base ok v1 xs→Below base w0 w1→W.grownBy w1 none→(∃b,v1.ownBlock=some b∧W.heap.size≤b)→Kc (a.put o.dst v1) w1):if Region.wanted o (yielded ops a.tmps)=true then Oper.wp P o a W Kc Q else Kc (a.put o.dst undef) W:=by
  refine zm hw kI (h _ _ ⟨fun k hk=> ?_,inner,?_,?_⟩ (HB.alloc iG _) (World.grownBy_alloc W _ none) ⟨W.heap.size,by simp [Value.ownBlock],Nat.le_refl _⟩)
  · have:W.heap.size=k:=by simpa [Value.ownBlock] using hk
    subst this
    exact je
  · have h2:=World.ownsRow_lit (base:=base) (e:=e) (size:=d.sz) W inner.toArray xs.length iG (by simpa [maxLen] using hm) (by simpa using GY.1)
    simpa using h2
  · refine GY.pQ (fun p c hp=>d.fh (fun k hk=>⟨nY k hk.1,fun he=> ?_⟩) (JV (d.gu hp) (dQ (Below.refl _ _) _)))
    have h3:k=W.heap.size:=by simpa [Value.ownBlock] using he
    have:=hk.2.2.1
    omega
theorem rF (d:Kd α) {w0 W:World} (base e:Nat) (hw:Region.wanted o (yielded ops a.tmps)=true) {N:Tmp} (hd:o.dst=some N) (t:TypeId) (x y:Operand) (ho:o.op= .makeSlice t x y) (n:Int) (hx:a.eval x= .int .i64 n) (hy:a.eval y= .int .i64 n)
    (ht:P.underlying t=some (.slice e)) (z:Value) (bytes:Nat) (kJ:(P.info? e).map (fun i=>(i.zero,i.size,i.bytes))=some (some z,d.sz,bytes)) (hz:z.cells.size=d.sz) (rY:0<d.sz) (vl:0<bytes)
    (z0:α) {ok okp:Nat→Prop} (hzero:d.M W base okp z0 z.cells.toList) (nY:∀k,okp k→ok k) (je:ok W.heap.size) (h0:0≤n) (hl:n.toNat*bytes≤281474976710656) (HB:Below base w0 W) (iG:base≤W.heap.size)
    (h:∀v1 w1,d.R e w1 base ok v1 (List.replicate n.toNat z0)→Below base w0 w1→W.grownBy w1 none→(∃b,v1.ownBlock=some b∧W.heap.size≤b)→Kc (a.put o.dst v1) w1):if Region.wanted o (yielded ops a.tmps)=true then Oper.wp P o a W Kc Q else Kc (a.put o.dst undef) W:=by
  obtain ⟨m,rfl⟩:=Int.eq_ofNat_of_zero_le h0
  simp only [Int.toNat_natCast] at hl h
  obtain ⟨i0,hi,EM⟩:=Option.map_eq_some_iff.1 kJ
  simp only [Prod.mk.injEq] at EM
  obtain ⟨D3,Bv,D2⟩:=EM
  have hm:m≤281474976710656:=Nat.le_trans (Nat.le_mul_of_pos_right _ vl) hl
  have hr:=run_make (P:=P) W t e i0 z ht hi D3 .i64 .i64 (m:Int) (m:Int) (by omega) (by omega)
    (by
      have h3:((i0.bytes*m:Nat):Int)≤281474976710656:=by rw [D2,Nat.mul_comm];omega
      rwa [Int.natCast_mul] at h3) (by omega)
  simp only [Int.toNat_natCast] at hr
  rw [Bv] at hr
  refine iJ d base e hw hd (xs:=List.replicate m z0) (inner:=(madeCells z.cells (m*d.sz)).toList) (okp:=okp) (ok:=ok) ?_ (Bc hz rY hzero m) nY je HB iG (by simp;omega) h
  simp [execOp,ho,hx,hy,hr]
theorem nQ (d:Kd α) {Rr:α→List Value→Prop} {w0 W:World} (base:Nat) (hw:Region.wanted o (yielded ops a.tmps)=true) (s x:Operand) (t e:TypeId) (z:Value) (bytes:Nat)
    (ho:o.op= .call { callee:= .builtin .append,args:= #[s,x],argTypes:= #[t,t]})
    (ht:P.underlying t=some (.slice e)) (kJ:(P.info? e).map (fun i=>(i.zero,i.size,i.bytes))=some (some z,d.sz,bytes)) (hz:z.cells.size=d.sz) (rY:0<d.sz) (vl:0<bytes)
    (v:Value) (xs ys:List α) (A:Option Addr) (m c:Nat) (ok okp:Nat→Prop) (hs:a.eval s=v) (hx:a.eval x= .slice A m c)
    (HO:d.R e W base ok v xs) (HR:fH Rr d.sz W A m ys) (Xm:∀x cs,Rr x cs→d.M W base okp x cs) (vL:∀k,okp k→ok k∧some k≠v.ownBlock) (je:∀k,W.heap.size≤k→ok k)
    (HB:Below base w0 W) (iG:base≤W.heap.size) (hl:(xs.length+m)*bytes≤140737488355328)
    (h:∀v1 w1,d.R e w1 base ok v1 (xs++ys)→Below base w0 w1→W.grownBy w1 v.ownBlock→(v1.ownBlock=v.ownBlock∨∃b,v1.ownBlock=some b∧W.heap.size≤b)→Kc (a.put o.dst v1) w1):
    if Region.wanted o (yielded ops a.tmps)=true then Oper.wp P o a W Kc Q else Kc (a.put o.dst undef) W:=by
  obtain ⟨i0,hi,EM⟩:=Option.map_eq_some_iff.1 kJ
  simp only [Prod.mk.injEq] at EM
  obtain ⟨D3,Bv,D2⟩:=EM
  have hm:ys.length=m:=HR.1
  have hlen:xs.length+m≤140737488355328:=Nat.le_trans (Nat.le_mul_of_pos_right _ vl) hl
  obtain ⟨nY,inner,oV,hr⟩:=HO
  have kI:∃v1 w1,(Builtin.append_ #[t,t] o.type #[v,.slice A m c]).run P W= .ok v1 w1∧d.R e w1 base ok v1 (xs++ys)∧W.grownBy w1 v.ownBlock∧(v1.ownBlock=v.ownBlock∨∃b,v1.ownBlock=some b∧W.heap.size≤b):=by
    rcases A with _|ad
    · have h0:m=0:=by
        rcases Nat.eq_zero_or_pos m with h0|h0
        · exact h0
        · obtain ⟨ad,h,_⟩:=HR.2.2 h0
          cases h
      subst h0
      obtain rfl:ys=[]:=List.eq_nil_of_length_eq_zero hm
      refine ⟨v,W,?_,by rw [List.append_nil];exact ⟨nY,inner,oV,hr⟩,World.grownBy.refl W _,.inl rfl⟩
      rcases oV.2 with ⟨rfl,hn⟩|⟨g,cap,cur,rfl,_,_,I9,_⟩
      · simp [Builtin.append_,run_underlying ht,sizeOf,typeInfo,hi,Builtin.lenOf,Builtin.firstCells]
      · simp [Builtin.append_,run_underlying ht,sizeOf,typeInfo,hi,Builtin.lenOf,Builtin.firstCells,I9,storeCells]
    · obtain ⟨news,hnr,I9⟩:=fH.NI HR
      have RY:bT (d.M W base okp) d.sz ys news:=hnr.pQ (fun p c hp=>Xm p c hp)
      have NY:∀u∈news,u.oneCell'=true:=by
        intro u hu
        obtain ⟨q,hq,rfl⟩:=List.mem_iff_getElem.1 hu
        have hql:q/d.sz<ys.length:=by
          rw [Nat.div_lt_iff_lt_mul rY]
          rw [←RY.1]
          exact hq
        have hc:=RY.2 (q/d.sz) _ (List.getElem?_eq_getElem hql)
        refine d.lu (d.gQ hc) _ ?_
        rw [List.mem_iff_getElem?]
        refine ⟨q%d.sz,?_⟩
        rw [List.getElem?_take,if_pos (Nat.mod_lt _ rY),List.getElem?_drop,Nat.mul_comm,Nat.div_add_mod,List.getElem?_eq_getElem hq]
      obtain ⟨v1,w1,kI,h2,hg,_,eC⟩:=run_append_own_at (P:=P) W base t o.type e i0 z d.sz bytes ht hi D3 Bv D2 hz rY v xs.length inner oV ad m c news (by rw [RY.1,hm]) I9 NY (by simp only [maxLen];omega) hl iG
      have Hu:v1.ownBlock=v.ownBlock∨∃b,v1.ownBlock=some b∧W.heap.size≤b:=by
        rcases eC with eC|eC
        · exact .inl eC
        · exact .inr ⟨_,eC,Nat.le_refl _⟩
      have iP:∀k,some k≠v.ownBlock→k<W.heap.size→some k≠v1.ownBlock:=by
        intro k hk fl
        rcases Hu with eC|⟨b,hb,hle⟩
        · rw [eC];exact hk
        · rw [hb]
          intro he
          injection he with he
          omega
      have step:∀ {q:α} {c:List Value} {o:Nat→Prop},d.M W base o q c→(∀k,o k→ok k∧some k≠v.ownBlock)→d.M w1 base (fun k=>ok k∧some k≠v1.ownBlock) q c:=by
        intro q c o hq ho
        have h1:=d.iK (w1:=w1) (fun k hk=>hg.block k hk.2.2.1 (ho k hk.1).2) (d.gu hq)
        exact d.fh (fun k hk=>⟨(ho k hk.1).1,iP k (ho k hk.1).2 hk.2.2.1⟩) h1
      refine ⟨v1,w1,kI,⟨fun k hk=> ?_,inner++news,by rw [List.length_append,hm];exact h2,wg (hr.pQ (fun _ _ hq=>step hq (fun _ hk=>hk))) (RY.pQ (fun _ _ hq=>step hq vL))⟩,hg,Hu⟩
      rcases Hu with eC|⟨b,hb,hle⟩
      · exact nY k (eC▸hk)
      · rw [hb] at hk
        injection hk with hk
        exact je k (by omega)
  obtain ⟨v1,w1,sH,h1,hg,eC⟩:=kI
  rw [if_pos hw]
  unfold Oper.wp execOp
  simp only [ho,resolve,invoke,builtin,Sem.run_bind,Sem.run_pure,Result.andThen_ok,List.map_toArray,List.map_cons,List.map_nil,hs,hx,sH]
  exact h v1 w1 h1 (HB.grown hg iG (oQ oV)) hg eC
end Kd
end
section
variable {P:Program} {tmps:Array Value} {w:World}
end
namespace Kd
section
variable {P:Program} {α:Type}
end
section
variable {P:Program} {ops:Array Oper} {rest:List Oper} {o:Oper} {a:Act} {Q:Exit→Act→World→Prop} {Kc:Act→World→Prop} {α:Type}
end
end Kd
end Go.Proofs.YtihekdlcfohkkaaGreatDoorW.PrintWords
