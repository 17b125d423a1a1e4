import Derived.Test.YtihekdlcfohkkaaGreatDoorMk
namespace Go.Proofs.YtihekdlcfohkkaaGreatDoorW.PrintMore
open Go.RowKit Go.Proofs.YtihekdlcfohkkaaGreatDoorW.PrintWords Go.Proofs.YtihekdlcfohkkaaGreatDoorW.PrintLast
set_option linter.unusedVariables false
theorem Hw {α:Type} {l l':List α} {z:α} {j:Nat} (h:j<l.length):(l++l').getD j z=l.getD j z:=by
  rw [List.getD_eq_getElem?_getD,List.getD_eq_getElem?_getD,List.getElem?_append_left h]
theorem Hv {α:Type} {l l':List α} {z:α} {j:Nat} (h:l.length≤j):(l++l').getD j z=l'.getD (j-l.length) z:=by
  rw [List.getD_eq_getElem?_getD,List.getD_eq_getElem?_getD,List.getElem?_append_right h]
theorem NO {is:List Nat} (hn:is.Nodup) (j:Nat) (hj:j<is.length):is.idxOf is[j]=j:=by
  induction is generalizing j with
  |nil=>exact absurd hj (Nat.not_lt_zero _)
  | cons a r ih =>
    obtain ⟨h1,h2⟩:=List.nodup_cons.1 hn
    cases j with
    |zero=>simp
    | succ j =>
      have Qq:j<r.length:=by simpa using hj
      have iP:(a==r[j])=false:=by
        rw [beq_eq_false_iff_ne]
        intro e
        exact h1 (e▸List.getElem_mem Qq)
      simp only [List.getElem_cons_succ,List.idxOf_cons,iP,ih h2 j Qq]
      rfl
structure SA where
  P:Nat→(Nat→Prop)→World→Prop
  mv:∀ {b ok W W1},P b ok W→(∀k,ok k→k<W.heap.size→W1.heap[k]? =W.heap[k]?)→P b ok W1
  bd:∀ {b ok W},P b ok W→P b (fun k=>ok k∧b≤k∧k<W.heap.size) W
  mono:∀ {b ok ok' W},(∀k,ok k→ok' k)→P b ok W→P b ok' W
  lower:∀ {b b' ok W},b'≤b→P b ok W→P b' ok W
def rA {α:Type} (d:Kd α) (e:Nat) (v:Value) (xs:List α):SA where
  P:=fun b ok W=>d.R e W b ok v xs
  mv:=fun h hm=>Kd.rE h hm
  bd:=fun h=>Kd.bJ (Kd.kf h) (fun _ hk=>⟨hk.1,hk.2.1,hk.2.2.1⟩)
  mono:=fun hm h=>Kd.bJ h hm
  lower:=fun hb h=>Kd.dz h hb
def sA {α:Type} (d:Kd α) (e:Nat) (v:Value) (xs:List α):SA where
  P:=fun b ok W=>Kd.S d e W b ok v xs
  mv:=fun h hm=>Kd.DK h hm
  bd:=fun h=>Kd.l8 (Kd.uQ h) (fun _ hk=>⟨hk.1,hk.2.1,hk.2.2.1⟩)
  mono:=fun hm h=>Kd.l8 h hm
  lower:=fun hb h=>Kd.DM h hb
def bA (g:Nat) (cs:Array Value) (t:TypeId):SA where
  P:=fun b ok W=>(ok g∧b≤g)∧W.heap[g]? =some (.cells cs t (0,0))
  mv:=fun h hm=>⟨h.1,(hm g h.1.1 (iR h.2)).trans h.2⟩
  bd:=fun h=>⟨⟨⟨h.1.1,h.1.2,iR h.2⟩,h.1.2⟩,h.2⟩
  mono:=fun hm h=>⟨⟨hm _ h.1.1,h.1.2⟩,h.2⟩
  lower:=fun hb h=>⟨⟨h.1.1,Nat.le_trans hb h.1.2⟩,h.2⟩
def nA:SA where
  P:=fun _ _ _=>True
  mv:=fun h _=>h
  bd:=fun h=>h
  mono:=fun _ h=>h
  lower:=fun _ h=>h
def dG (c:Nat→Nat) (b:Nat) (W:World):Nat→List SA→Prop
  |_,[]=>True
  |i,A::L=>A.P b (fun k=>c k=i) W∧dG c b W (i+1) L
structure Sep (w0 W:World) (L:List SA):Prop where
  base:Below w0.heap.size w0 W
  abH:∃c,dG c w0.heap.size W 0 L
theorem dG.get {c:Nat→Nat} {b:Nat} {W:World} :∀ {L:List SA} {i:Nat} (j:Nat),dG c b W i L→j<L.length→(L.getD j nA).P b (fun k=>c k=i+j) W
  |[],_,_,_,hj=>absurd hj (Nat.not_lt_zero _)
  |A::L,i,0,h,_=>h.1
  | A :: L, i, j + 1, h, hj => by
    have:=dG.get (i:=i+1) j h.2 (by simpa using hj)
    rw [show i+(j+1)=i+1+j from by omega]
    simpa using this
theorem dG.of {c:Nat→Nat} {b:Nat} {W:World} :∀ {L:List SA} {i:Nat},(∀j,j<L.length→(L.getD j nA).P b (fun k=>c k=i+j) W)→dG c b W i L
  |[],_,_=>trivial
  | A :: L, i, h => ⟨by have := h 0 (by simp); simpa using this, dG.of (fun j hj => by
      have:=h (j+1) (by simpa using hj)
      rw [show i+1+j=i+(j+1) from by omega]
      simpa using this)⟩
theorem dG.to {c c':Nat→Nat} {b:Nat} {W W1:World} (n:Nat):∀ {L:List SA} {i:Nat},dG c b W i L→(∀k j,i≤j→c k=j→k<W.heap.size→b≤k→c' k=j+n∧W1.heap[k]? =W.heap[k]?)→dG c' b W1 (i+n) L
  |[],_,_,_=>trivial
  | A :: L, i, h, hc => ⟨A.mono (fun k hk => (hc k i (Nat.le_refl _) hk.1 hk.2.2 hk.2.1).1) (A.mv (A.bd h.1) (fun k hk _ => (hc k i (Nat.le_refl _) hk.1 hk.2.2 hk.2.1).2)), by
      have:=dG.to (i:=i+1) n h.2 (fun k j hj=>hc k j (by omega))
      rw [show i+1+n=i+n+1 from by omega] at this
      exact this⟩
theorem Sep.nil (w:World):Sep w w []:=⟨Below.refl _ _,fun _=>0,trivial⟩
theorem Sep.below {w0 W W1:World} {L:List SA} (h:Sep w0 W L) (hb:Below W.heap.size W W1):Sep w0 W1 L:=by
  obtain ⟨h1,c,h2⟩:=h
  exact ⟨aH h1 hb,c,dG.to 0 h2 (fun k j _ hk fl _=>⟨hk,hb.block k fl⟩)⟩
theorem Sep.drewN {w0 W:World} {L:List SA} (h:Sep w0 W L) (n:Nat):Sep w0 (W.drewN n) L:=h.below (ek (Below.refl _ _) n)
theorem Sep.drew {w0 W:World} {L:List SA} (h:Sep w0 W L):Sep w0 W.drew L:=h.below (iI (Below.refl _ _))
theorem Sep.news {w0 W W1:World} {L As:List SA} (h:Sep w0 W L) (hb:Below W.heap.size W W1) (ha:∃c,dG c W.heap.size W1 0 As):Sep w0 W1 (As++L):=by
  obtain ⟨h1,c,h2⟩:=h
  obtain ⟨ca,h3⟩:=ha
  have aj0:∀ {i:Nat} {L:List SA},dG ca W.heap.size W1 i L→dG ca w0.heap.size W1 i L:=by
    intro i L
    induction L generalizing i with
    |nil=>exact fun _=>trivial
    |cons A L ih=>exact fun h=>⟨A.lower h1.size h.1,ih h.2⟩
  refine ⟨aH h1 hb,fun k=>if k<W.heap.size then c k+As.length else if ca k<As.length then ca k else As.length+L.length,dG.of (fun j hj=> ?_)⟩
  by_cases hja:j<As.length
  · have:=dG.get j h3 hja
    rw [Hw hja]
    refine SA.lower _ h1.size (SA.mono _ (fun k hk=> ?_) (SA.bd _ this))
    show (if k<W.heap.size then c k+As.length else if ca k<As.length then ca k else As.length+L.length)=0+j
    rw [if_neg (by omega),if_pos (by omega)]
    exact hk.1
  · rw [Hv (by omega)]
    have:=dG.get (j-As.length) (dG.to (c':=c) 0 h2 (fun k j _ hk fl _=>⟨hk,hb.block k fl⟩)) (by rw [List.length_append] at hj;omega)
    have h4:=dG.get (j-As.length) h2 (by rw [List.length_append] at hj;omega)
    refine SA.mono _ (fun k hk=> ?_) (SA.mv _ (SA.bd _ h4) (fun k hk _=>hb.block k hk.2.2))
    show (if k<W.heap.size then c k+As.length else if ca k<As.length then ca k else As.length+L.length)=0+j
    rw [if_pos hk.2.2,hk.1]
    omega
theorem Sep.new {w0 W W1:World} {L:List SA} {A:SA} {ok:Nat→Prop} (h:Sep w0 W L) (hb:Below W.heap.size W W1) (ha:A.P W.heap.size ok W1):Sep w0 W1 (A::L):=
  Sep.news (As:=[A]) h hb ⟨fun _=>0,A.mono (fun _ _=>rfl) ha,trivial⟩
def Q0 (L:List SA) (is:List Nat):List SA:=is.map fun i=>L.getD i nA
theorem Sep.sel {w0 W:World} {L:List SA} (h:Sep w0 W L) (is:List Nat) (hn:(is.Nodup∧∀i∈is,i<L.length):=by exact of_decide_eq_true rfl):Sep w0 W (Q0 L is):=by
  obtain ⟨h1,c,h2⟩:=h
  obtain ⟨hn,hl⟩:=hn
  refine ⟨h1,fun k=>is.idxOf (c k),dG.of (fun j hj=> ?_)⟩
  have Qq:j<is.length:=by simpa [Q0] using hj
  have e:(Q0 L is).getD j nA=L.getD is[j] nA:=by
    unfold Q0
    rw [List.getD_eq_getElem?_getD,List.getElem?_map,List.getElem?_eq_getElem Qq]
    rfl
  rw [e]
  have h3:=dG.get is[j] h2 (hl _ (List.getElem_mem Qq))
  refine SA.mono _ (fun k hk=> ?_) h3
  show is.idxOf (c k)=0+j
  rw [hk,Nat.zero_add,Nat.zero_add]
  exact NO hn j Qq
theorem Sep.at {w0 W:World} {L:List SA} (h:Sep w0 W L) (i:Nat) {A:SA} (e:L.getD i nA=A:=by rfl) (hi:i<L.length:=by first|exact of_decide_eq_true rfl|(simp only [List.length_cons,List.length_append];omega)):∃ok,A.P w0.heap.size ok W:=by
  obtain ⟨h1,c,h2⟩:=h
  subst e
  exact ⟨_,dG.get i h2 hi⟩
theorem Sep.rdS {w0 W:World} {L:List SA} (h:Sep w0 W L) (i:Nat) {α:Type} {d:Kd α} {t:Nat} {A:Option Addr} {n c:Nat} {xs:List α} (e:L.getD i nA=sA d t (.slice A n c) xs:=by rfl) (hi:i<L.length:=by first|exact of_decide_eq_true rfl|(simp only [List.length_cons,List.length_append];omega)):n=xs.length∧n≤c∧d.C W A xs.length xs:=by
  obtain ⟨ok,h⟩:=h.at i e hi
  exact Kd.rD h
theorem Sep.mA {w0 W:World} {L:List SA} (h:Sep w0 W L) (i:Nat) {α:Type} {d:Kd α} {t:Nat} {A:Option Addr} {n c:Nat} {xs:List α} (e:L.getD i nA=rA d t (.slice A n c) xs:=by rfl) (hi:i<L.length:=by first|exact of_decide_eq_true rfl|(simp only [List.length_cons,List.length_append];omega)):n=xs.length∧n≤c∧d.C W A xs.length xs:=by
  obtain ⟨ok,h⟩:=h.at i e hi
  exact Kd.aJ h
theorem Sep.gY {w0 W:World} {L:List SA} (h:Sep w0 W L) (i:Nat) {α:Type} {d:Kd α} {t:Nat} {v:Value} {xs:List α} (e:L.getD i nA=sA d t v xs:=by rfl) (hi:i<L.length:=by first|exact of_decide_eq_true rfl|(simp only [List.length_cons,List.length_append];omega)):∃A c,v= .slice A xs.length c:=by
  obtain ⟨ok,h⟩:=h.at i e hi
  exact Kd.mJ h
theorem Sep.lz {w0 W:World} {L:List SA} (h:Sep w0 W L) (i:Nat) {α:Type} {d:Kd α} {t:Nat} {v:Value} {xs:List α} (e:L.getD i nA=rA d t v xs:=by rfl) (hi:i<L.length:=by first|exact of_decide_eq_true rfl|(simp only [List.length_cons,List.length_append];omega)):∃A c,v= .slice A xs.length c:=by
  obtain ⟨ok,h⟩:=h.at i e hi
  exact Kd.de h
theorem Sep.aI {w0 W:World} {L:List SA} (h:Sep w0 W L) (i:Nat) {g:Nat} {cs:Array Value} {t:TypeId} (e:L.getD i nA=bA g cs t:=by rfl) (hi:i<L.length:=by first|exact of_decide_eq_true rfl|(simp only [List.length_cons,List.length_append];omega)):Aside0 (W.heap[g]? =some (.cells cs t (0,0))):=by
  obtain ⟨ok,h⟩:=h.at i e hi
  exact ⟨h.2⟩
theorem Sep.ge {w0 W:World} {L:List SA} (h:Sep w0 W L) (i:Nat) {g:Nat} {cs:Array Value} {t:TypeId} (e:L.getD i nA=bA g cs t:=by rfl) (hi:i<L.length:=by first|exact of_decide_eq_true rfl|(simp only [List.length_cons,List.length_append];omega)):w0.heap.size≤g:=by
  obtain ⟨ok,h⟩:=h.at i e hi
  exact h.1.2
theorem Sep.wr {w0 W W1:World} {A':SA} {L:List SA} {c:Nat→Nat} (ht:dG c w0.heap.size W 1 L) (hk:Kept W W1 (fun k=>c k=0)) (hb:Below w0.heap.size w0 W1) (ha:A'.P w0.heap.size (fun k=>c k=0∨W.heap.size≤k) W1):Sep w0 W1 (A'::L):=by
  refine ⟨hb,fun k=>if k<W.heap.size then c k else 0,?_,?_⟩
  · refine SA.mono _ (fun k hk=> ?_) ha
    show (if k<W.heap.size then c k else 0)=0
    rcases hk with hk|hk
    · rw [hk];split<;>rfl
    · rw [if_neg (by omega)]
  · refine dG.to (i:=1) 0 ht (fun k j hj R2 fl _=>⟨?_,hk.2 k fl (fun e=>by omega)⟩)
    show (if k<W.heap.size then c k else 0)=j+0
    rw [if_pos fl]
    exact R2
theorem Sep.put {w0 W:World} {g:Nat} {cs:Array Value} {t:TypeId} {L:List SA} (h:Sep w0 W (bA g cs t::L)) (j:Nat) (u:Value) (Ah:Array Value) (e:Ah=cs.set! j u:=by rfl):Sep w0 (W.setCell ⟨g,j,none⟩ u) (bA g Ah t::L):=by
  obtain ⟨h1,c,⟨⟨h2,h3⟩,h4⟩,h5⟩:=h
  refine ⟨ew h1 h3,c,⟨⟨h2,h3⟩,?_⟩,?_⟩
  · subst e
    exact hJ h4 j u (by simp)
  · refine dG.to (i:=1) 0 h5 (fun k q hq hkq _ _=>⟨hkq,Below.heap_setCell W ⟨g,j,none⟩ u k (fun e=> ?_)⟩)
    have h2':c g=0:=h2
    have:c k=0:=by rw [show k=g from e];exact h2'
    omega
theorem Sep.box {w0 W W1:World} {L:List SA} {g:Nat} {cs:Array Value} {t:TypeId} (h:Sep w0 W L) (hg:g=W.heap.size) (ho:W1.heap[g]? =some (.cells cs t (0,0))) (hb:Below W.heap.size W W1):Sep w0 W1 (bA g cs t::L):=
  h.new hb (A:=bA g cs t) (ok:=fun _=>True) ⟨⟨trivial,by rw [hg];exact Nat.le_refl _⟩,ho⟩
theorem Sep.VQ {w0 W:World} {g:Nat} {z0 z1 z2 z3 z4:Value} {t:TypeId} {L:List SA} (h:Sep w0 W (bA g #[z0,z1,z2,z3,z4] t::L)) (a0 a1 a2 a3 a4:Value):
    Sep w0 (((((W.setCell ⟨g,0,none⟩ a0).setCell ⟨g,1,none⟩ a1).setCell ⟨g,2,none⟩ a2).setCell ⟨g,3,none⟩ a3).setCell ⟨g,4,none⟩ a4) (bA g #[a0,a1,a2,a3,a4] t::L):=
  ((((h.put 0 a0 _).put 1 a1 _).put 2 a2 _).put 3 a3 _).put 4 a4 _
theorem mM {α:Type} {z:α} :∀(L:List α) (i j:Nat) (x:α),(L.set i x).getD j z=if i=j∧j<L.length then x else L.getD j z
  |[],_,_,_=>by simp
  |a::L,0,0,x=>by simp
  |a::L,0,j+1,x=>by simp
  |a::L,i+1,0,x=>by simp
  | a :: L, i + 1, j + 1, x => by
    have:=mM (z:=z) L i j x
    simp only [List.set_cons_succ,List.length_cons,Nat.add_lt_add_iff_right,Nat.add_right_cancel_iff]
    simpa using this
theorem Sep.cq {w0 W:World} {L:List SA} {g:Nat} {cs:Array Value} {t:TypeId} (h:Sep w0 W L) (i j:Nat) (u:Value) (Ah:Array Value) (e:L.getD i nA=bA g cs t:=by rfl) (hi:i<L.length:=by first|exact of_decide_eq_true rfl|(simp only [List.length_cons,List.length_append];omega)) (ec:Ah=cs.setIfInBounds j u:=by rfl):Sep w0 (W.setCell ⟨g,j,none⟩ u) (L.set i (bA g Ah t)):=by
  obtain ⟨h1,c,h2⟩:=h
  have h3:=dG.get i h2 hi
  rw [e] at h3
  obtain ⟨⟨h4,h5⟩,h6⟩:=h3
  refine ⟨ew h1 h5,c,dG.of (fun q hq=> ?_)⟩
  rw [List.length_set] at hq
  have h7:=dG.get q h2 hq
  rw [mM]
  by_cases hqi:i=q
  · subst hqi
    rw [if_pos ⟨rfl,hq⟩]
    subst ec
    exact ⟨⟨h4,h5⟩,hJ h6 j u rfl⟩
  · rw [if_neg (fun a=>hqi a.1)]
    refine SA.mv _ h7 (fun k hk _=>Below.heap_setCell W ⟨g,j,none⟩ u k (fun e=> ?_))
    have h4':c g=0+i:=h4
    rw [show k=g from e] at hk
    omega
theorem Sep.iw {w0 W:World} {L:List SA} {g:Nat} {z0 z1 z2 z3 z4:Value} {t:TypeId} (h:Sep w0 W L) (i:Nat) (a0 a1 a2 a3 a4:Value) (e:L.getD i nA=bA g #[z0,z1,z2,z3,z4] t:=by rfl) (hi:i<L.length:=by first|exact of_decide_eq_true rfl|(simp only [List.length_cons,List.length_append];omega)):
    Sep w0 (((((W.setCell ⟨g,0,none⟩ a0).setCell ⟨g,1,none⟩ a1).setCell ⟨g,2,none⟩ a2).setCell ⟨g,3,none⟩ a3).setCell ⟨g,4,none⟩ a4) (L.set i (bA g #[a0,a1,a2,a3,a4] t)):=by
  have e1:∀(cs:Array Value) (L':List SA),i<L'.length→(L'.set i (bA g cs t)).getD i nA=bA g cs t:=fun cs L' h=>by rw [mM,if_pos ⟨rfl,h⟩]
  have l1:∀(A:SA) (L':List SA),i<L'.length→i<(L'.set i A).length:=fun A L' h=>by rw [List.length_set];exact h
  have h0:=h.cq i 0 a0 #[a0,z1,z2,z3,z4] e hi
  have h1:=h0.cq i 1 a1 #[a0,a1,z2,z3,z4] (e1 _ _ hi) (l1 _ _ hi)
  have h2:=h1.cq i 2 a2 #[a0,a1,a2,z3,z4] (e1 _ _ (l1 _ _ hi)) (l1 _ _ (l1 _ _ hi))
  have h3:=h2.cq i 3 a3 #[a0,a1,a2,a3,z4] (e1 _ _ (l1 _ _ (l1 _ _ hi))) (l1 _ _ (l1 _ _ (l1 _ _ hi)))
  have h4:=h3.cq i 4 a4 #[a0,a1,a2,a3,a4] (e1 _ _ (l1 _ _ (l1 _ _ (l1 _ _ hi)))) (l1 _ _ (l1 _ _ (l1 _ _ (l1 _ _ hi))))
  rw [List.set_set,List.set_set,List.set_set,List.set_set] at h4
  exact h4
def gA {α:Type} (d:Kd α) (e:Nat) (v:Value) (xs:List α) (i:Int) (u:Value):SA where
  P:=fun b ok W=>∃f,(Kd.Zr f d i.toNat [u]).R e W b ok v xs.zipIdx
  mv:=fun ⟨f,h⟩ hm=>⟨f,Kd.rE h hm⟩
  bd:=fun ⟨f,h⟩=>⟨f,Kd.bJ (Kd.kf h) (fun _ hk=>⟨hk.1,hk.2.1,hk.2.2.1⟩)⟩
  mono:=fun hm ⟨f,h⟩=>⟨f,Kd.bJ h hm⟩
  lower:=fun hb ⟨f,h⟩=>⟨f,Kd.dz h hb⟩
theorem Sep.yS {w0 W:World} {L:List SA} {α:Type} {d:Kd α} {e t g n cap:Nat} {xs:List (List α)} (h:Sep w0 W (sA (Kd.slice e d) t (.slice (some ⟨g,0,none⟩) n cap) xs::L)) (i:Int) (h0:0≤i) (h1:i<n):
    ∃A q,Sep w0 W (gA (Kd.slice e d) t (.slice (some ⟨g,0,none⟩) n cap) xs i (.slice A (xs.getD i.toNat []).length q)::rA d e (.slice A (xs.getD i.toNat []).length q) (xs.getD i.toNat [])::L)∧W.cell? ⟨g,i.toNat,none⟩=some (.slice A (xs.getD i.toNat []).length q)∧W.frozen? ⟨g,i.toNat,none⟩=false:=by
  obtain ⟨hb,c,hs,hL⟩:=h
  obtain ⟨oki,cs,vk,hM,Oo,WU,Wr,hH⟩:=Kd.Yp hs [] i h0 h1
  obtain ⟨u,rfl,hR⟩:=hM
  obtain ⟨A,q,rfl⟩:=Kd.de hR
  obtain ⟨ho,f,hG⟩:=hH
  have qA:=Oo 0 _ rfl
  have FM:=WU 0
  have sr:(Kd.slice e d).sz=1:=rfl
  rw [sr,Nat.mul_one,Nat.add_zero] at qA FM
  classical
  refine ⟨A,q,⟨hb,fun k=>if c k=0 then (if oki k then 1 else 0) else c k+1,⟨f,Kd.bJ hG (fun k hk=> ?_)⟩,Kd.bJ hR (fun k hk=> ?_),?_⟩,qA,FM⟩
  · show (if c k=0 then (if oki k then 1 else 0) else c k+1)=0
    rw [if_pos hk.1,if_neg hk.2]
  · show (if c k=0 then (if oki k then 1 else 0) else c k+1)=0+1
    rw [if_pos (Wr k hk).1,if_pos hk]
  · refine dG.to (i:=1) 1 hL (fun k j hj R2 _ _=>⟨?_,rfl⟩)
    show (if c k=0 then (if oki k then 1 else 0) else c k+1)=j+1
    rw [if_neg (by omega),R2]
theorem Sep.hole {w0 W:World} {L:List SA} {α:Type} {d:Kd α} {e t g n cap:Nat} {xs:List (List α)} {i:Int} {u:Value} (h:Sep w0 W (gA (Kd.slice e d) t (.slice (some ⟨g,0,none⟩) n cap) xs i u::L)) (h0:0≤i) (h1:i<n):W.cell? ⟨g,i.toNat,none⟩=some u∧W.frozen? ⟨g,i.toNat,none⟩=false:=by
  obtain ⟨hb,c,⟨f,hG⟩,hL⟩:=h
  have hn:=(Kd.aJ hG).1
  rw [List.length_zipIdx] at hn
  obtain ⟨rows,_,NV,_,_,Oo,_⟩:=Kd.UN (c:=[u]) (oki:=fun _=>False) (ok:=fun k=>c k=0) ⟨fun _ h=>h.elim,f,Kd.bJ hG (fun k hk=>⟨hk,fun h=>h⟩)⟩ h0 h1
  have qA:=Oo 0 u rfl
  have sr:(Kd.slice e d).sz=1:=rfl
  rw [sr,Nat.mul_one,Nat.add_zero] at qA
  obtain ⟨_,_,_,_,WU⟩:=Kd.Ih NV [] i h0 h1
  have FM:=WU 0
  rw [show (Kd.raw (Kd.slice e d).sz:Kd (List Value)).sz=1 from rfl,Nat.mul_one,Nat.add_zero] at FM
  exact ⟨qA,FM⟩
theorem Sep.C2 {w0 W:World} {L:List SA} {α:Type} {d:Kd α} {e t g n cap:Nat} {xs:List (List α)} {i:Int} {u:Value} (h:Sep w0 W (gA (Kd.slice e d) t (.slice (some ⟨g,0,none⟩) n cap) xs i u::L)) (h0:0≤i) (h1:i<n) (u':Value) (hu:u'.oneCell'=true):Sep w0 (W.setCell ⟨g,i.toNat,none⟩ u') (gA (Kd.slice e d) t (.slice (some ⟨g,0,none⟩) n cap) xs i u'::L):=by
  obtain ⟨hb,c,⟨f,hG⟩,hL⟩:=h
  have hg0:c g=0:=hG.1 g (by simp [Value.ownBlock])
  have hgb:w0.heap.size≤g:=Kd.j3 hG g (by simp [Value.ownBlock])
  have hH:Kd.H (Kd.slice e d) t W w0.heap.size (fun k=>c k=0) (.slice (some ⟨g,0,none⟩) n cap) xs i (fun _=>False) [u]:=⟨fun _ h=>h.elim,f,Kd.bJ hG (fun k hk=>⟨hk,fun h=>h⟩)⟩
  obtain ⟨⟨_,f',h2⟩,h3⟩:=Kd.adH hH h0 h1 (seg:=[u']) (j:=0) (by show 0+1≤1;omega) (fun q hq=>by rw [List.mem_singleton.1 hq];exact hu)
  have sr:(Kd.slice e d).sz=1:=rfl
  have e1:W.setCells g (i.toNat*(Kd.slice e d).sz+0) [u']=W.setCell ⟨g,i.toNat,none⟩ u':=by
    rw [sr,Nat.mul_one,Nat.add_zero]
    rfl
  rw [e1] at h2 h3
  refine ⟨ew hb hgb,c,⟨f',?_⟩,dG.to (i:=1) 0 hL (fun k j hj R2 fl _=>⟨R2,h3.block k fl (fun he=> ?_)⟩)⟩
  · have h4:(Kd.Zr f' (Kd.slice e d) i.toNat [u']).R t (W.setCell ⟨g,i.toNat,none⟩ u') w0.heap.size (fun k=>c k=0∧¬False) (.slice (some ⟨g,0,none⟩) n cap) xs.zipIdx:=h2
    exact Kd.bJ h4 (fun k hk=>hk.1)
  · injection he with he
    subst he
    omega
theorem Sep.back {w0 W:World} {L:List SA} {α:Type} {d:Kd α} {e t:Nat} {v:Value} {xs:List (List α)} {i:Int} {u:Value} {ys:List α} (h:Sep w0 W (gA (Kd.slice e d) t v xs i u::rA d e u ys::L)):Sep w0 W (sA (Kd.slice e d) t v (xs.set i.toNat ys)::L):=by
  obtain ⟨hb,c,⟨f,hG⟩,hR,hL⟩:=h
  have hH:Kd.H (Kd.slice e d) t W w0.heap.size (fun k=>c k=0∨c k=1) v xs i (fun k=>c k=1) [u]:=⟨fun k hk=> .inr hk,f,Kd.bJ hG (fun k (hk:c k=0)=>⟨.inl hk,fun h=>by omega⟩)⟩
  have hS:=Kd.Yx hH (x':=ys) (okp:=fun k=>c k=1) ⟨u,rfl,hR⟩ (fun _ hk=>hk)
  refine ⟨hb,fun k=>c k-1,Kd.l8 hS (fun k hk=> ?_),?_⟩
  · show c k-1=0
    omega
  · have h5:dG c w0.heap.size W 2 L:=hL
    refine dG.of (fun j hj=> ?_)
    refine SA.mono _ (fun k hk=> ?_) (dG.get j h5 hj)
    show c k-1=0+1+j
    omega
theorem Sep.getD_erase {L:List SA} {i j:Nat} :(L.eraseIdx i).getD j nA=if j<i then L.getD j nA else L.getD (j+1) nA:=by
  simp only [List.getD_eq_getElem?_getD,List.getElem?_eraseIdx]
  split<;>rfl
theorem Sep.front {w0 W:World} {L:List SA} (h:Sep w0 W L) (i:Nat):Sep w0 W (L.getD i nA::L.eraseIdx i):=by
  obtain ⟨h1,c,h2⟩:=h
  refine ⟨h1,fun k=>if c k=i then 0 else if c k<i then c k+1 else c k,dG.of (fun j hj=> ?_)⟩
  rw [List.length_cons] at hj
  have hle:=List.length_eraseIdx_le L i
  cases j with
  | zero =>
    show (L.getD i nA).P _ _ _
    by_cases hi:i<L.length
    · refine SA.mono _ (fun k hk=> ?_) (dG.get i h2 hi)
      have:c k=i:=by rw [hk];exact Nat.zero_add i
      show (if c k=i then 0 else if c k<i then c k+1 else c k)=0+0
      rw [if_pos this]
    · rw [List.getD_eq_getElem?_getD,List.getElem?_eq_none (by omega)]
      trivial
  | succ j =>
    show ((L.eraseIdx i).getD j nA).P _ _ _
    rw [Sep.getD_erase]
    by_cases Af:j<i
    · rw [if_pos Af]
      have Jl:j<L.length:=by
        by_cases hi:i<L.length
        · omega
        · rw [List.eraseIdx_of_length_le (by omega)] at hj;omega
      refine SA.mono _ (fun k hk=> ?_) (dG.get j h2 Jl)
      have:c k=j:=by rw [hk];exact Nat.zero_add j
      show (if c k=i then 0 else if c k<i then c k+1 else c k)=0+(j+1)
      rw [if_neg (by omega),if_pos (by omega)]
      omega
    · rw [if_neg Af]
      have Jl:j+1<L.length:=by
        by_cases hi:i<L.length
        · rw [List.length_eraseIdx_of_lt hi] at hj;omega
        · rw [List.eraseIdx_of_length_le (by omega)] at hj;omega
      refine SA.mono _ (fun k hk=> ?_) (dG.get (j+1) h2 Jl)
      have:c k=j+1:=by rw [hk];exact Nat.zero_add _
      show (if c k=i then 0 else if c k<i then c k+1 else c k)=0+(j+1)
      rw [if_neg (by omega),if_neg (by omega)]
      omega
theorem Sep.mE {w0 W:World} {A0 A1:SA} {L:List SA} (h:Sep w0 W (A0::A1::L)):Sep w0 W (A1::A0::L):=h.front 1
theorem Sep.me {w0 W:World} {A0 A1 A2:SA} {L:List SA} (h:Sep w0 W (A0::A1::A2::L)):Sep w0 W (A2::A0::A1::L):=h.front 2
theorem Sep.vm {w0 W:World} {A0 A1 A2 A3:SA} {L:List SA} (h:Sep w0 W (A0::A1::A2::A3::L)):Sep w0 W (A3::A0::A1::A2::L):=h.front 3
theorem Sep.j9 {w0 W:World} {A0 A1 A2 A3 A4:SA} {L:List SA} (h:Sep w0 W (A0::A1::A2::A3::A4::L)):Sep w0 W (A4::A0::A1::A2::A3::L):=h.front 4
theorem Sep.jR {w0 W:World} {A0 A1 A2 A3 A4 A5:SA} {L:List SA} (h:Sep w0 W (A0::A1::A2::A3::A4::A5::L)):Sep w0 W (A5::A0::A1::A2::A3::A4::L):=h.front 5
theorem Sep.jw {w0 W:World} {A0 A1 A2 A3 A4 A5 A6:SA} {L:List SA} (h:Sep w0 W (A0::A1::A2::A3::A4::A5::A6::L)):Sep w0 W (A6::A0::A1::A2::A3::A4::A5::L):=h.front 6
theorem Sep.zl {w0 W:World} {A0 A1 A2 A3 A4 A5 A6 A7:SA} {L:List SA} (h:Sep w0 W (A0::A1::A2::A3::A4::A5::A6::A7::L)):Sep w0 W (A7::A0::A1::A2::A3::A4::A5::A6::L):=h.front 7
theorem Sep.vO {w0 W:World} {A0 A1 A2 A3 A4 A5 A6 A7 A8 A9 tH:SA} {L:List SA} (h:Sep w0 W (A0::A1::A2::A3::A4::A5::A6::A7::A8::A9::tH::L)):Sep w0 W (tH::A0::A1::A2::A3::A4::A5::A6::A7::A8::A9::L):=h.front 10
theorem Sep.E4 {w0 W:World} {A0 A1 A2 A3 A4 A5 A6 A7 A8 A9 tH Qn:SA} {L:List SA} (h:Sep w0 W (A0::A1::A2::A3::A4::A5::A6::A7::A8::A9::tH::Qn::L)):Sep w0 W (Qn::A0::A1::A2::A3::A4::A5::A6::A7::A8::A9::tH::L):=h.front 11
theorem Sep.qB {w0 W:World} {A0 A1 A2 A3 A4 A5 A6 A7 A8 A9 tH Qn L5:SA} {L:List SA} (h:Sep w0 W (A0::A1::A2::A3::A4::A5::A6::A7::A8::A9::tH::Qn::L5::L)):Sep w0 W (L5::A0::A1::A2::A3::A4::A5::A6::A7::A8::A9::tH::Qn::L):=h.front 12
theorem Sep.tail {w0 W:World} {A:SA} {L:List SA} (h:Sep w0 W (A::L)):Sep w0 W L:=by
  obtain ⟨h1,c,h2⟩:=h
  refine ⟨h1,fun k=>if c k=0 then L.length else c k-1,dG.of (fun j hj=> ?_)⟩
  refine SA.mono _ (fun k hk=> ?_) (dG.get j h2.2 hj)
  show (if c k=0 then L.length else c k-1)=0+j
  have GZ:c k=0+1+j:=hk
  rw [if_neg (by omega)]
  omega
theorem Sep.addr {w0 W:World} {L:List SA} (h:Sep w0 W L) (i:Nat) {α:Type} {d:Kd α} {t:Nat} {v:Value} {xs:List α} (e:L.getD i nA=sA d t v xs:=by rfl) (hi:i<L.length:=by first|exact of_decide_eq_true rfl|(simp only [List.length_cons,List.length_append];omega)) (hx:0<xs.length):∃g q,v= .slice (some ⟨g,0,none⟩) xs.length q:=by
  obtain ⟨ok,h⟩:=h.at i e hi
  obtain ⟨inner,_,⟨rfl,h0⟩|⟨g,cap,cur,rfl,_⟩⟩:=Kd.ac2 h
  · omega
  · exact ⟨g,cap,rfl⟩
theorem Sep.uN {w0 W:World} {L:List SA} (h:Sep w0 W L) (i:Nat) {α:Type} {d:Kd α} {t:Nat} {v:Value} {xs:List α} (e:L.getD i nA=rA d t v xs:=by rfl) (hi:i<L.length:=by first|exact of_decide_eq_true rfl|(simp only [List.length_cons,List.length_append];omega)) (hx:0<xs.length):∃g q,v= .slice (some ⟨g,0,none⟩) xs.length q:=by
  obtain ⟨ok,h⟩:=h.at i e hi
  obtain ⟨inner,_,⟨rfl,h0⟩|⟨g,cap,cur,rfl,_⟩⟩:=Kd.zR h
  · omega
  · exact ⟨g,cap,rfl⟩
theorem Sep.Fa {w0 W:World} {L:List SA} (h:Sep w0 W L) (j:Nat) {k:IntKind} {t g n c:Nat} {xs:List Int} (i:Int) (h0:0≤i) (h1:i<n) (e:L.getD j nA=rA (Kd.int k) t (.slice (some ⟨g,0,none⟩) n c) xs:=by rfl) (hi:j<L.length:=by first|exact of_decide_eq_true rfl|(simp only [List.length_cons,List.length_append];omega)):W.cell? ⟨g,i.toNat,none⟩=some (.int k (rd xs i)):=by
  obtain ⟨rfl,_,hC⟩:=h.mA j e hi
  obtain ⟨ad,e1,e2⟩:=Kd.jS hC i h0 h1
  obtain rfl:=Option.some.inj e1
  rwa [add_plain] at e2
theorem Sep.cellS {w0 W:World} {L:List SA} (h:Sep w0 W L) (j:Nat) {t g n c:Nat} {xs:List ByteArray} (i:Int) (h0:0≤i) (h1:i<n) (e:L.getD j nA=rA Kd.string t (.slice (some ⟨g,0,none⟩) n c) xs:=by rfl) (hi:j<L.length:=by first|exact of_decide_eq_true rfl|(simp only [List.length_cons,List.length_append];omega)):W.cell? ⟨g,i.toNat,none⟩=some (.string (aQ ByteArray.empty xs i)):=by
  obtain ⟨rfl,_,hC⟩:=h.mA j e hi
  obtain ⟨ad,e1,e2⟩:=Kd.bq hC i h0 h1
  obtain rfl:=Option.some.inj e1
  rwa [add_plain] at e2
theorem Sep.tg {w0 W:World} {L:List SA} (h:Sep w0 W L) {α:Type} (d:Kd α) (e:Nat):Sep w0 W (rA d e (.slice none 0 0) []::L):=
  h.new (A:=rA d e (.slice none 0 0) []) (ok:=fun _=>True) (Below.refl _ _) (Kd.qo _ _ _ _ _)
theorem Ep {α:Type} {z:α} :∀(xs:List α) (i:Nat),xs.set i (xs.getD i z)=xs
  |[],_=>by simp
  |x::xs,0=>by simp
  | x :: xs, i + 1 => by
    have:=Ep (z:=z) xs i
    simp only [List.set_cons_succ,List.getD_cons_succ,this]
theorem Sep.sP {w0 W:World} {L:List SA} {α:Type} {d:Kd α} {e t:Nat} {v:Value} {xs:List (List α)} {i:Int} {u:Value} {ys:List α} (h:Sep w0 W (gA (Kd.slice e d) t v xs i u::rA d e u ys::L)) (hy:Aside0 (xs.getD i.toNat []=ys)):Sep w0 W (sA (Kd.slice e d) t v xs::L):=by
  have:=h.back
  rw [←hy.out] at this
  rwa [Ep] at this
theorem Sep.grown {w0 W W1:World} {A':SA} {L:List SA} {c:Nat→Nat} {row:Option Nat} (ht:dG c w0.heap.size W 1 L) (hr:∀k,row=some k→c k=0) (hg:W.grownBy W1 row) (hb:Below w0.heap.size w0 W1) (ha:A'.P w0.heap.size (fun k=>c k=0∨W.heap.size≤k) W1):Sep w0 W1 (A'::L):=
  Sep.wr ht (Kept.nH hg (Kept.refl W _) (fun k e=> .inl (hr k e))) hb ha
section
variable {P:Program} {ops:Array Oper} {o:Oper} {a:Act} {Q:Exit→Act→World→Prop} {Kc:Act→World→Prop} {α:Type}
theorem Sep.append (d:Kd α) {Rr:α→List Value→Prop} {w0 W:World} {L:List SA} (hw:Region.wanted o (yielded ops a.tmps)=true) (s x:Operand) (t e:TypeId) (z:Value) (bytes:Nat)
    (ho:o.op= .call { callee:= .builtin .append,args:= #[s,x],argTypes:= #[t,t]})
    (ht:P.underlying t=some (.slice e)) (kJ:(P.info? e).map (fun i=>(i.zero,i.size,i.bytes))=some (some z,d.sz,bytes)) (hz:z.cells.size=d.sz) (rY:0<d.sz) (vl:0<bytes)
    (v:Value) (xs ys:List α) (A:Option Addr) (m c:Nat) (hs:a.eval s=v) (hx:a.eval x= .slice A m c)
    (HS:Sep w0 W (rA d e v xs::L)) (HR:fH Rr d.sz W A m ys) (Xm:∀b okp x cs,Rr x cs→d.M W b okp x cs) (hl:(xs.length+m)*bytes≤140737488355328)
    (h:∀v1 w1,Sep w0 w1 (rA d e v1 (xs++ys)::L)→Kc (a.put o.dst v1) w1):
    if Region.wanted o (yielded ops a.tmps)=true then Oper.wp P o a W Kc Q else Kc (a.put o.dst undef) W:=by
  obtain ⟨hB,c',h0,hL⟩:=HS
  exact Kd.nQ d (w0:=w0) w0.heap.size hw s x t e z bytes ho ht kJ hz rY vl v xs ys A m c (fun k=>c' k=0∨W.heap.size≤k) (fun _=>False) hs hx (Kd.bJ h0 (fun _ hk=> .inl hk)) HR (fun x cs hx=>Xm _ _ x cs hx) (fun _ h=>h.elim) (fun _ hk=> .inr hk) hB hB.size hl (fun v1 w1 ho hb hg _=>h v1 w1 (Sep.grown hL (fun k e=>h0.1 k e) hg hb ho))
end
theorem Sep.gen {w0 W:World} {L:List SA} (h:Sep w0 W L):∃W',W=W'∧Sep w0 W' L:=⟨W,rfl,h⟩
end Go.Proofs.YtihekdlcfohkkaaGreatDoorW.PrintMore
