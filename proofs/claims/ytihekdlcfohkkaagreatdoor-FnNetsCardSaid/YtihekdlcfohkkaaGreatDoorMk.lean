import Derived.Test.YtihekdlcfohkkaaGreatDoorSq
namespace Go.Proofs.YtihekdlcfohkkaaGreatDoorW.PrintMore
open Go.RowKit Go.Proofs.YtihekdlcfohkkaaGreatDoorW.PrintWords Go.Proofs.YtihekdlcfohkkaaGreatDoorW.PrintLast
def afX (md:Region.Mode) (o:Oper) (L:Array Bool):Bool:=o.after.all fun e=> !Region.binds md e||L.getD e.on false
def Bp (md:Region.Mode) (ops:Array Oper):Array Bool→List Nat→Bool
  |_,[]=>true
  |L,m::r=>(match ops[m]? with|some o=>afX md o L&& !L.getD m true|none=>false)&&Bp md ops (L.setIfInBounds m true) r
def wB:Array Bool→List Nat→Array Bool
  |L,[]=>L
  |L,m::r=>wB (L.setIfInBounds m true) r
def Rv (md:Region.Mode) (ops:Array Oper) (M:List Nat) (l':Array Bool):Bool:=
  (List.range ops.size).all fun i=>l'.getD i true||M.all fun m=>match ops[i]? with|some o=>o.after.any (fun e=>Region.binds md e&&e.on==m)|none=>true
def IT (md:Region.Mode) (ops:Array Oper) (M:List Nat) (ds:List Nat) (l l':Array Bool):Bool:=
  Bp md ops l M&&wB l M==l'&&Rv md ops M l'&&M.all fun m=> !ds.contains m
def mo (L:Array Bool):List Nat→Nat
  |[]=>0
  |m::r=>(if L.getD m true=true then 0 else 1)+mo L r
theorem pM (L:Array Bool) (i j:Nat):(L.setIfInBounds i true).getD j true=(j==i||L.getD j true):=by
  by_cases h:j=i
  · subst h
    by_cases hl:j<L.size
    · simp [hl]
    · simp [hl]
  · rw [getD_set_ne true (Ne.symm h)]
    simp [h]
theorem Br (L:Array Bool) (i:Nat):∀M:List Nat,i∉M→mo (L.setIfInBounds i true) M=mo L M
  |[],_=>rfl
  | m :: r, h => by
    have h1:m≠i:=fun e=>h (e▸List.mem_cons_self)
    have h2:i∉r:=fun e=>h (List.mem_cons_of_mem _ e)
    simp only [mo,Br L i r h2,pM]
    simp [h1]
theorem EE (L:Array Bool) (i:Nat) (hi:L.getD i true=false):∀M:List Nat,M.Nodup→i∈M→mo L M=mo (L.setIfInBounds i true) M+1
  |[],_,h=>by cases h
  | m :: r, hn, h => by
    obtain ⟨h1,h2⟩:=List.nodup_cons.1 hn
    by_cases e:m=i
    · subst e
      simp only [mo,Br L m r h1,pM,hi]
      simp
      omega
    · have h3:i∈r:=(List.mem_cons.1 h).resolve_left (Ne.symm e)
      simp only [mo,EE L i hi r h2 h3,pM]
      simp [e]
      omega
theorem yR (L:Array Bool):∀M:List Nat,mo L M=0→∀m∈M,L.getD m true=true
  |[],_,_,h=>by cases h
  | x :: r, h0, m, h => by
    simp only [mo] at h0
    have h1:L.getD x true=true:=by
      by_cases q:L.getD x true=true
      · exact q
      · rw [if_neg q] at h0;omega
    rcases List.mem_cons.1 h with rfl|h
    · exact h1
    · exact yR L r (by omega) m h
theorem Bq (L:Array Bool):∀M:List Nat,(∀m∈M,L.getD m true=true)→mo L M=0
  |[],_=>rfl
  | x :: r, h => by
    simp only [mo,Bq L r (fun m hm=>h m (List.mem_cons_of_mem _ hm)),h x List.mem_cons_self]
    rfl
theorem wA {md:Region.Mode} {ops:Array Oper} :∀(M:List Nat) (l L:Array Bool),Bp md ops l M=true→(∀j,l.getD j false=true→L.getD j false=true)→l.size=L.size→mo L M≠0→Region.ready md ops L≠[]
  |[],_,_,_,_,_,h=>absurd rfl h
  | m :: r, l, L, ho, hs, hz, h => by
    simp only [Bp,Bool.and_eq_true] at ho
    obtain ⟨h1,h2⟩:=ho
    by_cases q:L.getD m true=true
    · refine wA r (l.setIfInBounds m true) L h2 (fun j hj=> ?_) (by rw [Array.size_setIfInBounds];exact hz) (fun e=>h (by simp only [mo,e,q];rfl))
      by_cases e:j=m
      · subst e
        by_cases hl:j<L.size
        · simpa [hl] using q
        · rw [Array.getD_eq_getD_getElem?,Array.getElem?_eq_none (by rw [Array.size_setIfInBounds];omega)] at hj
          cases hj
      · exact hs j (by rw [getD_set_ne false (Ne.symm e)] at hj;exact hj)
    · intro he
      have:m∈Region.ready md ops L:=by
        rw [mem_ready]
        refine ⟨by simpa using q,?_⟩
        cases ho:ops[m]? with
        |none=>rw [ho] at h1;cases h1
        | some o =>
          rw [ho] at h1
          refine ⟨o,rfl,fun e hm hb=>hs _ ?_⟩
          simp only [Bool.and_eq_true] at h1
          have:=Array.all_eq_true_iff_forall_mem.1 h1.1 e hm
          simpa [hb] using this
      rw [he] at this
      cases this
theorem qN {md:Region.Mode} {ops:Array Oper} :∀(M:List Nat) (l:Array Bool),Bp md ops l M=true→M.Nodup∧∀m∈M,l.getD m true=false
  |[],_,_=>⟨List.nodup_nil,fun _ h=>by cases h⟩
  | m :: r, l, h => by
    simp only [Bp,Bool.and_eq_true] at h
    obtain ⟨h1,h2⟩:=h
    obtain ⟨h3,h4⟩:=qN r _ h2
    have h5:l.getD m true=false:=by
      cases ho:ops[m]? with
      |none=>rw [ho] at h1;cases h1
      |some o=>rw [ho] at h1;simp only [Bool.and_eq_true] at h1;simpa using h1.2
    refine ⟨List.nodup_cons.2 ⟨fun hm=> ?_,h3⟩,fun x hx=> ?_⟩
    · have:=h4 m hm
      rw [pM] at this
      simp at this
    · rcases List.mem_cons.1 hx with rfl|hx
      · exact h5
      · have:=h4 x hx
        rw [pM] at this
        simp only [Bool.or_eq_false_iff] at this
        exact this.2
theorem th:∀(M:List Nat) (l:Array Bool) (j:Nat),(wB l M).getD j true=(M.contains j||l.getD j true)
  |[],_,_=>by simp [wB]
  | m :: r, l, j => by
    rw [wB,th r,pM,List.contains_cons]
    cases r.contains j<;>cases (j==m)<;>rfl
theorem yQ:∀(M:List Nat) (l:Array Bool),(wB l M).size=l.size
  |[],_=>rfl
  |m::r,l=>by rw [wB,yQ r,Array.size_setIfInBounds]
theorem Bs {md:Region.Mode} {ops:Array Oper} :∀(M:List Nat) (l:Array Bool),(∀m∈M,l.getD m true=false)→mo l M=M.length
  |[],_,_=>rfl
  | m :: r, l, h => by
    rw [mo,Bs (md:=md) (ops:=ops) r l (fun x hx=>h x (List.mem_cons_of_mem _ hx)),h m List.mem_cons_self,List.length_cons]
    simp
    omega
section
variable {P:Program} {md:Region.Mode} {ops:Array Oper} {Q:Exit→Act→World→Prop} {S:World→Prop} {ds:List Nat}
def Ij (P:Program) (md:Region.Mode) (ops:Array Oper) (Q:Exit→Act→World→Prop) (S:World→Prop) (I:(Nat→Bool)→Act→World→Prop) (i:Nat):Prop:=
  ∀ oi, ops[i]? = some oi → ∀ s a w, I s a w → s i = false → (∀ e ∈ oi.after, Region.binds md e = true → s e.on = true) → ∀ K : Act → World → Prop, Shut (∀ a' w', S w' → I (fun j => j == i || s j) a' w' → K a' w') →
    if Region.wanted oi (yielded ops a.tmps)=true then Oper.wp P oi a w K Q else K (a.put oi.dst undef) w
def xY (P:Program) (md:Region.Mode) (ops:Array Oper) (Q:Exit→Act→World→Prop) (S:World→Prop) (I:(Nat→Bool)→Act→World→Prop):List Nat→Prop
  |[]=>True
  |i::r=>Ij P md ops Q S I i∧xY P md ops Q S I r
theorem wz {I:(Nat→Bool)→Act→World→Prop} :∀ {M:List Nat},xY P md ops Q S I M→∀i∈M,Ij P md ops Q S I i
  |[],_,_,h=>by cases h
  | m :: r, hs, i, h => by
    rcases List.mem_cons.1 h with rfl|h
    · exact hs.1
    · exact wz hs.2 i h
theorem Nw {I:(Nat→Bool)→Act→World→Prop} {i:Nat} {oi:Oper} (N:Option Tmp)
    (h:∀s a w,I s a w→s i=false→(∀e∈oi.after,Region.binds md e=true→s e.on=true)→∀K:Act→World→Prop,Shut (∀a' w',S w'→I (fun j=>j==i||s j) a' w'→K a' w')→if Region.wanted oi (yielded ops a.tmps)=true then Oper.wp P oi a w K Q else K (a.put N undef) w)
    (hi:ops[i]? =some oi:=by rfl) (hN:oi.dst=N:=by rfl):Ij P md ops Q S I i:=by
  subst hN
  intro o ho
  obtain rfl:=Option.some.inj (hi.symm.trans ho)
  exact h
theorem afY {l l':Array Bool} {M:List Nat} {fuel:Nat} (I:(Nat→Bool)→Act→World→Prop) (Hi:IT md ops M ds l l'=true) (NT:xY P md ops Q S I M)
    (zf:∀a w,S w→I (fun j=>l'.getD j true) a w→bY P md ops Q S ds fuel l' a w):
    ∀(n:Nat) (L:Array Bool) (a:Act) (w:World),mo L M=n→L.size=l.size→(∀j,M.contains j=false→L.getD j true=l.getD j true)→S w→I (fun j=>L.getD j true) a w→bY P md ops Q S ds (fuel+n) L a w:=by
  simp only [IT,Bool.and_eq_true,beq_iff_eq] at Hi
  obtain ⟨⟨⟨h1,h2⟩,h3⟩,h4⟩:=Hi
  obtain ⟨hn,hf⟩:=qN M l h1
  have hle:∀(L:Array Bool),L.size=l.size→(∀j,M.contains j=false→L.getD j true=l.getD j true)→∀j,l.getD j false=true→L.getD j false=true:=by
    intro L hz ho j hj
    have fl:j<l.size:=by
      rcases Nat.lt_or_ge j l.size with h|h
      · exact h
      · rw [Array.getD_eq_getD_getElem?,Array.getElem?_eq_none h] at hj
        cases hj
    have e1:l.getD j true=true:=by simpa [fl] using hj
    have hc:M.contains j=false:=by
      rw [Bool.eq_false_iff]
      intro hc
      have:=hf j (by simpa using hc)
      rw [e1] at this
      cases this
    have:=ho j hc
    rw [e1] at this
    have RZ:j<L.size:=by omega
    simpa [RZ] using this
  intro n
  induction n with
  | zero =>
    intro L a w hc hz ho hS hI
    have:L=l':=by
      subst h2
      have hg:∀j,L.getD j true=(wB l M).getD j true:=by
        intro j
        rw [th]
        by_cases q:M.contains j=true
        · rw [q,Bool.true_or]
          exact yR L M hc j (by simpa using q)
        · rw [Bool.not_eq_true] at q
          rw [q,Bool.false_or]
          exact ho j q
      apply Array.ext
      · rw [yQ];exact hz
      · intro i C3 hi2
        have:=hg i
        simpa [C3,hi2] using this
    subst this
    exact zf a w hS hI
  | succ n ih =>
    intro L a w hc hz ho hS hI
    have hr:Region.ready md ops L≠[]:=wA M l L h1 (hle L hz ho) hz.symm (by omega)
    refine ⟨fun h=>absurd h hr,fun i hi=> ?_⟩
    obtain ⟨hiu,oi,Zp,uC⟩:=mem_ready.1 hi
    have hiM:i∈M:=by
      by_cases q:M.contains i=true
      · simpa using q
      · exfalso
        rw [Bool.not_eq_true] at q
        have e1:=ho i q
        rw [hiu] at e1
        have fl:i<ops.size:=(Array.getElem?_eq_some_iff.1 Zp).1
        have h5:=List.all_eq_true.1 h3 i (List.mem_range.2 fl)
        have e2:l'.getD i true=false:=by rw [←h2,th,q,Bool.false_or];exact e1.symm
        rw [e2,Bool.false_or] at h5
        have:mo L M=0:=by
          apply Bq
          intro m hm
          have h6:=List.all_eq_true.1 h5 m hm
          rw [Zp] at h6
          obtain ⟨e,he,h7⟩:=Array.any_eq_true'.1 h6
          simp only [Bool.and_eq_true,beq_iff_eq] at h7
          have h8:=uC e he h7.1
          rw [h7.2] at h8
          rcases Nat.lt_or_ge m L.size with h|h
          · simpa [h] using h8
          · rw [Array.getD_eq_getD_getElem?,Array.getElem?_eq_none h] at h8
            cases h8
        omega
    have aj1:i∉ds:=by
      have:=List.all_eq_true.1 h4 i hiM
      simpa using this
    have agn:∀e∈oi.after,Region.binds md e=true→L.getD e.on true=true:=by
      intro e he hb
      have h8:=uC e he hb
      rcases Nat.lt_or_ge e.on L.size with h|h
      · simpa [h] using h8
      · rw [Array.getD_eq_getD_getElem?,Array.getElem?_eq_none h] at h8
        cases h8
    refine wpOp_step Zp (fun K' hK=>wz NT i hiM oi Zp _ a w hI hiu agn K' (fun a' w' hS' hI'=>hK a' w' ⟨fun _ _=>hS',?_⟩))
    refine ih (L.setIfInBounds i true) a' w' ?_ (by rw [Array.size_setIfInBounds];exact hz) (fun j hj=> ?_) hS' ?_
    · have:=EE L i hiu M hn hiM
      omega
    · have Af:j≠i:=by
        intro e
        subst e
        have:M.contains j=true:=by simpa using hiM
        rw [this] at hj
        cases hj
      rw [getD_set_ne true (Ne.symm Af)]
      exact ho j hj
    · have:(fun j=>(L.setIfInBounds i true).getD j true)=(fun j=>j==i||L.getD j true):=funext (fun j=>pM L i j)
      rw [this]
      exact hI'
theorem IV (M:List Nat) (l':Array Bool) {l:Array Bool} {fuel:Nat} {a:Act} {w:World} (I:(Nat→Bool)→Act→World→Prop) (hI:I (fun j=>l.getD j true) a w) (hS:S w) (NT:xY P md ops Q S I M)
    (zf:∀a w,S w→I (fun j=>l'.getD j true) a w→bY P md ops Q S ds fuel l' a w)
    (Hi:IT md ops M ds l l'=true:=by kernel_rfl):bY P md ops Q S ds (fuel+M.length) l a w:=by
  have h:=Hi
  simp only [IT,Bool.and_eq_true,beq_iff_eq] at h
  obtain ⟨hn,hf⟩:=qN M l h.1.1.1
  exact afY I Hi NT zf M.length l a w (Bs (md:=md) (ops:=ops) M l hf) rfl (fun _ _=>rfl) hS hI
end
end Go.Proofs.YtihekdlcfohkkaaGreatDoorW.PrintMore
