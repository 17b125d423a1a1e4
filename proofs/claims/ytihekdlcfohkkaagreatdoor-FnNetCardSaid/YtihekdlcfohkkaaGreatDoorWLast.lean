-- PRINTED BY print.sh 35421559b90ae4d0a3588c463048766b98c2df88dd9212a6774a882060cdf62d: not written by this session
import Derived.OrdersHeld
import Derived.Deep.RegionHeld3
import Derived.Laws.BitsLemmas
import Derived.RowKit
namespace Go.Proofs.YtihekdlcfohkkaaGreatDoorW.PrintLast
section
variable {P:Program} {ops:Array Oper} {Q:Exit→Act→World→Prop} {md:Region.Mode} {S:World→Prop} {ds:List Nat}
def Region.mC (md:Region.Mode) (ops:Array Oper) (i:Nat):Nat→Nat→Bool
  |0,_=>false
  | fuel + 1, d => match ops[d]? with
    |some o=>o.after.any fun e=>Region.binds md e&&(e.on==i||Region.mC md ops i fuel e.on)
    |none=>false
def Region.uc (md:Region.Mode) (ops:Array Oper) (listed:Array Bool):Bool:=
  (List.range ops.size).all fun j=> !listed.getD j false||match ops[j]? with
    |some o=>o.after.all fun e=> !Region.binds md e||listed.getD e.on false
    |none=>true
def Region.G5 (md:Region.Mode) (ops:Array Oper) (listed:Array Bool) (ds:List Nat) (i:Nat):Bool:=
  ds.all fun d=>listed.getD d true||Region.mC md ops i ops.size d
def jC (md:Region.Mode) (ops:Array Oper) (listed:Array Bool):Prop:=
  ∀j oj,ops[j]? =some oj→listed.getD j false=true→∀e∈oj.after,Region.binds md e=true→listed.getD e.on false=true
theorem Region.BW {listed:Array Bool} (h:Region.uc md ops listed=true):jC md ops listed:=by
  intro j oj hj hl e he hb
  have eO:j<ops.size:=(Array.getElem?_eq_some_iff.1 hj).1
  have h1:=List.all_eq_true.1 h j (List.mem_range.2 eO)
  simp only [hl,hj,Bool.not_true,Bool.false_or] at h1
  have h2:=Array.all_eq_true_iff_forall_mem.1 h1 e he
  simpa [hb] using h2
theorem jC.set {listed:Array Bool} {i:Nat} (h:jC md ops listed) (hi:i∈Region.ready md ops listed):jC md ops (listed.setIfInBounds i true):=by
  obtain ⟨_,oi,V8,tY⟩:=mem_ready.1 hi
  intro j oj hj hl e he hb
  by_cases Ku:i=j
  · subst Ku
    have:oj=oi:=Option.some.inj (hj.symm.trans V8)
    subst this
    exact getD_set_true (tY e he hb)
  · rw [getD_set_ne false Ku] at hl
    exact getD_set_true (h j oj hj hl e he hb)
theorem Region.tj {listed:Array Bool} {i:Nat} (hc:jC md ops listed):∀(fuel d:Nat),Region.mC md ops i fuel d=true→listed.getD d false=true→listed.getD i false=true
  |0,_,h,_=>by simp [Region.mC] at h
  | fuel + 1, d, h, hl => by
    unfold Region.mC at h
    cases ho:ops[d]? with
    |none=>rw [ho] at h;simp at h
    | some o =>
      rw [ho] at h
      obtain ⟨e,he,h1⟩:=Array.any_eq_true'.1 h
      simp only [Bool.and_eq_true,Bool.or_eq_true,beq_iff_eq] at h1
      have hle:=hc d o ho hl e he h1.1
      rcases h1.2 with h2|h2
      · rw [←h2];exact hle
      · exact Region.tj hc fuel e.on h2 hle
theorem Region.vW {listed:Array Bool} {i d fuel:Nat} (hc:jC md ops listed) (hr:Region.mC md ops i fuel d=true) (Hf:listed.getD i true=false):d∉Region.ready md ops listed:=by
  intro hd
  obtain ⟨_,o,ho,tY⟩:=mem_ready.1 hd
  have hi:listed.getD i false=true:=by
    cases fuel with
    |zero=>simp [Region.mC] at hr
    | succ n =>
      unfold Region.mC at hr
      rw [ho] at hr
      obtain ⟨e,he,h1⟩:=Array.any_eq_true'.1 hr
      simp only [Bool.and_eq_true,Bool.or_eq_true,beq_iff_eq] at h1
      have hle:=tY e he h1.1
      rcases h1.2 with h2|h2
      · rw [←h2];exact hle
      · exact Region.tj hc n e.on h2 hle
  rcases Nat.lt_or_ge i listed.size with h'|h'
  · simp [h'] at Hf hi
    rw [Hf] at hi
    cases hi
  · simp [Array.getElem?_eq_none h'] at Hf
def bO (P:Program) (md:Region.Mode) (ops:Array Oper) (Q:Exit→Act→World→Prop) (S:World→Prop) (ds:List Nat):Nat→Array Bool→Act→World→Prop
  |0,listed,a,w=>Region.ready md ops listed=[]∧Q .normal a w
  | fuel + 1, listed, a, w =>
    (Region.ready md ops listed=[]→Q .normal a w)∧
    ∀i∈Region.ready md ops listed,wpOp P ops Q i (fun a' w'=>(i∉ds→S w→S w')∧bO P md ops Q S ds fuel (listed.setIfInBounds i true) a' w') a w
theorem rJ:∀(fuel:Nat) (listed:Array Bool) (a:Act) (w:World),bO P md ops Q S ds fuel listed a w→wpAny P md ops Q fuel listed a w
  |0,_,_,_,h=>h
  |fuel+1,_,_,_,h=>⟨h.1,fun i hi=>wpOp_mono (fun a' w' h'=>rJ fuel _ a' w' h'.2) (h.2 i hi)⟩
theorem vS {i:Nat} {oi:Oper} {v:Value} (hi:ops[i]? =some oi) (L4:∀(j:Nat) (o:Oper) cs b,ops[j]? =some o→o.op≠ .select cs b)
    (hQ:∀c a w,Q (.panic c) (a.put oi.dst v) w→Q (.panic c) a w) (n:Nat):
    ∀ (fuel : Nat) (listed : Array Bool) (a : Act) (w : World),
      (∀j oj,ops[j]? =some oj→j≠i→listed.getD j true=false→(∀e∈oj.after,Region.binds md e=true→e.on≠i)→oi.apart ops oj=true)→
      jC md ops listed→(∀d∈ds,listed.getD d true=false→Region.mC md ops i n d=true)→
      i∈Region.ready md ops listed→YieldsIf P ops S oi v a→S w→
      bO P md ops Q S ds fuel (listed.setIfInBounds i true) (a.put oi.dst v) w→bO P md ops Q S ds (fuel+1) listed a w:=by
  intro fuel
  induction fuel with
  | zero =>
    intro listed a w _ _ _ hr hy hS H
    refine ⟨fun h=>(by rw [h] at hr;cases hr),fun j hj=> ?_⟩
    by_cases yO:j=i
    · subst yO;exact hy.wpOp hi hS ⟨fun _ h=>h,H⟩
    · have:=ready_mono hj yO
      rw [H.1] at this
      cases this
  | succ fuel ih =>
    intro listed a w Dn hc hd hr hy hS H
    refine ⟨fun h=>(by rw [h] at hr;cases hr),fun j hj=> ?_⟩
    by_cases yO:j=i
    · subst yO;exact hy.wpOp hi hS ⟨fun _ h=>h,H⟩
    · have h1:=H.2 j (ready_mono hj yO)
      obtain ⟨Fo,oj,TJ,tY⟩:=mem_ready.1 hj
      have JJ:=(mem_ready.1 hr).1
      have TK:∀e∈oj.after,Region.binds md e=true→e.on≠i:=fun e he hb heq=>by
        have h1:=tY e he hb
        rw [heq] at h1
        rcases Nat.lt_or_ge i listed.size with h'|h'
        · simp [h'] at JJ h1;rw [JJ] at h1;cases h1
        · simp [Array.getElem?_eq_none h'] at h1
      have hjd:j∉ds:=fun hm=>Region.vW hc (hd j hm Fo) JJ hj
      have h2:=wpOp_putIf TJ (Dn j oj TJ yO Fo TK) (fun cs b=>L4 i oi cs b hi) (fun cs b=>L4 j oj cs b TJ) hQ hy h1
      have Fz:∀k ok,ops[k]? =some ok→k≠i→(listed.setIfInBounds j true).getD k true=false→
          (∀e∈ok.after,Region.binds md e=true→e.on≠i)→oi.apart ops ok=true:=fun k ok hk TP Hf hno=>by
        refine Dn k ok hk TP ?_ hno
        by_cases Q6:j=k
        · subst Q6;exact Fo
        · rw [getD_set_ne true Q6] at Hf;exact Hf
      have hd':∀d∈ds,(listed.setIfInBounds j true).getD d true=false→Region.mC md ops i n d=true:=fun d hm Hf=>by
        refine hd d hm ?_
        by_cases Q6:j=d
        · subst Q6;exact Fo
        · rw [getD_set_ne true Q6] at Hf;exact Hf
      refine wpOp_mono (fun a' w' h3=>⟨h3.2.1,ih (listed.setIfInBounds j true) a' w' Fz (hc.set hj) hd' (ready_mono hr (Ne.symm yO)) h3.1 (h3.2.1 hjd hS) ?_⟩) h2
      rw [Array.setIfInBounds_comm _ _ yO]
      exact h3.2.2
theorem yW {i:Nat} {oi:Oper} {v:Value} (hi:ops[i]? =some oi) (L4:∀(j:Nat) (o:Oper) cs b,ops[j]? =some o→o.op≠ .select cs b)
    (hQ:∀c a w,Q (.panic c) (a.put oi.dst v) w→Q (.panic c) a w):
    ∀ (fuel : Nat) (listed : Array Bool) (a : Act) (w : World),
      (∀j oj,ops[j]? =some oj→j≠i→listed.getD j true=false→(∀e∈oj.after,Region.binds md e=true→e.on≠i)→oi.apart ops oj=true)→
      i∈Region.ready md ops listed→Yields P ops oi v a→
      bO P md ops Q S ds fuel (listed.setIfInBounds i true) (a.put oi.dst v) w→bO P md ops Q S ds (fuel+1) listed a w:=by
  intro fuel
  induction fuel with
  | zero =>
    intro listed a w _ hr hy H
    refine ⟨fun h=>(by rw [h] at hr;cases hr),fun j hj=> ?_⟩
    by_cases yO:j=i
    · subst yO;exact (hy.yieldsIf (S:=fun _=>True)).wpOp hi trivial ⟨fun _ h=>h,H⟩
    · have:=ready_mono hj yO
      rw [H.1] at this
      cases this
  | succ fuel ih =>
    intro listed a w Dn hr hy H
    refine ⟨fun h=>(by rw [h] at hr;cases hr),fun j hj=> ?_⟩
    by_cases yO:j=i
    · subst yO;exact (hy.yieldsIf (S:=fun _=>True)).wpOp hi trivial ⟨fun _ h=>h,H⟩
    · have h1:=H.2 j (ready_mono hj yO)
      obtain ⟨Fo,oj,TJ,tY⟩:=mem_ready.1 hj
      have JJ:=(mem_ready.1 hr).1
      have TK:∀e∈oj.after,Region.binds md e=true→e.on≠i:=fun e he hb heq=>by
        have h1:=tY e he hb
        rw [heq] at h1
        rcases Nat.lt_or_ge i listed.size with h'|h'
        · simp [h'] at JJ h1;rw [JJ] at h1;cases h1
        · simp [Array.getElem?_eq_none h'] at h1
      have h2:=wpOp_put TJ (Dn j oj TJ yO Fo TK) (fun cs b=>L4 i oi cs b hi) (fun cs b=>L4 j oj cs b TJ) hQ hy h1
      have Fz:∀k ok,ops[k]? =some ok→k≠i→(listed.setIfInBounds j true).getD k true=false→
          (∀e∈ok.after,Region.binds md e=true→e.on≠i)→oi.apart ops ok=true:=fun k ok hk TP Hf hno=>by
        refine Dn k ok hk TP ?_ hno
        by_cases Q6:j=k
        · subst Q6;exact Fo
        · rw [getD_set_ne true Q6] at Hf;exact Hf
      refine wpOp_mono (fun a' w' h3=>⟨h3.2.1,ih (listed.setIfInBounds j true) a' w' Fz (ready_mono hr (Ne.symm yO)) h3.1 ?_⟩) h2
      rw [Array.setIfInBounds_comm _ _ yO]
      exact h3.2.2
theorem xm {i:Nat} {oi:Oper} {v:Value} {fuel:Nat} {listed:Array Bool} {a:Act} {w:World} (hi:ops[i]? =some oi)
    (hs:Region.noSelect ops=true) (hf:Region.free md ops listed i=true) (hr:(Region.ready md ops listed).contains i=true)
    (hc:Region.uc md ops listed=true) (hl:Region.G5 md ops listed ds i=true)
    (hQ:∀c a w,Q (.panic c) (a.put oi.dst v) w→Q (.panic c) a w) (hy:YieldsIf P ops S oi v a) (hS:S w)
    (h:bO P md ops Q S ds fuel (listed.setIfInBounds i true) (a.put oi.dst v) w):bO P md ops Q S ds (fuel+1) listed a w:=
  vS hi (Region.noSelect_spec hs) hQ ops.size fuel listed a w (Region.free_spec hi hf) (Region.BW hc)
    (fun d hm Hf=>by have:=List.all_eq_true.1 hl d hm;rw [Hf] at this;simpa using this) (by simpa using hr) hy hS h
theorem yX {rs:List Nat} {fuel:Nat} {listed:Array Bool} {a:Act} {w:World} (hr:Region.ready md ops listed=rs) (jy:rs≠[])
    (h:∀i∈rs,wpOp P ops Q i (fun a' w'=>(i∉ds→S w→S w')∧bO P md ops Q S ds fuel (listed.setIfInBounds i true) a' w') a w):bO P md ops Q S ds (fuel+1) listed a w:=
  ⟨fun h0=>absurd (hr▸h0) jy,hr▸h⟩
theorem xo {listed:Array Bool} {a:Act} {w:World} (hr:Region.ready md ops listed=[]) (h:Q .normal a w):
    ∀fuel,bO P md ops Q S ds fuel listed a w
  |0=>⟨hr,h⟩
  |_+1=>⟨fun _=>h,by rw [hr];simp⟩
theorem xk {id:Nat} {a:Act} {w:World} (hm:P.follows .mixedOrders=true)
    (h:bO P .any ops Q S ds ops.size (Array.replicate ops.size false) a { w with drawn:=w.drawn+1}):(Code.region id ops true).wp P Q a w:=
  wp_region_any hm (rJ _ _ _ _ h)
end
section
variable {P:Program} {ops:Array Oper} {Q:Exit→Act→World→Prop} {md:Region.Mode} {S:World→Prop} {ds:List Nat}
def fX (P:Program) (md:Region.Mode) (ops:Array Oper) (Q:Exit→Act→World→Prop) (S:World→Prop) (ds:List Nat) (fuel:Nat) (listed:Array Bool) (a:Act) (w:World) (rs:List Nat):Prop:=
  ∀i∈rs,wpOp P ops Q i (fun a' w'=>(i∉ds→S w→S w')∧bO P md ops Q S ds fuel (listed.setIfInBounds i true) a' w') a w
theorem fX.nil {fuel:Nat} {listed:Array Bool} {a:Act} {w:World} :fX P md ops Q S ds fuel listed a w []:=fun _ h=>by cases h
theorem fX.cons {fuel:Nat} {listed:Array Bool} {a:Act} {w:World} {i:Nat} {o:Oper} {rs:List Nat} (ho:ops[i]? =some o) (hd:i∉ds)
    (h:∀K':Act→World→Prop,Shut (∀a w,S w→(S w→bO P md ops Q S ds fuel (listed.setIfInBounds i true) a w)→K' a w)→if Region.wanted o (yielded ops a.tmps)=true then Oper.wp P o a w K' Q else K' (a.put o.dst undef) w)
    (hs:fX P md ops Q S ds fuel listed a w rs):fX P md ops Q S ds fuel listed a w (i::rs):=fun j hj=>by
  rcases List.mem_cons.1 hj with rfl|hj
  · exact wpOp_step ho (fun K' hK=>h K' (fun a w hS hW=>hK a w ⟨fun _ _=>hS,hW hS⟩))
  · exact hs j hj
theorem fX.JU {fuel:Nat} {listed:Array Bool} {a:Act} {w:World} {i:Nat} {o:Oper} {rs:List Nat} (ho:ops[i]? =some o) (hd:i∈ds)
    (h:∀K':Act→World→Prop,Shut (∀a w,bO P md ops Q S ds fuel (listed.setIfInBounds i true) a w→K' a w)→if Region.wanted o (yielded ops a.tmps)=true then Oper.wp P o a w K' Q else K' (a.put o.dst undef) w)
    (hs:fX P md ops Q S ds fuel listed a w rs):fX P md ops Q S ds fuel listed a w (i::rs):=fun j hj=>by
  rcases List.mem_cons.1 hj with rfl|hj
  · exact wpOp_step ho (fun K' hK=>h K' (fun a w hW=>hK a w ⟨fun hn=>absurd hd hn,hW⟩))
  · exact hs j hj
theorem mA {rs:List Nat} {fuel:Nat} {listed:Array Bool} {a:Act} {w:World} (hr:Region.ready md ops listed=rs) (jy:rs≠[])
    (h:fX P md ops Q S ds fuel listed a w rs):bO P md ops Q S ds (fuel+1) listed a w:=yX hr jy h
theorem ef {id n:Nat} {a:Act} {w:World} (l:Array Bool) (hm:P.follows .mixedOrders=true) (hn:ops.size=n) (hl:Array.replicate n false=l) (hS:S w.drew)
    (h:S w.drew→bO P .any ops Q S ds n l a w.drew):(Code.region id ops true).wp P Q a w:=by
  subst hn
  subst hl
  exact xk hm (h hS)
def CI (md:Region.Mode) (ops:Array Oper) (ds:List Nat) (l l':Array Bool) (i:Nat):Bool:=
  Region.noSelect ops&&Region.free md ops l i&&(Region.ready md ops l).contains i&&Region.uc md ops l&&Region.G5 md ops l ds i&&(l.setIfInBounds i true==l')
theorem GA {i:Nat} {N:Option Tmp} {oi:Oper} {v:Value} {fuel:Nat} {l:Array Bool} {a:Act} {w:World} (l':Array Bool) (hi:ops[i]? =some oi) (hN:oi.dst=N) (hc:CI md ops ds l l' i=true)
    (hQ:∀c a w,Q (.panic c) (a.put oi.dst v) w→Q (.panic c) a w) (hy:YieldsIf P ops S oi v a) (hS:S w) {a':Act} (ha:a.put N v=a')
    (h:bO P md ops Q S ds fuel l' a' w):bO P md ops Q S ds (fuel+1) l a w:=by
  subst ha
  subst hN
  simp only [CI,Bool.and_eq_true,beq_iff_eq] at hc
  obtain ⟨⟨⟨⟨⟨h1,h2⟩,h3⟩,h4⟩,h5⟩,h6⟩:=hc
  subst h6
  exact xm hi h1 h2 h3 h4 h5 hQ hy hS h
def Qa (md:Region.Mode) (ops:Array Oper) (l l':Array Bool) (i:Nat):Bool:=
  Region.noSelect ops&&Region.free md ops l i&&(Region.ready md ops l).contains i&&(l.setIfInBounds i true==l')
theorem C1 {i:Nat} {N:Option Tmp} {oi:Oper} {v:Value} {fuel:Nat} {l:Array Bool} {a:Act} {w:World} (l':Array Bool) (hi:ops[i]? =some oi) (hN:oi.dst=N) (hc:Qa md ops l l' i=true)
    (hQ:∀c a w,Q (.panic c) (a.put oi.dst v) w→Q (.panic c) a w) (hy:Yields P ops oi v a) {a':Act} (ha:a.put N v=a')
    (h:bO P md ops Q S ds fuel l' a' w):bO P md ops Q S ds (fuel+1) l a w:=by
  subst ha
  subst hN
  simp only [Qa,Bool.and_eq_true,beq_iff_eq] at hc
  obtain ⟨⟨⟨h1,h2⟩,h3⟩,h6⟩:=hc
  subst h6
  exact yW hi (Region.noSelect_spec h1) hQ fuel l a w (Region.free_spec hi h2) (by simpa using h3) hy h
def uS (md:Region.Mode) (ops:Array Oper) (l l':Array Bool) (i:Nat):Bool:=(Region.ready md ops l==[i])&&(l.setIfInBounds i true==l')
theorem Lv {i:Nat} {N:Option Tmp} {oi:Oper} {fuel:Nat} {l:Array Bool} {a:Act} {w:World} (l':Array Bool) (hi:ops[i]? =some oi) (hN:oi.dst=N) (hc:uS md ops l l' i=true) (hd:i∉ds)
    (h:∀K:Act→World→Prop,Shut (∀a' w',S w'→(S w'→bO P md ops Q S ds fuel l' a' w')→K a' w')→if Region.wanted oi (yielded ops a.tmps)=true then Oper.wp P oi a w K Q else K (a.put N undef) w):
    bO P md ops Q S ds (fuel+1) l a w:=by
  subst hN
  simp only [uS,Bool.and_eq_true,beq_iff_eq] at hc
  obtain ⟨h1,h2⟩:=hc
  subst h2
  exact mA h1 (by simp) (fX.cons hi hd (fun K hK=>h K hK) fX.nil)
theorem mm {i:Nat} {N:Option Tmp} {oi:Oper} {fuel:Nat} {l:Array Bool} {a:Act} {w:World} (l':Array Bool) (hi:ops[i]? =some oi) (hN:oi.dst=N) (hc:uS md ops l l' i=true) (hd:i∈ds)
    (h:∀K:Act→World→Prop,Shut (∀a' w',bO P md ops Q S ds fuel l' a' w'→K a' w')→if Region.wanted oi (yielded ops a.tmps)=true then Oper.wp P oi a w K Q else K (a.put N undef) w):
    bO P md ops Q S ds (fuel+1) l a w:=by
  subst hN
  simp only [uS,Bool.and_eq_true,beq_iff_eq] at hc
  obtain ⟨h1,h2⟩:=hc
  subst h2
  exact mA h1 (by simp) (fX.JU hi hd (fun K hK=>h K hK) fX.nil)
theorem fm {l:Array Bool} {a:Act} {w:World} {n:Nat} (hr:(Region.ready md ops l==[])=true) (h:Q .normal a w):bO P md ops Q S ds n l a w:=xo (by simpa using hr) h n
theorem Oc {i j:Nat} {Ni Nj:Option Tmp} {oi oj:Oper} {fuel:Nat} {l:Array Bool} {a:Act} {w:World} (li lj:Array Bool) (hi:ops[i]? =some oi) (hj:ops[j]? =some oj) (hNi:oi.dst=Ni) (hNj:oj.dst=Nj)
    (hc:(Region.ready md ops l==[i,j]&&l.setIfInBounds i true==li&&l.setIfInBounds j true==lj)=true) (hdi:i∉ds) (hdj:j∉ds)
    (h1:∀K:Act→World→Prop,Shut (∀a' w',S w'→(S w'→bO P md ops Q S ds fuel li a' w')→K a' w')→if Region.wanted oi (yielded ops a.tmps)=true then Oper.wp P oi a w K Q else K (a.put Ni undef) w)
    (h2:∀K:Act→World→Prop,Shut (∀a' w',S w'→(S w'→bO P md ops Q S ds fuel lj a' w')→K a' w')→if Region.wanted oj (yielded ops a.tmps)=true then Oper.wp P oj a w K Q else K (a.put Nj undef) w):
    bO P md ops Q S ds (fuel+1) l a w:=by
  subst hNi
  subst hNj
  simp only [Bool.and_eq_true,beq_iff_eq] at hc
  obtain ⟨⟨h3,h4⟩,h5⟩:=hc
  subst h4
  subst h5
  exact mA h3 (by simp) (fX.cons hi hdi (fun K hK=>h1 K hK) (fX.cons hj hdj (fun K hK=>h2 K hK) fX.nil))
def mD:Act→List (Tmp×Value)→Act
  |a,[]=>a
  |a,(n,v)::r=>mD (a.put (some n) v) r
theorem QO {σ:Type} {fuel:Nat} {l:Array Bool} {a:Act} {w:World} (Rk:Nat) (l':Array Bool) (ns:σ→List (Tmp×Value)) (F:σ→World→Prop)
    (xU:∀s w',F s w'→bO P md ops Q S ds Rk l' (mD a (ns s)) w')
    (h:(∀s w',F s w'→bO P md ops Q S ds Rk l' (mD a (ns s)) w')→bO P md ops Q S ds fuel l a w):bO P md ops Q S ds fuel l a w:=h xU
theorem dF {fuel:Nat} {l:Array Bool} {a a':Act} {w:World} (ha:a=a') (h:bO P md ops Q S ds fuel l a' w):bO P md ops Q S ds fuel l a w:=by
  subst ha
  exact h
theorem Rn {oi:Oper} {N:Option Tmp} {a:Act} {w:World} {K:Act→World→Prop} (f:FuncId) (args:Array Value) (hw:Region.wanted oi (yielded ops a.tmps)=true) (hN:oi.dst=N) (jR:(execOp a.eval oi).run P w= .ok (.enter f args) w)
    (h:Calls P f args w fun e w'=>∃v,e= .returned v∧K (a.put N v) w'):if Region.wanted oi (yielded ops a.tmps)=true then Oper.wp P oi a w K Q else K (a.put N undef) w:=by
  rw [if_pos hw]
  subst hN
  unfold Oper.wp
  rw [jR,Oper.upon_enter]
  refine h.mono fun e w'' hh=> ?_
  obtain ⟨v,rfl,hk⟩:=hh
  exact hk
theorem wK {f:FuncId} {fn:Func} (hf:P.funcs[f]? =some fn) (qw:(fn.name== "runtime.NumGoroutine")=false) (hb:fn.body.isSome=true) (args:Array Value) (w:World):(callFunc f args).run P w= .ok (.enter f args) w:=by
  have h1:fn.name≠ "runtime.NumGoroutine" :=by simpa using qw
  obtain ⟨c,hc⟩:=Option.isSome_iff_exists.1 hb
  simp [callFunc,hf,h1,hc]
theorem gw {oi:Oper} {N:Option Tmp} {a:Act} {w:World} {K:Act→World→Prop} {f:FuncId} {fn:Func} {as:Array Operand} {ts:Array TypeId} (hf:P.funcs[f]? =some fn) (qw:(fn.name== "runtime.NumGoroutine")=false) (hb:fn.body.isSome=true) (args:Array Value)
    (hw:Region.wanted oi (yielded ops a.tmps)=true) (hN:oi.dst=N) (PB:oi.op= .call { callee:= .value (.func f),args:=as,argTypes:=ts}) (rS:as.map a.eval=args)
    (h:Calls P f args w fun e w'=>∃v,e= .returned v∧K (a.put N v) w'):if Region.wanted oi (yielded ops a.tmps)=true then Oper.wp P oi a w K Q else K (a.put N undef) w:=by
  refine Rn f args hw hN ?_ h
  have he:=wK hf qw hb args w
  unfold execOp
  simp [PB,resolve,Deferred.ofValue,invoke,Act.eval,rS,he]
theorem BU {rest:List Oper} {oi:Oper} {a:Act} {w:World} (N:Option Tmp) (hd:oi.dst=N) (hg:oi.guard=none) {f:FuncId} {fn:Func} {as:Array Operand} {ts:Array TypeId} (hf:P.funcs[f]? =some fn) (qw:(fn.name== "runtime.NumGoroutine")=false) (hb:fn.body.isSome=true) (args:Array Value)
    (PB:oi.op= .call { callee:= .value (.func f),args:=as,argTypes:=ts}) (rS:as.map a.eval=args)
    (h:Calls P f args w fun e w'=>∃v,e= .returned v∧wpList P ops Q rest (a.put N v) w'):wpList P ops Q (oi::rest) a w:=by
  refine wpList_plain hg fun K hK=> ?_
  have he:=wK hf qw hb args w
  have jR:(execOp a.eval oi).run P w= .ok (.enter f args) w:=by
    unfold execOp
    simp [PB,resolve,Deferred.ofValue,invoke,Act.eval,rS,he]
  unfold Oper.wp
  rw [jR,Oper.upon_enter]
  refine h.mono fun e w'' hh=> ?_
  obtain ⟨v,rfl,hk⟩:=hh
  subst hd
  exact hK _ _ hk
theorem uN {oi:Oper} {N:Option Tmp} {a:Act} {w w1:World} {v:Value} {K:Act→World→Prop} (hw:Region.wanted oi (yielded ops a.tmps)=true) (hN:oi.dst=N) (jR:(execOp a.eval oi).run P w= .ok (.value v) w1)
    (h:K (a.put N v) w1):if Region.wanted oi (yielded ops a.tmps)=true then Oper.wp P oi a w K Q else K (a.put N undef) w:=by
  rw [if_pos hw]
  subst hN
  unfold Oper.wp
  rw [jR]
  exact h
theorem kW {oi:Oper} {a:Act} {w w1:World} {K:Act→World→Prop} (hw:Region.wanted oi (yielded ops a.tmps)=true) (hN:oi.dst=none) (jR:(execOp a.eval oi).run P w= .ok .skip w1)
    (h:K a w1):if Region.wanted oi (yielded ops a.tmps)=true then Oper.wp P oi a w K Q else K (a.put none undef) w:=by
  rw [if_pos hw]
  unfold Oper.wp
  rw [jR]
  show K (a.put oi.dst undef) w1
  rw [hN]
  exact h
theorem bX (n:Int):IntKind.i64.wrap n=Go.RowKit.wrap64 n:=by unfold Go.RowKit.wrap64;exact IntKind.wrap_i64 n
theorem cL (n:Int):IntKind.i32.wrap n=Go.RowKit.wrap32 n:=by unfold Go.RowKit.wrap32;exact IntKind.wrap_i32 n
end
end Go.Proofs.YtihekdlcfohkkaaGreatDoorW.PrintLast
