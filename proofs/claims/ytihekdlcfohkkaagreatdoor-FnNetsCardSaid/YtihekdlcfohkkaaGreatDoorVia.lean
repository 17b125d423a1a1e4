import Derived.Test.YtihekdlcfohkkaaGreatDoorWMore
import Derived.KernelRfl
import Derived.Lib.SliceRun
import Derived.Laws.CopyOwn
import Derived.Deep.RegionLaw
namespace Go.Proofs.YtihekdlcfohkkaaGreatDoorW.PrintMore
open Go.RowKit Go.Proofs.YtihekdlcfohkkaaGreatDoorW.PrintWords Go.Proofs.YtihekdlcfohkkaaGreatDoorW.PrintLast
section
variable {P:Program} {ops:Array Oper} {Q:Exit→Act→World→Prop}
theorem zj {f:FuncId} {c:Operand} {cap:Array Value} {as:Array Operand} {ts:Array TypeId} {o:Oper} {rest:List Oper} {a:Act} {W:World} (_ho:o.op= .call { callee:= .value c,args:=as,argTypes:=ts}) (_hc:a.eval c= .func (.func f) #[] cap) (h:wpList P ops Q (o::rest) a W):wpList P ops Q (o::rest) a W:=h
theorem Ot {rest:List Oper} {oi:Oper} {a:Act} {w:World} (N:Option Tmp) (hd:oi.dst=N) (hg:oi.guard=none) {f:FuncId} {fn:Func} {c:Operand} {cap:Array Value} {as:Array Operand} {ts:Array TypeId} (hf:P.funcs[f]? =some fn) (qT:(fn.name== "runtime.NumGoroutine")=false) (hb:fn.body.isSome=true) (args:Array Value)
    (RW:oi.op= .call { callee:= .value c,args:=as,argTypes:=ts}) (hc:a.eval c= .func (.func f) #[] cap) (sJ:as.map a.eval++cap=args)
    (h:Calls P f args w fun e w'=>∃v,e= .returned v∧wpList P ops Q rest (a.put N v) w'):wpList P ops Q (oi::rest) a w:=by
  refine wpList_plain hg fun K hK=> ?_
  have he:=xQ hf qT hb args w
  have kI:(execOp a.eval oi).run P w= .ok (.enter f args) w:=by
    unfold execOp
    have hm:Array.map (fun x=>a.eval x) as=as.map a.eval:=rfl
    simp only [RW,resolve,hc,Deferred.ofValue,Sem.run_bind,Sem.run_pure,Result.andThen_ok,invoke]
    simp [sJ,he]
  unfold Oper.wp
  rw [kI,Oper.upon_enter]
  refine h.mono fun e w'' hh=> ?_
  obtain ⟨v,rfl,hk⟩:=hh
  subst hd
  exact hK _ _ hk
theorem l7 {rest:List Oper} {oi:Oper} {a:Act} {w:World} (N:Option Tmp) (hd:oi.dst=N) {f:FuncId} {fn:Func} {as:Array Operand} {ts:Array TypeId} (hf:P.funcs[f]? =some fn) (args:Array Value)
    (RW:oi.op= .call { callee:= .value (.func f),args:=as,argTypes:=ts}) (h:Calls P f args w fun e w'=>∃v,e= .returned v∧wpList P ops Q rest (a.put N v) w')
    (hg:oi.guard=none:=by rfl) (qT:(fn.name== "runtime.NumGoroutine")=false:=by kernel_rfl) (hb:fn.body.isSome=true:=by rfl)
    (sJ:as.map a.eval=args:=by (try simp only [List.map_toArray,List.map_cons,List.map_nil]);first|done|rfl|(simp only [List.length_drop,List.length_take];rfl)):wpList P ops Q (oi::rest) a w:=
  DA N hd hg hf qT hb args RW sJ h
end
theorem dm {w w':World} {g:Nat} {o:Obj} (h:Aside0 (w.heap[g]? =some o)) (hw:w.heap[g]? =some o→w'.heap[g]? =some o:=by intro h_;(with_reducible repeat (first|refine fB ?_ _|refine fG ?_|refine fC ?_ _));exact h_):w'.heap[g]? =some o:=hw h.out
theorem aq {B:Nat} {w w' w2:World} (h:Aside0 (Below B w w')) (hw:Below B w w'→Below B w w2:=by intro h_;repeat (first|(with_reducible first|exact h_|apply dQ|apply ek|apply cO)|exact h_)):Below B w w2:=hw h.out
section
variable {P:Program} {ops:Array Oper} {Q:Exit→Act→World→Prop}
theorem ox {oi:Oper} {N:Option Tmp} {a:Act} {w:World} {K:Act→World→Prop} {f:FuncId} {fn:Func} {c:Operand} {cap:Array Value} {as:Array Operand} {ts:Array TypeId} (hf:P.funcs[f]? =some fn) (qT:(fn.name== "runtime.NumGoroutine")=false) (hb:fn.body.isSome=true) (args:Array Value)
    (hw:Region.wanted oi (yielded ops a.tmps)=true) (hN:oi.dst=N) (RW:oi.op= .call { callee:= .value c,args:=as,argTypes:=ts}) (hc:a.eval c= .func (.func f) #[] cap) (sJ:as.map a.eval++cap=args)
    (h:Calls P f args w fun e w'=>∃v,e= .returned v∧K (a.put N v) w'):if Region.wanted oi (yielded ops a.tmps)=true then Oper.wp P oi a w K Q else K (a.put N undef) w:=by
  refine TY f args hw hN ?_ h
  have he:=xQ hf qT hb args w
  unfold execOp
  have hm:Array.map (fun x=>a.eval x) as=as.map a.eval:=rfl
  simp only [RW,resolve,hc,Deferred.ofValue,Sem.run_bind,Sem.run_pure,Result.andThen_ok,invoke]
  simp [sJ,he]
end
theorem mI:∀x y:List UInt8,(!Op.bytesLess x y&& !(x==y))=Op.bytesLess y x
  |[],[]=>rfl
  |[],_::_=>rfl
  |_::_,[]=>rfl
  | a :: x, b :: y => by
    have ih:=mI x y
    rcases Nat.lt_trichotomy a.toNat b.toNat with h|h|h
    · have h1:a<b:=UInt8.lt_iff_toNat_lt.2 h
      have h2:¬b<a:=fun z=>by have:=UInt8.lt_iff_toNat_lt.1 z;omega
      have h3:¬b=a:=fun z=>by rw [z] at h;omega
      simp [Op.bytesLess,h1,h2,h3]
    · have h1:a=b:=UInt8.toNat_inj.1 h
      subst h1
      have h2:¬a<a:=fun z=>by have:=UInt8.lt_iff_toNat_lt.1 z;omega
      simp only [Op.bytesLess,h2,decide_false,Bool.false_or,beq_self_eq_true,Bool.true_and,List.cons_beq_cons]
      exact ih
    · have h1:¬a<b:=fun z=>by have:=UInt8.lt_iff_toNat_lt.1 z;omega
      have h2:b<a:=UInt8.lt_iff_toNat_lt.2 h
      have h3:¬a=b:=fun z=>by rw [z] at h;omega
      simp [Op.bytesLess,h1,h2,h3]
theorem strLss {P:Program} (t:TypeId) (a b:ByteArray) (w:World):(Go.binOp .lss t (.string a) (.string b)).run P w= .ok (.bool (Op.bytesLess a.toList b.toList)) w:=by simp [Go.binOp,Op.stringOp]
theorem strGtr {P:Program} (t:TypeId) (a b:ByteArray) (w:World):(Go.binOp .gtr t (.string a) (.string b)).run P w= .ok (.bool (Op.bytesLess b.toList a.toList)) w:=by rw [←mI a.toList b.toList];simp [Go.binOp,Op.stringOp]
theorem strLeq {P:Program} (t:TypeId) (a b:ByteArray) (w:World):(Go.binOp .leq t (.string a) (.string b)).run P w= .ok (.bool (!(Op.bytesLess b.toList a.toList))) w:=by rw [←mI a.toList b.toList];simp [Go.binOp,Op.stringOp]
theorem strGeq {P:Program} (t:TypeId) (a b:ByteArray) (w:World):(Go.binOp .geq t (.string a) (.string b)).run P w= .ok (.bool (!(Op.bytesLess a.toList b.toList))) w:=by simp [Go.binOp,Op.stringOp]
section
open Kd
variable {α:Type} {dE:Kd α} {t e n cap:Nat} {W:World} {base:Nat} {ok:Nat→Prop} {xs:List (List α)}
end
section
variable {α:Type} {d:Kd α} {e:Nat} {W w1:World} {b:Nat} {P Q:Nat→Prop} {v:Value} {xs:List α}
end
section
variable {α:Type} {d:Kd α} {e N:Nat} {W w1:World} {base:Nat} {ok:Nat→Prop} {v:Value} {xs:List α}
end
theorem LK {k:IntKind} {e g N:Nat} {w:World} {base:Nat} {x:Int} (hg:w.heap[g]? =some (.cells (List.replicate N (Value.int k x)).toArray e (0,0))) (hb:base≤g) (hN:N≤maxLen):Kd.R (Kd.int k) e w base (fun _=>True) (.slice (some ⟨g,0,none⟩) N N) (List.replicate N x):=by
  have hs:(Kd.int k).sz=1:=rfl
  refine ⟨fun _ _=>trivial,List.replicate N (Value.int k x),?_,?_⟩
  · rw [List.length_replicate,hs]
    exact ⟨by simp,Or.inr ⟨g,N,_,rfl,hb,hg,Nat.le_refl _,hN,by simp,by simp⟩⟩
  · refine ⟨by simp [hs],fun j p hj=> ?_⟩
    obtain ⟨Jl,hp⟩:=List.getElem?_eq_some_iff.1 hj
    have hjm:j<N:=by simpa using Jl
    have RU:x=p:=by simpa using hp
    subst RU
    rw [hs,Nat.mul_one]
    have e1:((List.replicate N (Value.int k x)).drop j).take 1=[Value.int k x]:=by
      rw [List.drop_replicate,List.take_replicate,show min 1 (N-j)=1 by omega];rfl
    rw [e1]
    rfl
theorem AG (z:Value) (n:Nat):madeCells #[z] n=(List.replicate n z).toArray:=by
  apply Array.ext
  · simp [size_madeCells]
  · intro i h1 h2
    simp [madeCells,Nat.mod_one]
theorem Nx {P:Program} {ops:Array Oper} {rest:List Oper} {o:Oper} {a:Act} {Q:Exit→Act→World→Prop} {W:World} (xk:o.guard=none) (t e:TypeId) (x y:Operand) (ho:o.op= .makeSlice t x y) (n:Nat) (hx:a.eval x= .int .i64 (n:Int)) (hy:a.eval y= .int .i64 (n:Int))
    (ht:P.underlying t=some (.slice e)) (z:Value) (bytes:Nat) (kJ:(P.info? e).map (fun i=>(i.zero,i.size,i.bytes))=some (some z,1,bytes)) (hz:z.cells= #[z]) (vl:0<bytes) (hl:n*bytes≤281474976710656)
    (h:∀w1,w1=W.alloc (.cells (List.replicate n z).toArray e)→wpList P ops Q rest (a.put o.dst (.slice (some ⟨W.heap.size,0,none⟩) n n)) w1):wpList P ops Q (o::rest) a W:=by
  obtain ⟨i0,hi,EM⟩:=Option.map_eq_some_iff.1 kJ
  simp only [Prod.mk.injEq] at EM
  obtain ⟨D3,Bv,D2⟩:=EM
  have hm:n≤281474976710656:=Nat.le_trans (Nat.le_mul_of_pos_right _ vl) hl
  have hr:=run_make (P:=P) W t e i0 z ht hi D3 .i64 .i64 (n:Int) (n:Int) (by omega) (by omega)
    (by
      have h3:((i0.bytes*n:Nat):Int)≤281474976710656:=by rw [D2,Nat.mul_comm];omega
      rwa [Int.natCast_mul] at h3) (by omega)
  simp only [Int.toNat_natCast] at hr
  rw [Bv,Nat.mul_one,hz,AG] at hr
  have kI:(execOp a.eval o).run P W= .ok (.value (.slice (some ⟨W.heap.size,0,none⟩) n n)) (W.alloc (.cells (List.replicate n z).toArray e)):=by simp [execOp,ho,hx,hy,hr]
  refine wpList_plain xk fun K hK=> ?_
  unfold Oper.wp
  rw [kI]
  exact hK _ _ (h _ rfl)
theorem Q4 {w w3:World} {ad:Addr} {x:Int} {m:Nat} (hx:w.cell? (ad.add (Int.toNat 0))=some (Value.int .i64 (rd [x] 0))) (hb:Below w.heap.size w w3):∀j v,(List.replicate (min 1 m) (Value.int .i64 x))[j]? =some v→w3.cell? (ad.add j)=some v:=by
  intro j v hj
  obtain ⟨q,e⟩:=List.getElem?_eq_some_iff.1 hj
  rw [List.length_replicate] at q
  rw [List.getElem_replicate] at e
  obtain rfl:j=0:=by omega
  subst e
  exact (hb.cell (World.block_lt_of_cell? _ _ hx)).trans hx
theorem IK (x:Int) (m:Nat):∀v∈List.replicate m (Value.int .i64 x),v.oneCell'=true:=by
  intro v hv
  rw [List.eq_of_mem_replicate hv];rfl
def vz (x:Int) (N n:Nat):List Value:=List.replicate n (Value.int .i64 x)++List.replicate (N-n) (Value.int .i64 0)
theorem M1 (x:Int) (N n:Nat) (h:n≤N):(vz x N n).length=N:=by simp [vz];omega
theorem Gb (x:Int) (N:Nat):splice (List.replicate N (Value.int .i64 0)) 0 (List.replicate (min 1 N) (Value.int .i64 x))=vz x N (min 1 N):=by simp [splice,vz]
theorem Et (x:Int) (N n m:Nat) (h:n+m≤N):splice (vz x N n) n (List.replicate m (Value.int .i64 x))=vz x N (n+m):=by
  unfold splice vz
  rw [List.length_replicate,List.take_append_of_le_length (by simp),List.take_of_length_le (by simp),List.drop_append,List.drop_eq_nil_of_le (by simp)]
  simp only [List.length_replicate,List.drop_replicate,List.nil_append]
  rw [←List.append_assoc,List.replicate_append_replicate,show N-n-(n+m-n)=N-(n+m) by omega]
theorem M0 {w:World} {g N n:Nat} {x:Int} (h:w.heap[g]? =some (.cells (vz x N n).toArray 3 (0,0))) (m:Nat) (hm:m≤n):∀j v,(List.replicate m (Value.int .i64 x))[j]? =some v→w.cell? ((⟨g,0,none⟩:Addr).add j)=some v:=by
  intro j v hj
  obtain ⟨q,e⟩:=List.getElem?_eq_some_iff.1 hj
  rw [List.length_replicate] at q
  rw [List.getElem_replicate] at e
  subst e
  rw [Ym,Nat.zero_add]
  refine (iH h j).trans ?_
  simp [vz,List.getElem?_append,show j<n by omega]
theorem KO (x:Int) (N:Nat):vz x N N=List.replicate N (Value.int .i64 x):=by simp [vz]
end Go.Proofs.YtihekdlcfohkkaaGreatDoorW.PrintMore
