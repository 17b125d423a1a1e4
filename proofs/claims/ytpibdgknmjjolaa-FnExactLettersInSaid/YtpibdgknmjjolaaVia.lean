import Derived.Test.YtpibdgknmjjolaaWMore
import Derived.KernelRfl
import Derived.Lib.SliceRun
/-! A call of a function value that is known: the steps of the printed walks, for it. -/
namespace Go.Proofs.YtpibdgknmjjolaaW.PrintMore
open Go.RowKit Go.Proofs.YtpibdgknmjjolaaW.PrintWords Go.Proofs.YtpibdgknmjjolaaW.PrintLast
section
variable {P : Program} {ops : Array Oper} {Q : Exit → Act → World → Prop}
theorem gate_value {f : FuncId} {c : Operand} {cap : Array Value} {as : Array Operand} {ts : Array TypeId} {o : Oper} {rest : List Oper} {a : Act} {W : World} (_ho : o.op = .call { callee := .value c, args := as, argTypes := ts }) (_hc : a.eval c = .func (.func f) #[] cap) (h : wpList P ops Q (o :: rest) a W) : wpList P ops Q (o :: rest) a W := h
theorem goesV_ {rest : List Oper} {oi : Oper} {a : Act} {w : World} (N : Option Tmp) (hd : oi.dst = N) (hg : oi.guard = none) {f : FuncId} {fn : Func} {c : Operand} {cap : Array Value} {as : Array Operand} {ts : Array TypeId} (hf : P.funcs[f]? = some fn) (hname : (fn.name == "runtime.NumGoroutine") = false) (hb : fn.body.isSome = true) (args : Array Value)
    (hop : oi.op = .call { callee := .value c, args := as, argTypes := ts }) (hc : a.eval c = .func (.func f) #[] cap) (hargs : as.map a.eval ++ cap = args)
    (h : Calls P f args w fun e w' => ∃ v, e = .returned v ∧ wpList P ops Q rest (a.put N v) w') : wpList P ops Q (oi :: rest) a w := by
  refine wpList_plain hg fun K hK => ?_
  have he := enters_ hf hname hb args w
  have hrun : (execOp a.eval oi).run P w = .ok (.enter f args) w := by
    unfold execOp
    have hm : Array.map (fun x => a.eval x) as = as.map a.eval := rfl
    simp only [hop, resolve, hc, Deferred.ofValue, Sem.run_bind, Sem.run_pure, Result.andThen_ok, invoke]
    simp [hargs, he]
  unfold Oper.wp
  rw [hrun, Oper.upon_enter]
  refine h.mono fun e w'' hh => ?_
  obtain ⟨v, rfl, hk⟩ := hh
  subst hd
  exact hK _ _ hk
theorem goesLa {rest : List Oper} {oi : Oper} {a : Act} {w : World} (N : Option Tmp) (hd : oi.dst = N) {f : FuncId} {fn : Func} {as : Array Operand} {ts : Array TypeId} (hf : P.funcs[f]? = some fn) (args : Array Value)
    (hop : oi.op = .call { callee := .value (.func f), args := as, argTypes := ts }) (h : Calls P f args w fun e w' => ∃ v, e = .returned v ∧ wpList P ops Q rest (a.put N v) w')
    (hg : oi.guard = none := by rfl) (hname : (fn.name == "runtime.NumGoroutine") = false := by kernel_rfl) (hb : fn.body.isSome = true := by rfl)
    (hargs : as.map a.eval = args := by (try simp only [List.map_toArray, List.map_cons, List.map_nil]); first | done | rfl | (simp only [List.length_drop, List.length_take]; rfl)) : wpList P ops Q (oi :: rest) a w :=
  goesL_ N hd hg hf hname hb args hop hargs h
end
theorem blkd {w w' : World} {g : Nat} {o : Obj} (h : Aside0 (w.heap[g]? = some o)) (hw : w.heap[g]? = some o → w'.heap[g]? = some o := by intro h_; (with_reducible repeat (first | refine blk_drewN ?_ _ | refine blk_drew ?_ | refine blk_alloc ?_ _)); exact h_) : w'.heap[g]? = some o := hw h.out
theorem belowd {B : Nat} {w w' w2 : World} (h : Aside0 (Below B w w')) (hw : Below B w w' → Below B w w2 := by intro h_; repeat (first | (with_reducible first | exact h_ | apply below_alloc | apply pw_below_drewN | apply below_drew1) | exact h_)) : Below B w w2 := hw h.out
/-! comparisons of texts, as the walk's simp takes them -/
theorem bytesLess_rev : ∀ x y : List UInt8, (!Op.bytesLess x y && !(x == y)) = Op.bytesLess y x
  | [], [] => rfl
  | [], _ :: _ => rfl
  | _ :: _, [] => rfl
  | a :: x, b :: y => by
    have ih := bytesLess_rev x y
    rcases Nat.lt_trichotomy a.toNat b.toNat with h | h | h
    · have h1 : a < b := UInt8.lt_iff_toNat_lt.2 h
      have h2 : ¬ b < a := fun z => by have := UInt8.lt_iff_toNat_lt.1 z; omega
      have h3 : ¬ b = a := fun z => by rw [z] at h; omega
      simp [Op.bytesLess, h1, h2, h3]
    · have h1 : a = b := UInt8.toNat_inj.1 h
      subst h1
      have h2 : ¬ a < a := fun z => by have := UInt8.lt_iff_toNat_lt.1 z; omega
      simp only [Op.bytesLess, h2, decide_false, Bool.false_or, beq_self_eq_true, Bool.true_and, List.cons_beq_cons]
      exact ih
    · have h1 : ¬ a < b := fun z => by have := UInt8.lt_iff_toNat_lt.1 z; omega
      have h2 : b < a := UInt8.lt_iff_toNat_lt.2 h
      have h3 : ¬ a = b := fun z => by rw [z] at h; omega
      simp [Op.bytesLess, h1, h2, h3]
theorem strLss {P : Program} (t : TypeId) (a b : ByteArray) (w : World) : (Go.binOp .lss t (.string a) (.string b)).run P w = .ok (.bool (Op.bytesLess a.toList b.toList)) w := by simp [Go.binOp, Op.stringOp]
theorem strGtr {P : Program} (t : TypeId) (a b : ByteArray) (w : World) : (Go.binOp .gtr t (.string a) (.string b)).run P w = .ok (.bool (Op.bytesLess b.toList a.toList)) w := by rw [← bytesLess_rev a.toList b.toList]; simp [Go.binOp, Op.stringOp]
theorem strLeq {P : Program} (t : TypeId) (a b : ByteArray) (w : World) : (Go.binOp .leq t (.string a) (.string b)).run P w = .ok (.bool (!(Op.bytesLess b.toList a.toList))) w := by rw [← bytesLess_rev a.toList b.toList]; simp [Go.binOp, Op.stringOp]
theorem strGeq {P : Program} (t : TypeId) (a b : ByteArray) (w : World) : (Go.binOp .geq t (.string a) (.string b)).run P w = .ok (.bool (!(Op.bytesLess a.toList b.toList))) w := by simp [Go.binOp, Op.stringOp]
end Go.Proofs.YtpibdgknmjjolaaW.PrintMore
