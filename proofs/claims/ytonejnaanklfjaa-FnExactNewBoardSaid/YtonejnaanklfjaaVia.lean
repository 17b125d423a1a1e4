import Derived.Test.YtonejnaanklfjaaWMore
import Derived.KernelRfl
import Derived.Lib.SliceRun
namespace Go.Proofs.YtonejnaanklfjaaW.PrintMore
open Go.RowKit Go.Proofs.YtonejnaanklfjaaW.PrintWords Go.Proofs.YtonejnaanklfjaaW.PrintLast
section
variable {P : Program} {ops : Array Oper} {Q : Exit → Act → World → Prop}
theorem goesLa {rest : List Oper} {oi : Oper} {a : Act} {w : World} (N : Option Tmp) (hd : oi.dst = N) {f : FuncId} {fn : Func} {as : Array Operand} {ts : Array TypeId} (hf : P.funcs[f]? = some fn) (args : Array Value)
    (hop : oi.op = .call { callee := .value (.func f), args := as, argTypes := ts }) (h : Calls P f args w fun e w' => ∃ v, e = .returned v ∧ wpList P ops Q rest (a.put N v) w')
    (hg : oi.guard = none := by rfl) (hname : (fn.name == "runtime.NumGoroutine") = false := by kernel_rfl) (hb : fn.body.isSome = true := by rfl)
    (hargs : as.map a.eval = args := by (try simp only [List.map_toArray, List.map_cons, List.map_nil]); first | done | rfl | (simp only [List.length_drop, List.length_take]; rfl)) : wpList P ops Q (oi :: rest) a w :=
  goesL_ N hd hg hf hname hb args hop hargs h
end
theorem blkd {w w' : World} {g : Nat} {o : Obj} (h : Aside0 (w.heap[g]? = some o)) (hw : w.heap[g]? = some o → w'.heap[g]? = some o := by intro h_; (with_reducible repeat (first | refine blk_drewN ?_ _ | refine blk_drew ?_ | refine blk_alloc ?_ _)); exact h_) : w'.heap[g]? = some o := hw h.out
theorem belowd {B : Nat} {w w' w2 : World} (h : Aside0 (Below B w w')) (hw : Below B w w' → Below B w w2 := by intro h_; repeat (first | (with_reducible first | exact h_ | apply below_alloc | apply pw_below_drewN | apply below_drew1) | exact h_)) : Below B w w2 := hw h.out
section
variable {P : Program} {ops : Array Oper} {Q : Exit → Act → World → Prop}
end
theorem bytesLess_rev : ∀ x y : List UInt8, (!Op.bytesLess x y && !(x == y)) = Op.bytesLess y x
  | [], [] => rfl
  | [], _ :: _ => rfl
  | _ :: _, [] => rfl
  | a :: x, b :: y => by
    have ih := bytesLess_rev x y
    rcases Nat.lt_trichotomy a.toNat b.toNat with h | h | h
    · have h1 : a < b := UInt8.lt_iff_toNat_lt.2 h
      have h2 : ¬ b < a := fun z => by have := UInt8.lt_iff_toNat_lt.1 z; omega
      have h3 : ¬ b = a := fun z => by rw [z] at h; omega
      simp [Op.bytesLess, h1, h2, h3]
    · have h1 : a = b := UInt8.toNat_inj.1 h
      subst h1
      have h2 : ¬ a < a := fun z => by have := UInt8.lt_iff_toNat_lt.1 z; omega
      simp only [Op.bytesLess, h2, decide_false, Bool.false_or, beq_self_eq_true, Bool.true_and, List.cons_beq_cons]
      exact ih
    · have h1 : ¬ a < b := fun z => by have := UInt8.lt_iff_toNat_lt.1 z; omega
      have h2 : b < a := UInt8.lt_iff_toNat_lt.2 h
      have h3 : ¬ a = b := fun z => by rw [z] at h; omega
      simp [Op.bytesLess, h1, h2, h3]
theorem strLss {P : Program} (t : TypeId) (a b : ByteArray) (w : World) : (Go.binOp .lss t (.string a) (.string b)).run P w = .ok (.bool (Op.bytesLess a.toList b.toList)) w := by simp [Go.binOp, Op.stringOp]
theorem strGtr {P : Program} (t : TypeId) (a b : ByteArray) (w : World) : (Go.binOp .gtr t (.string a) (.string b)).run P w = .ok (.bool (Op.bytesLess b.toList a.toList)) w := by rw [← bytesLess_rev a.toList b.toList]; simp [Go.binOp, Op.stringOp]
theorem strLeq {P : Program} (t : TypeId) (a b : ByteArray) (w : World) : (Go.binOp .leq t (.string a) (.string b)).run P w = .ok (.bool (!(Op.bytesLess b.toList a.toList))) w := by rw [← bytesLess_rev a.toList b.toList]; simp [Go.binOp, Op.stringOp]
theorem strGeq {P : Program} (t : TypeId) (a b : ByteArray) (w : World) : (Go.binOp .geq t (.string a) (.string b)).run P w = .ok (.bool (!(Op.bytesLess a.toList b.toList))) w := by simp [Go.binOp, Op.stringOp]
section
open Kd
variable {α : Type} {dE : Kd α} {t e n cap : Nat} {W : World} {base : Nat} {ok : Nat → Prop} {xs : List (List α)}
theorem S_borrowK {ad : Addr} (h : Kd.S (Kd.slice t dE) e W base ok (.slice (some ad) n cap) xs) (i : Int) (h0 : 0 ≤ i) (h1 : i < n) :
    ∃ (oki : Nat → Prop) (v : Value), Kd.R dE t W base oki v (xs.getD i.toNat []) ∧ W.cell? (ad.add i.toNat) = some v ∧ (∀ k, oki k → ok k) ∧
      ∀ {w1 : World} {x' : List α}, Kept W w1 oki → Kd.R dE t w1 base oki v x' → Kd.S (Kd.slice t dE) e w1 base ok (.slice (some ad) n cap) (xs.set i.toNat x') := by
  obtain ⟨g, rfl⟩ := Kd.R_head (Kd.S_R h)
  obtain ⟨oki, c, hcl, hM, hcc, hoki, hH⟩ := Kd.S_lend h ([] : List α) i h0 h1
  obtain ⟨v, rfl, hR⟩ := hM
  refine ⟨oki, v, hR, ?_, fun k hk => (hoki k hk).1, fun hk hR1 => ?_⟩
  · have := hcc 0 v rfl
    rw [add_at, Nat.zero_add]
    rw [show (Kd.slice t dE).sz = 1 from rfl, Nat.mul_one, Nat.add_zero] at this
    exact this
  · exact H_back (okp := oki) (oki := oki) (c := [v]) (H_kept hH hk (fun k _ h => h)) ⟨v, rfl, hR1⟩ (fun _ z => z)
end
section
variable {α : Type} {d : Kd α} {e : Nat} {W w1 : World} {b : Nat} {P Q : Nat → Prop} {v : Value} {xs : List α}
theorem R_kept2 (h : Kd.R d e W b P v xs) (hk : Kept W w1 Q) (hd : ∀ k, P k → k < W.heap.size → ¬ Q k) : Kd.R d e w1 b P v xs := Kd.R_step h (fun k hp hlt => hk.2 k hlt (hd k hp hlt))
theorem S_kept2 (h : Kd.S d e W b P v xs) (hk : Kept W w1 Q) (hd : ∀ k, P k → k < W.heap.size → ¬ Q k) : Kd.S d e w1 b P v xs := Kd.S_step h (fun k hp hlt => hk.2 k hlt (hd k hp hlt))
theorem blk_kept2 {g : Nat} {o : Obj} (h : W.heap[g]? = some o) (hk : Kept W w1 Q) (hd : ¬ Q g) : w1.heap[g]? = some o := (hk.2 g (blk_lt h) hd).trans h
end
theorem below_num {n : Nat} {w w1 : World} (_h : Below n w w1) : ∃ N, N = n := ⟨_, rfl⟩
section
variable {α : Type} {d : Kd α} {e N : Nat} {W w1 : World} {base : Nat} {ok : Nat → Prop} {v : Value} {xs : List α}
theorem S_ltN (eN : N = W.heap.size) (h : Kd.S d e W base ok v xs) : Kd.S d e W base (fun k => ok k ∧ k < N) v xs := Kd.S_mono (Kd.S_bound h) (fun _ hk => ⟨hk.1, eN ▸ hk.2.2.1⟩)
theorem S_geN (eN : N = W.heap.size) (h : Kd.S d e w1 W.heap.size ok v xs) : Kd.S d e w1 W.heap.size (fun k => ok k ∧ N ≤ k) v xs := Kd.S_mono (Kd.S_bound h) (fun _ hk => ⟨hk.1, eN ▸ hk.2.1⟩)
end
end Go.Proofs.YtonejnaanklfjaaW.PrintMore

