-- printed by this session's own program (wip/tools/pp.py: the kit's print.py with changes); Lean checks it
import Derived.Test.YtkgogglnipdcfaaQFnStatedx0
import Derived.Test.YtkgogglnipdcfaaQFnStatedx2
import Derived.Test.YtkgogglnipdcfaaQFnStatedx4
namespace Go.Proofs.Ytkgogglnipdcfaa.QFnStated
open Go.RowKit Go.Proofs.YtkgogglnipdcfaaW.PrintWords Go.Proofs.YtkgogglnipdcfaaW.PrintLast Go.Proofs.YtkgogglnipdcfaaW.PrintMore
attribute [local go_sem] max2_int min2_int max_two min_two max_three min_three max_four min_four strLss strGtr strLeq strGeq   -- for this text's walks alone
set_option linter.unusedVariables false
set_option linter.unusedSimpArgs false

attribute [local go_sem high] eqA91
/-- A state of type 151 at block g of W; what its slices lead to came in by w0. -/
def IsS151 (w0 W : World) (g : Nat) (f0 : List Int) (f1 : Int) (f2 : Int) : Prop := ∃ A0 c0, W.heap[g]? = some (.cells #[.slice A0 f0.length c0, .int .i64 f1, .int .u64 f2] 151 (0, 0)) ∧ w0.heap.size ≤ g ∧ Kd.C (Kd.int .u8) w0 A0 f0.length f0
theorem IsS151.grown {w0 W : World} {g : Nat} {f0 : List Int} {f1 : Int} {f2 : Int} {W1 : World} {row : Option Nat} (h : IsS151 w0 W g f0 f1 f2) (hw : W.grownBy W1 row) (hne : some g ≠ row) : IsS151 w0 W1 g f0 f1 f2 := by
 obtain ⟨A0, c0, hb, hg, hr0⟩ := h
 exact ⟨A0, c0, blk_grown hb hw hne, hg, hr0⟩
theorem IsS151.own_neN {w0 W : World} {g : Nat} {f0 : List Int} {f1 : Int} {f2 : Int} {α : Type} {d : Kd α} {e : Nat} {base : Nat} {ok : Nat → Prop} {v : Value} {xs : List α} (h : IsS151 w0 W g f0 f1 f2) (ho : Kd.N d e W base ok v xs) (ht : e ≠ 151) : some g ≠ v.ownBlock := by
 obtain ⟨A0, c0, hb, hg, hr0⟩ := h
 exact Kd.N_ne ho hb ht
theorem IsS151.fresh {w0 W : World} {g : Nat} {f0 : List Int} {f1 : Int} {f2 : Int} (h : IsS151 w0 W g f0 f1 f2) : ∀ k, W.heap.size ≤ k → k ≠ g := by
 obtain ⟨A0, c0, hb, hg, hr0⟩ := h
 exact Kd.freshB hb
theorem IsS151.kept {w0 W : World} {g : Nat} {f0 : List Int} {f1 : Int} {f2 : Int} {W1 : World} {S : Nat → Prop} (h : IsS151 w0 W g f0 f1 f2) (hk : Kept W W1 S) (hne : ¬ S g) : IsS151 w0 W1 g f0 f1 f2 := by
 obtain ⟨A0, c0, hb, hg, hr0⟩ := h
 exact ⟨A0, c0, blk_kept hb hk hne, hg, hr0⟩
theorem IsS151.below {w0 W : World} {g : Nat} {f0 : List Int} {f1 : Int} {f2 : Int} {W1 : World} (h : IsS151 w0 W g f0 f1 f2) (hw : Below W.heap.size W W1) : IsS151 w0 W1 g f0 f1 f2 := h.grown (grown_of_below hw none) (by simp)
theorem IsS151.alloc {w0 W : World} {g : Nat} {f0 : List Int} {f1 : Int} {f2 : Int} (h : IsS151 w0 W g f0 f1 f2) (o : Obj) : IsS151 w0 (W.alloc o) g f0 f1 f2 := h.below (below_alloc (Below.refl _ _) o)
theorem IsS151.drewN {w0 W : World} {g : Nat} {f0 : List Int} {f1 : Int} {f2 : Int} (h : IsS151 w0 W g f0 f1 f2) (m : Nat) : IsS151 w0 (W.drewN m) g f0 f1 f2 := h
theorem IsS151.drew {w0 W : World} {g : Nat} {f0 : List Int} {f1 : Int} {f2 : Int} (h : IsS151 w0 W g f0 f1 f2) : IsS151 w0 W.drew g f0 f1 f2 := h
theorem IsS151.at_ {w0 W : World} {g : Nat} {f0 : List Int} {f1 : Int} {f2 : Int} {w' : World} {m : Nat} (hq : W.drewN m = w') (h : IsS151 w0 W g f0 f1 f2) : IsS151 w0 w' g f0 f1 f2 := by subst hq; exact IsS151.drewN h m
theorem IsS151.apart {w0 W : World} {g : Nat} {f0 : List Int} {f1 : Int} {f2 : Int} {α : Type} {d : Kd α} {e : Nat} {base : Nat} {ok : Nat → Prop} {v : Value} {xs : List α} (h : IsS151 w0 W g f0 f1 f2) (ho : d.R e W base ok v xs) (ht : ∀ q, q ∈ e :: d.E → q ≠ 151) : d.R e W base (fun k => ok k ∧ k ≠ g) v xs := by
 obtain ⟨A0, c0, hb, hg, hr0⟩ := h
 exact Kd.R_types ho hb ht
theorem IsS151.own_ne {w0 W : World} {g : Nat} {f0 : List Int} {f1 : Int} {f2 : Int} {α : Type} {d : Kd α} {e : Nat} {base : Nat} {ok : Nat → Prop} {v : Value} {xs : List α} (h : IsS151 w0 W g f0 f1 f2) (ho : d.R e W base ok v xs) (ht : e ≠ 151) : some g ≠ v.ownBlock := by
 obtain ⟨A0, c0, hb, hg, hr0⟩ := h
 exact Kd.R_ne ho hb ht
theorem IsS151.apartQ {w0 W : World} {g : Nat} {f0 : List Int} {f1 : Int} {f2 : Int} {α : Type} {d : Kd α} {e : Nat} {base : Nat} {ok : Nat → Prop} {v : Value} {xs : List α} (h : IsS151 w0 W g f0 f1 f2) (ho : d.Q e W base ok v xs) (ht : ∀ q, q ∈ e :: d.E → q ≠ 151) : d.Q e W base (fun k => ok k ∧ k ≠ g) v xs := by
 obtain ⟨A0, c0, hb, hg, hr0⟩ := h
 exact Kd.Q_types ho hb ht
theorem IsS151.own_neQ {w0 W : World} {g : Nat} {f0 : List Int} {f1 : Int} {f2 : Int} {α : Type} {d : Kd α} {e : Nat} {base : Nat} {ok : Nat → Prop} {v : Value} {xs : List α} (h : IsS151 w0 W g f0 f1 f2) (ho : d.Q e W base ok v xs) (ht : e ≠ 151) : some g ≠ v.ownBlock := by
 obtain ⟨A0, c0, hb, hg, hr0⟩ := h
 exact Kd.Q_ne ho hb ht
theorem IsS151.apartS {w0 W : World} {g : Nat} {f0 : List Int} {f1 : Int} {f2 : Int} {α : Type} {d : Kd α} {e : Nat} {base : Nat} {ok : Nat → Prop} {v : Value} {xs : List α} (h : IsS151 w0 W g f0 f1 f2) (ho : d.S e W base ok v xs) (ht : ∀ q, q ∈ e :: d.E → q ≠ 151) : d.S e W base (fun k => ok k ∧ k ≠ g) v xs := by
 obtain ⟨A0, c0, hb, hg, hr0⟩ := h
 exact Kd.S_types ho hb ht
theorem IsS151.own_neS {w0 W : World} {g : Nat} {f0 : List Int} {f1 : Int} {f2 : Int} {α : Type} {d : Kd α} {e : Nat} {base : Nat} {ok : Nat → Prop} {v : Value} {xs : List α} (h : IsS151 w0 W g f0 f1 f2) (ho : d.S e W base ok v xs) (ht : e ≠ 151) : some g ≠ v.ownBlock := by
 obtain ⟨A0, c0, hb, hg, hr0⟩ := h
 exact Kd.S_ne ho hb ht
theorem IsS151.of_blk {w0 W : World} {g : Nat} {f0 : List Int} {f1 : Int} {f2 : Int} {A0 : Option Addr} {c0 : Nat} (hb : W.heap[g]? = some (.cells #[.slice A0 f0.length c0, .int .i64 f1, .int .u64 f2] 151 (0, 0))) (hg : w0.heap.size ≤ g) (hr0 : Kd.C (Kd.int .u8) w0 A0 f0.length f0) : IsS151 w0 W g f0 f1 f2 := ⟨A0, c0, hb, hg, hr0⟩
theorem IsS151.lt {w0 W : World} {g : Nat} {f0 : List Int} {f1 : Int} {f2 : Int} (h : IsS151 w0 W g f0 f1 f2) : g < W.heap.size := by
 obtain ⟨A0, c0, hb, hg, hr0⟩ := h
 exact blk_lt hb
theorem IsS151.ge {w0 W : World} {g : Nat} {f0 : List Int} {f1 : Int} {f2 : Int} (h : IsS151 w0 W g f0 f1 f2) : w0.heap.size ≤ g := by
 obtain ⟨A0, c0, hb, hg, hr0⟩ := h
 exact hg
theorem IsS151.ne_blk {w0 W : World} {g : Nat} {f0 : List Int} {f1 : Int} {f2 : Int} {a : Nat} {cs : Array Value} {t : TypeId} {fr : Nat × Nat} (h : IsS151 w0 W g f0 f1 f2) (hb2 : W.heap[a]? = some (.cells cs t fr)) (ht : t ≠ 151) : g ≠ a := by
 obtain ⟨A0, c0, hb, hg, hr0⟩ := h
 rintro rfl
 rw [hb] at hb2
 injection hb2 with hb2
 injection hb2 with _ ht2
 exact ht ht2.symm
theorem IsS151.far {w0 W : World} {g : Nat} {f0 : List Int} {f1 : Int} {f2 : Int} {p : Addr} (h : IsS151 w0 W g f0 f1 f2) (hne : g ≠ p.block) (u : Value) : IsS151 w0 (W.setCell p u) g f0 f1 f2 := by
 obtain ⟨A0, c0, hb, hg, hr0⟩ := h
 exact ⟨A0, c0, blk_far hb hne u, hg, hr0⟩
theorem cellS151_0 {W : World} {g : Nat} {A0 : Option Addr} {c0 : Nat} {f0 : List Int} {f1 : Int} {f2 : Int} (h : W.heap[g]? = some (.cells #[.slice A0 f0.length c0, .int .i64 f1, .int .u64 f2] 151 (0, 0))) : W.cell? ⟨g, 0, none⟩ = some (.slice A0 f0.length c0) := (blk_cell h 0).trans rfl
theorem cellS151_1 {W : World} {g : Nat} {A0 : Option Addr} {c0 : Nat} {f0 : List Int} {f1 : Int} {f2 : Int} (h : W.heap[g]? = some (.cells #[.slice A0 f0.length c0, .int .i64 f1, .int .u64 f2] 151 (0, 0))) : W.cell? ⟨g, 1, none⟩ = some (.int .i64 f1) := (blk_cell h 1).trans rfl
theorem IsS151.set_1 {w0 W : World} {g : Nat} {f0 : List Int} {f1 : Int} {f2 : Int} (h : IsS151 w0 W g f0 f1 f2) (x : Int) : IsS151 w0 (W.setCell ⟨g, 1, none⟩ (.int .i64 x)) g f0 x f2 := by
 obtain ⟨A0, c0, hb, hg, hr0⟩ := h
 exact ⟨A0, c0, by simpa using blk_set hb 1 (.int .i64 x), hg, hr0⟩
theorem cellS151_2 {W : World} {g : Nat} {A0 : Option Addr} {c0 : Nat} {f0 : List Int} {f1 : Int} {f2 : Int} (h : W.heap[g]? = some (.cells #[.slice A0 f0.length c0, .int .i64 f1, .int .u64 f2] 151 (0, 0))) : W.cell? ⟨g, 2, none⟩ = some (.int .u64 f2) := (blk_cell h 2).trans rfl
theorem IsS151.set_2 {w0 W : World} {g : Nat} {f0 : List Int} {f1 : Int} {f2 : Int} (h : IsS151 w0 W g f0 f1 f2) (x : Int) : IsS151 w0 (W.setCell ⟨g, 2, none⟩ (.int .u64 x)) g f0 f1 x := by
 obtain ⟨A0, c0, hb, hg, hr0⟩ := h
 exact ⟨A0, c0, by simpa using blk_set hb 2 (.int .u64 x), hg, hr0⟩
theorem IsS151.new (w0 W : World) (A0 : Option Addr) (c0 : Nat) (f0 : List Int) (f1 : Int) (f2 : Int) (hB : Below w0.heap.size w0 W) (hr0 : Kd.C (Kd.int .u8) w0 A0 f0.length f0) : IsS151 w0 (W.alloc (.cells #[.slice A0 f0.length c0, .int .i64 f1, .int .u64 f2] 151)) W.heap.size f0 f1 f2 := ⟨A0, c0, by simpa using heap_alloc_new W _, hB.size, hr0⟩

/-! ### spec_l1Cur_next: function 206 -/
def spec_l1Cur_next.f (s0_0 : List Int) (s0_1 : Int) (s0_2 : Int) : Option (Int × Int × Int) := if s0_1 < (s0_0.length : Int) then (if 0 ≤ s0_1 then (if (wrap64 (s0_1 + 1)) ≤ (s0_0.length : Int) then (some (wrap64 (rd s0_0 s0_1), wrap64 (s0_1 + 1), IntKind.u64.wrap ((IntKind.u64.wrap ((IntKind.u64.wrap (s0_2 * 6364136223846793005)) + (IntKind.u64.wrap (wrap64 (rd s0_0 s0_1))))) + 1442695040888963407))) else (some (wrap64 (Go.bits .and .u64 ((IntKind.u64.wrap ((IntKind.u64.wrap ((IntKind.u64.wrap (s0_2 * 6364136223846793005)) + (IntKind.u64.wrap (wrap64 (rd s0_0 s0_1))))) + 1442695040888963407)) / 1099511627776) 255), wrap64 (s0_1 + 1), IntKind.u64.wrap ((IntKind.u64.wrap ((IntKind.u64.wrap (s0_2 * 6364136223846793005)) + (IntKind.u64.wrap (wrap64 (rd s0_0 s0_1))))) + 1442695040888963407)))) else (none)) else (if (wrap64 (s0_1 + 1)) ≤ (s0_0.length : Int) then (some (0, wrap64 (s0_1 + 1), IntKind.u64.wrap ((IntKind.u64.wrap ((IntKind.u64.wrap (s0_2 * 6364136223846793005)))) + 1442695040888963407))) else (some (wrap64 (Go.bits .and .u64 ((IntKind.u64.wrap ((IntKind.u64.wrap ((IntKind.u64.wrap (s0_2 * 6364136223846793005)))) + 1442695040888963407)) / 1099511627776) 255), wrap64 (s0_1 + 1), IntKind.u64.wrap ((IntKind.u64.wrap ((IntKind.u64.wrap (s0_2 * 6364136223846793005)))) + 1442695040888963407))))
set_option maxHeartbeats 8000000 in
set_option maxRecDepth 100000 in
theorem spec_l1Cur_next.calls (g : Nat) (s0_0 : List Int) (s0_1 : Int) (s0_2 : Int) (r1 : Int) (r2 : Int) (r3 : Int) (w0 w : World) (hI : IsS151 w0 w g s0_0 s0_1 s0_2) (hB : Below w0.heap.size w0 w) (h : spec_l1Cur_next.f s0_0 s0_1 s0_2 = some (r1, r2, r3)) :
  Calls Try.prog 206 #[.pointer (some ⟨g, 0, none⟩)] w fun e w' => e = .returned (.int .i64 r1) ∧ IsS151 w0 w' g s0_0 r2 r3 ∧ Below w0.heap.size w0 w' ∧ KeepBut w w' g none := by
 have HI0 := Aside0.mk hI
 have HK := Aside0.mk (KeepBut.refl w g none)
 have HL := Aside0.mk hB.size
 clear hI
 have HW0 := Aside0.mk hB.size
 have HB := Aside0.mk hB; clear hB
 have H : (if s0_1 < (s0_0.length : Int) then (if 0 ≤ s0_1 then (if (wrap64 (s0_1 + 1)) ≤ (s0_0.length : Int) then (some (wrap64 (rd s0_0 s0_1), wrap64 (s0_1 + 1), IntKind.u64.wrap ((IntKind.u64.wrap ((IntKind.u64.wrap (s0_2 * 6364136223846793005)) + (IntKind.u64.wrap (wrap64 (rd s0_0 s0_1))))) + 1442695040888963407))) else (some (wrap64 (Go.bits .and .u64 ((IntKind.u64.wrap ((IntKind.u64.wrap ((IntKind.u64.wrap (s0_2 * 6364136223846793005)) + (IntKind.u64.wrap (wrap64 (rd s0_0 s0_1))))) + 1442695040888963407)) / 1099511627776) 255), wrap64 (s0_1 + 1), IntKind.u64.wrap ((IntKind.u64.wrap ((IntKind.u64.wrap (s0_2 * 6364136223846793005)) + (IntKind.u64.wrap (wrap64 (rd s0_0 s0_1))))) + 1442695040888963407)))) else (none)) else (if (wrap64 (s0_1 + 1)) ≤ (s0_0.length : Int) then (some (0, wrap64 (s0_1 + 1), IntKind.u64.wrap ((IntKind.u64.wrap ((IntKind.u64.wrap (s0_2 * 6364136223846793005)))) + 1442695040888963407))) else (some (wrap64 (Go.bits .and .u64 ((IntKind.u64.wrap ((IntKind.u64.wrap ((IntKind.u64.wrap (s0_2 * 6364136223846793005)))) + 1442695040888963407)) / 1099511627776) 255), wrap64 (s0_1 + 1), IntKind.u64.wrap ((IntKind.u64.wrap ((IntKind.u64.wrap (s0_2 * 6364136223846793005)))) + 1442695040888963407))))) = some (r1, r2, r3) := h
 clear h
 by_cases c2 : s0_1 < (s0_0.length : Int)
 ·rw [if_pos c2] at H
  have c2b0 : decide (s0_1 < (s0_0.length : Int)) = true := decide_eq_true c2
  clear c2; replace H := ifS H; obtain ⟨c3, H⟩ := H; have c3b0 := decide_eq_true c3; clear c3
  by_cases c4 : (wrap64 (s0_1 + 1)) ≤ (s0_0.length : Int)
  ·rw [if_pos c4] at H
   have c4b0 : decide ((wrap64 (s0_1 + 1)) ≤ (s0_0.length : Int)) = true := decide_eq_true c4
   clear c4
   simp only [Option.some.injEq, Prod.mk.injEq] at H
   obtain ⟨rfl, rfl, rfl⟩ := H
   obtain ⟨ASz5_0, cSz5_0, HGz5, hgz5, HSz5_0⟩ := HI0.out
   have hcz5_0 := cellS151_0 HGz5
   have hcz5_1 := cellS151_1 HGz5
   have hcz5_2 := cellS151_2 HGz5
   have hfz5_1 := blk_frozen HGz5 1
   have hfz5_2 := blk_frozen HGz5 2
   clear HGz5 hgz5
   have p203 : 0 ≤ (s0_1 : Int) := da
   have q203 : s0_1 < (s0_0.length : Int) := da
   obtain ⟨ad203, e203, hx203_0⟩ := Kd.at_int HSz5_0 s0_1 p203 q203
   cases e203
   replace hx203_0 := pw_cell_below HB.out hx203_0
   replace p203 := eq_true p203; replace q203 := eq_true q203
   go_enter Try.func206, Try.ntmps206
   go_wp2
   repeat (go_quiet (fail); try go_wp2)
   go_ret
   exact ⟨er2, by repeat (first | (with_reducible first | exact HI0.out | apply IsS151.alloc | apply IsS151.drewN | apply IsS151.drew | apply IsS151.set_1 | apply IsS151.set_2) | exact HI0.out), by repeat (first | (with_reducible first | exact HB.out | apply below_alloc | apply pw_below_drewN | apply below_drew1 | refine below_set ?_ (IsS151.ge HI0.out)) | exact HB.out), by repeat (first | (with_reducible first | exact HK.out | apply KeepBut.set_ | apply keep_drewN | apply keep_drew | apply keep_alloc) | exact HK.out)⟩
  ·rw [if_neg c4] at H
   have c4b0 : decide ((wrap64 (s0_1 + 1)) ≤ (s0_0.length : Int)) = false := decide_eq_false c4
   clear c4
   simp only [Option.some.injEq, Prod.mk.injEq] at H
   obtain ⟨rfl, rfl, rfl⟩ := H
   obtain ⟨ASz6_0, cSz6_0, HGz6, hgz6, HSz6_0⟩ := HI0.out
   have hcz6_0 := cellS151_0 HGz6
   have hcz6_1 := cellS151_1 HGz6
   have hcz6_2 := cellS151_2 HGz6
   have hfz6_1 := blk_frozen HGz6 1
   have hfz6_2 := blk_frozen HGz6 2
   clear HGz6 hgz6
   have p203 : 0 ≤ (s0_1 : Int) := da
   have q203 : s0_1 < (s0_0.length : Int) := da
   obtain ⟨ad203, e203, hx203_0⟩ := Kd.at_int HSz6_0 s0_1 p203 q203
   cases e203
   replace hx203_0 := pw_cell_below HB.out hx203_0
   replace p203 := eq_true p203; replace q203 := eq_true q203
   go_enter Try.func206, Try.ntmps206
   go_wp2
   repeat (go_quiet (fail); try go_wp2)
   go_ret
   exact ⟨er2, by repeat (first | (with_reducible first | exact HI0.out | apply IsS151.alloc | apply IsS151.drewN | apply IsS151.drew | apply IsS151.set_1 | apply IsS151.set_2) | exact HI0.out), by repeat (first | (with_reducible first | exact HB.out | apply below_alloc | apply pw_below_drewN | apply below_drew1 | refine below_set ?_ (IsS151.ge HI0.out)) | exact HB.out), by repeat (first | (with_reducible first | exact HK.out | apply KeepBut.set_ | apply keep_drewN | apply keep_drew | apply keep_alloc) | exact HK.out)⟩
 ·rw [if_neg c2] at H
  have c2b0 : decide (s0_1 < (s0_0.length : Int)) = false := decide_eq_false c2
  clear c2
  by_cases c7 : (wrap64 (s0_1 + 1)) ≤ (s0_0.length : Int)
  ·rw [if_pos c7] at H
   have c7b0 : decide ((wrap64 (s0_1 + 1)) ≤ (s0_0.length : Int)) = true := decide_eq_true c7
   clear c7
   simp only [Option.some.injEq, Prod.mk.injEq] at H
   obtain ⟨rfl, rfl, rfl⟩ := H
   obtain ⟨ASz8_0, cSz8_0, HGz8, hgz8, HSz8_0⟩ := HI0.out
   have hcz8_0 := cellS151_0 HGz8
   have hcz8_1 := cellS151_1 HGz8
   have hcz8_2 := cellS151_2 HGz8
   have hfz8_1 := blk_frozen HGz8 1
   have hfz8_2 := blk_frozen HGz8 2
   clear HGz8 hgz8
   go_enter Try.func206, Try.ntmps206
   go_wp2
   repeat (go_quiet (fail); try go_wp2)
   go_ret
   exact ⟨er2, by repeat (first | (with_reducible first | exact HI0.out | apply IsS151.alloc | apply IsS151.drewN | apply IsS151.drew | apply IsS151.set_1 | apply IsS151.set_2) | exact HI0.out), by repeat (first | (with_reducible first | exact HB.out | apply below_alloc | apply pw_below_drewN | apply below_drew1 | refine below_set ?_ (IsS151.ge HI0.out)) | exact HB.out), by repeat (first | (with_reducible first | exact HK.out | apply KeepBut.set_ | apply keep_drewN | apply keep_drew | apply keep_alloc) | exact HK.out)⟩
  ·rw [if_neg c7] at H
   have c7b0 : decide ((wrap64 (s0_1 + 1)) ≤ (s0_0.length : Int)) = false := decide_eq_false c7
   clear c7
   simp only [Option.some.injEq, Prod.mk.injEq] at H
   obtain ⟨rfl, rfl, rfl⟩ := H
   obtain ⟨ASz9_0, cSz9_0, HGz9, hgz9, HSz9_0⟩ := HI0.out
   have hcz9_0 := cellS151_0 HGz9
   have hcz9_1 := cellS151_1 HGz9
   have hcz9_2 := cellS151_2 HGz9
   have hfz9_1 := blk_frozen HGz9 1
   have hfz9_2 := blk_frozen HGz9 2
   clear HGz9 hgz9
   go_enter Try.func206, Try.ntmps206
   go_wp2
   repeat (go_quiet (fail); try go_wp2)
   go_ret
   exact ⟨er2, by repeat (first | (with_reducible first | exact HI0.out | apply IsS151.alloc | apply IsS151.drewN | apply IsS151.drew | apply IsS151.set_1 | apply IsS151.set_2) | exact HI0.out), by repeat (first | (with_reducible first | exact HB.out | apply below_alloc | apply pw_below_drewN | apply below_drew1 | refine below_set ?_ (IsS151.ge HI0.out)) | exact HB.out), by repeat (first | (with_reducible first | exact HK.out | apply KeepBut.set_ | apply keep_drewN | apply keep_drew | apply keep_alloc) | exact HK.out)⟩

/-! ### spec_l1Cur_pick: function 147 -/
def spec_l1Cur_pick.f (s0_0 : List Int) (s0_1 : Int) (s0_2 : Int) (a1 : Int) : Option (Int × Int × Int) := if a1 ≤ 1 then (some (0, s0_1, s0_2)) else ((spec_l1Cur_next.f s0_0 s0_1 s0_2).bind fun bt204 => (if a1 > 200 then ((spec_l1Cur_next.f s0_0 bt204.2.1 bt204.2.2).bind fun bt207 => (if a1 = 0 then (none) else (some (Int.tmod (wrap64 ((wrap64 (bt204.1 * 256)) + bt207.1)) a1, bt207.2.1, bt207.2.2)))) else (if a1 = 0 then (none) else (some (Int.tmod bt204.1 a1, bt204.2.1, bt204.2.2)))))
set_option maxHeartbeats 8000000 in
set_option maxRecDepth 100000 in
theorem spec_l1Cur_pick.calls (g : Nat) (s0_0 : List Int) (s0_1 : Int) (s0_2 : Int) (a1 : Int) (r1 : Int) (r2 : Int) (r3 : Int) (w0 w : World) (hI : IsS151 w0 w g s0_0 s0_1 s0_2) (hB : Below w0.heap.size w0 w) (h : spec_l1Cur_pick.f s0_0 s0_1 s0_2 a1 = some (r1, r2, r3)) :
  Calls Try.prog 147 #[.pointer (some ⟨g, 0, none⟩), .int .i64 a1] w fun e w' => e = .returned (.int .i64 r1) ∧ IsS151 w0 w' g s0_0 r2 r3 ∧ Below w0.heap.size w0 w' ∧ KeepBut w w' g none := by
 have HI0 := Aside0.mk hI
 have HK := Aside0.mk (KeepBut.refl w g none)
 have HL := Aside0.mk hB.size
 clear hI
 have HW0 := Aside0.mk hB.size
 have HB := Aside0.mk hB; clear hB
 have H : (if a1 ≤ 1 then (some (0, s0_1, s0_2)) else ((spec_l1Cur_next.f s0_0 s0_1 s0_2).bind fun bt204 => (if a1 > 200 then ((spec_l1Cur_next.f s0_0 bt204.2.1 bt204.2.2).bind fun bt207 => (if a1 = 0 then (none) else (some (Int.tmod (wrap64 ((wrap64 (bt204.1 * 256)) + bt207.1)) a1, bt207.2.1, bt207.2.2)))) else (if a1 = 0 then (none) else (some (Int.tmod bt204.1 a1, bt204.2.1, bt204.2.2)))))) = some (r1, r2, r3) := h
 clear h
 by_cases c3 : a1 ≤ 1
 ·rw [if_pos c3] at H
  have c3b0 : decide (a1 ≤ 1) = true := decide_eq_true c3
  clear c3
  simp only [Option.some.injEq, Prod.mk.injEq] at H
  obtain ⟨rfl, rfl, rfl⟩ := H
  go_enter Try.func147, Try.ntmps147
  go_wp2
  go_ret
  exact ⟨er2, by repeat (first | (with_reducible first | exact HI0.out | apply IsS151.alloc | apply IsS151.drewN | apply IsS151.drew | apply IsS151.set_1 | apply IsS151.set_2) | exact HI0.out), by repeat (first | (with_reducible first | exact HB.out | apply below_alloc | apply pw_below_drewN | apply below_drew1 | refine below_set ?_ (IsS151.ge HI0.out)) | exact HB.out), by repeat (first | (with_reducible first | exact HK.out | apply KeepBut.set_ | apply keep_drewN | apply keep_drew | apply keep_alloc) | exact HK.out)⟩
 ·rw [if_neg c3] at H
  have c3b0 : decide (a1 ≤ 1) = false := decide_eq_false c3
  clear c3; replace H := bS H; obtain ⟨⟨t204, t205, t206⟩, A4, H⟩ := H
  replace H : (if a1 > 200 then ((spec_l1Cur_next.f s0_0 t205 t206).bind fun bt207 => (if a1 = 0 then (none) else (some (Int.tmod (wrap64 ((wrap64 (t204 * 256)) + bt207.1)) a1, bt207.2.1, bt207.2.2)))) else (if a1 = 0 then (none) else (some (Int.tmod t204 a1, t205, t206)))) = some (r1, r2, r3) := H
  by_cases c5 : a1 > 200
  ·rw [if_pos c5] at H
   have c5b0 : decide (200 < a1) = true := decide_eq_true c5
   clear c5; replace H := bS H; obtain ⟨⟨t207, t208, t209⟩, A6, H⟩ := H
   replace H : (if a1 = 0 then (none) else (some (Int.tmod (wrap64 ((wrap64 (t204 * 256)) + t207)) a1, t208, t209))) = some (r1, r2, r3) := H
   by_cases c7 : a1 = 0
   ·rw [if_pos c7] at H
    exact absurd H (by simp)
   ·rw [if_neg c7] at H
    have c7b0 : (a1 == 0) = false := beq_eq_false_iff_ne.mpr c7
    have c7b1 : (a1 != 0) = true := bne_iff_ne.mpr c7
    simp only [Option.some.injEq, Prod.mk.injEq] at H
    obtain ⟨rfl, rfl, rfl⟩ := H
    go_enter Try.func147, Try.ntmps147
    go_wp2_with (first | ((with_reducible refine gate_callee (f := 206) rfl ?_); refine goesLa (some 9) rfl Try.func206 #[.pointer (some ⟨g, 0, none⟩)] rfl ?_; (with_reducible refine (spec_l1Cur_next.calls g s0_0 s0_1 s0_2 t204 t205 t206 w0 _ ?side1 ?side2 A4.out).mono ?_); (case side1 => repeat (first | (with_reducible first | exact HI0.out | apply IsS151.alloc | apply IsS151.drewN | apply IsS151.drew | apply IsS151.set_1 | apply IsS151.set_2) | exact HI0.out)); (case side2 => repeat (first | (with_reducible first | exact HB.out | apply below_alloc | apply pw_below_drewN | apply below_drew1 | refine below_set ?_ (IsS151.ge HI0.out)) | exact HB.out)); rintro e w8 ⟨rfl, hi, hb, hk⟩; refine ⟨_, rfl, ?_⟩; replace HK := ak (KeepBut.trans (by repeat (first | (with_reducible first | exact HK.out | apply KeepBut.set_ | apply keep_drewN | apply keep_drew | apply keep_alloc) | exact HK.out)) hk (.inl rfl)); replace HB := ak (hb); replace HI0 := ak (hi); (try clear hb); (try clear hk); (try clear hi)) | ((with_reducible refine gate_callee (f := 206) rfl ?_); refine goesLa (some 15) rfl Try.func206 #[.pointer (some ⟨g, 0, none⟩)] rfl ?_; (with_reducible refine (spec_l1Cur_next.calls g s0_0 t205 t206 t207 t208 t209 w0 _ ?side1 ?side2 A6.out).mono ?_); (case side1 => repeat (first | (with_reducible first | exact HI0.out | apply IsS151.alloc | apply IsS151.drewN | apply IsS151.drew | apply IsS151.set_1 | apply IsS151.set_2) | exact HI0.out)); (case side2 => repeat (first | (with_reducible first | exact HB.out | apply below_alloc | apply pw_below_drewN | apply below_drew1 | refine below_set ?_ (IsS151.ge HI0.out)) | exact HB.out)); rintro e w9 ⟨rfl, hi, hb, hk⟩; refine ⟨_, rfl, ?_⟩; replace HK := ak (KeepBut.trans (by repeat (first | (with_reducible first | exact HK.out | apply KeepBut.set_ | apply keep_drewN | apply keep_drew | apply keep_alloc) | exact HK.out)) hk (.inl rfl)); replace HB := ak (hb); replace HI0 := ak (hi); (try clear hb); (try clear hk); (try clear hi)))
    go_ret
    exact ⟨er2, by repeat (first | (with_reducible first | exact HI0.out | apply IsS151.alloc | apply IsS151.drewN | apply IsS151.drew | apply IsS151.set_1 | apply IsS151.set_2) | exact HI0.out), by repeat (first | (with_reducible first | exact HB.out | apply below_alloc | apply pw_below_drewN | apply below_drew1 | refine below_set ?_ (IsS151.ge HI0.out)) | exact HB.out), by repeat (first | (with_reducible first | exact HK.out | apply KeepBut.set_ | apply keep_drewN | apply keep_drew | apply keep_alloc) | exact HK.out)⟩
  ·rw [if_neg c5] at H
   have c5b0 : decide (200 < a1) = false := decide_eq_false c5
   clear c5
   by_cases c10 : a1 = 0
   ·rw [if_pos c10] at H
    exact absurd H (by simp)
   ·rw [if_neg c10] at H
    have c10b0 : (a1 == 0) = false := beq_eq_false_iff_ne.mpr c10
    have c10b1 : (a1 != 0) = true := bne_iff_ne.mpr c10
    simp only [Option.some.injEq, Prod.mk.injEq] at H
    obtain ⟨rfl, rfl, rfl⟩ := H
    go_enter Try.func147, Try.ntmps147
    go_wp2_with (first | ((with_reducible refine gate_callee (f := 206) rfl ?_); refine goesLa (some 9) rfl Try.func206 #[.pointer (some ⟨g, 0, none⟩)] rfl ?_; (with_reducible refine (spec_l1Cur_next.calls g s0_0 s0_1 s0_2 t204 t205 t206 w0 _ ?side1 ?side2 A4.out).mono ?_); (case side1 => repeat (first | (with_reducible first | exact HI0.out | apply IsS151.alloc | apply IsS151.drewN | apply IsS151.drew | apply IsS151.set_1 | apply IsS151.set_2) | exact HI0.out)); (case side2 => repeat (first | (with_reducible first | exact HB.out | apply below_alloc | apply pw_below_drewN | apply below_drew1 | refine below_set ?_ (IsS151.ge HI0.out)) | exact HB.out)); rintro e w11 ⟨rfl, hi, hb, hk⟩; refine ⟨_, rfl, ?_⟩; replace HK := ak (KeepBut.trans (by repeat (first | (with_reducible first | exact HK.out | apply KeepBut.set_ | apply keep_drewN | apply keep_drew | apply keep_alloc) | exact HK.out)) hk (.inl rfl)); replace HB := ak (hb); replace HI0 := ak (hi); (try clear hb); (try clear hk); (try clear hi)))
    go_ret
    exact ⟨er2, by repeat (first | (with_reducible first | exact HI0.out | apply IsS151.alloc | apply IsS151.drewN | apply IsS151.drew | apply IsS151.set_1 | apply IsS151.set_2) | exact HI0.out), by repeat (first | (with_reducible first | exact HB.out | apply below_alloc | apply pw_below_drewN | apply below_drew1 | refine below_set ?_ (IsS151.ge HI0.out)) | exact HB.out), by repeat (first | (with_reducible first | exact HK.out | apply KeepBut.set_ | apply keep_drewN | apply keep_drew | apply keep_alloc) | exact HK.out)⟩

/-! ### spec_l1Cur_one: function 149 -/
def spec_l1Cur_one.f (s0_0 : List Int) (s0_1 : Int) (s0_2 : Int) (a1 : Int) : Option (Bool × Int × Int) := (spec_l1Cur_pick.f s0_0 s0_1 s0_2 a1).bind fun bt210 => (some ((bt210.1 == 0), bt210.2.1, bt210.2.2))
set_option maxHeartbeats 8000000 in
set_option maxRecDepth 100000 in
theorem spec_l1Cur_one.calls (g : Nat) (s0_0 : List Int) (s0_1 : Int) (s0_2 : Int) (a1 : Int) (r1 : Bool) (r2 : Int) (r3 : Int) (w0 w : World) (hI : IsS151 w0 w g s0_0 s0_1 s0_2) (hB : Below w0.heap.size w0 w) (h : spec_l1Cur_one.f s0_0 s0_1 s0_2 a1 = some (r1, r2, r3)) :
  Calls Try.prog 149 #[.pointer (some ⟨g, 0, none⟩), .int .i64 a1] w fun e w' => e = .returned (.bool r1) ∧ IsS151 w0 w' g s0_0 r2 r3 ∧ Below w0.heap.size w0 w' ∧ KeepBut w w' g none := by
 have HI0 := Aside0.mk hI
 have HK := Aside0.mk (KeepBut.refl w g none)
 have HL := Aside0.mk hB.size
 clear hI
 have HW0 := Aside0.mk hB.size
 have HB := Aside0.mk hB; clear hB
 have H : ((spec_l1Cur_pick.f s0_0 s0_1 s0_2 a1).bind fun bt210 => (some ((bt210.1 == 0), bt210.2.1, bt210.2.2))) = some (r1, r2, r3) := h
 clear h; replace H := bS H; obtain ⟨⟨t210, t211, t212⟩, A3, H⟩ := H
 replace H : (some ((t210 == 0), t211, t212)) = some (r1, r2, r3) := H
 simp only [Option.some.injEq, Prod.mk.injEq] at H
 obtain ⟨rfl, rfl, rfl⟩ := H
 go_enter Try.func149, Try.ntmps149
 go_wp2_with (first | ((with_reducible refine gate_callee (f := 147) rfl ?_); refine goesLa (some 7) rfl Try.func147 #[.pointer (some ⟨g, 0, none⟩), .int .i64 a1] rfl ?_; (with_reducible refine (spec_l1Cur_pick.calls g s0_0 s0_1 s0_2 a1 t210 t211 t212 w0 _ ?side1 ?side2 A3.out).mono ?_); (case side1 => repeat (first | (with_reducible first | exact HI0.out | apply IsS151.alloc | apply IsS151.drewN | apply IsS151.drew | apply IsS151.set_1 | apply IsS151.set_2) | exact HI0.out)); (case side2 => repeat (first | (with_reducible first | exact HB.out | apply below_alloc | apply pw_below_drewN | apply below_drew1 | refine below_set ?_ (IsS151.ge HI0.out)) | exact HB.out)); rintro e w4 ⟨rfl, hi, hb, hk⟩; refine ⟨_, rfl, ?_⟩; replace HK := ak (KeepBut.trans (by repeat (first | (with_reducible first | exact HK.out | apply KeepBut.set_ | apply keep_drewN | apply keep_drew | apply keep_alloc) | exact HK.out)) hk (.inl rfl)); replace HB := ak (hb); replace HI0 := ak (hi); (try clear hb); (try clear hk); (try clear hi)))
 go_ret
 exact ⟨er2, by repeat (first | (with_reducible first | exact HI0.out | apply IsS151.alloc | apply IsS151.drewN | apply IsS151.drew | apply IsS151.set_1 | apply IsS151.set_2) | exact HI0.out), by repeat (first | (with_reducible first | exact HB.out | apply below_alloc | apply pw_below_drewN | apply below_drew1 | refine below_set ?_ (IsS151.ge HI0.out)) | exact HB.out), by repeat (first | (with_reducible first | exact HK.out | apply KeepBut.set_ | apply keep_drewN | apply keep_drew | apply keep_alloc) | exact HK.out)⟩

/-! ### spec_l1Cur_among: function 166 -/
def spec_l1Cur_among.f (s0_0 : List Int) (s0_1 : Int) (s0_2 : Int) (l1 : List Int) : Option (Int × Int × Int) := (spec_l1Cur_pick.f s0_0 s0_1 s0_2 (l1.length : Int)).bind fun bt213 => (if 0 ≤ bt213.1 then (if bt213.1 < (l1.length : Int) then (some (rd l1 bt213.1, bt213.2.1, bt213.2.2)) else (none)) else (none))
set_option maxHeartbeats 8000000 in
set_option maxRecDepth 100000 in
theorem spec_l1Cur_among.calls (g : Nat) (s0_0 : List Int) (s0_1 : Int) (s0_2 : Int) (A1 : Option Addr) (c1 : Nat) (l1 : List Int) (r1 : Int) (r2 : Int) (r3 : Int) (w0 w : World) (hI : IsS151 w0 w g s0_0 s0_1 s0_2) (hB : Below w0.heap.size w0 w) (hr1 : Kd.C (Kd.int .i64) w A1 l1.length l1) (hc1 : l1.length ≤ c1) (hf1 : ∀ ad, A1 = some ad → 0 < l1.length → ad.block ≠ g) (h : spec_l1Cur_among.f s0_0 s0_1 s0_2 l1 = some (r1, r2, r3)) :
  Calls Try.prog 166 #[.pointer (some ⟨g, 0, none⟩), .slice A1 l1.length c1] w fun e w' => e = .returned (.int .i64 r1) ∧ IsS151 w0 w' g s0_0 r2 r3 ∧ Below w0.heap.size w0 w' ∧ KeepBut w w' g none := by
 have HR1 := Aside0.mk hr1; have HC1 := Aside0.mk hc1; clear hr1 hc1; have HI0 := Aside0.mk hI
 have HK := Aside0.mk (KeepBut.refl w g none)
 have HL := Aside0.mk hB.size
 clear hI
 have HW0 := Aside0.mk hB.size
 have HB := Aside0.mk hB; clear hB
 have H : ((spec_l1Cur_pick.f s0_0 s0_1 s0_2 (l1.length : Int)).bind fun bt213 => (if 0 ≤ bt213.1 then (if bt213.1 < (l1.length : Int) then (some (rd l1 bt213.1, bt213.2.1, bt213.2.2)) else (none)) else (none))) = some (r1, r2, r3) := h
 clear h; replace H := bS H; obtain ⟨⟨t213, t214, t215⟩, A3, H⟩ := H
 replace H : (if 0 ≤ t213 then (if t213 < (l1.length : Int) then (some (rd l1 t213, t214, t215)) else (none)) else (none)) = some (r1, r2, r3) := H
 replace H := ifS H; obtain ⟨c4, H⟩ := H; have c4b0 := decide_eq_true c4; clear c4; replace H := ifS H; obtain ⟨c5, H⟩ := H; have c5b0 := decide_eq_true c5; clear c5
 simp only [Option.some.injEq, Prod.mk.injEq] at H
 obtain ⟨rfl, rfl, rfl⟩ := H
 go_enter Try.func166, Try.ntmps166
 go_wp2_with (first | ((with_reducible refine gate_callee (f := 147) rfl ?_); refine goesLa (some 9) rfl Try.func147 #[.pointer (some ⟨g, 0, none⟩), .int .i64 (l1.length : Int)] rfl ?_; (with_reducible refine (spec_l1Cur_pick.calls g s0_0 s0_1 s0_2 (l1.length : Int) t213 t214 t215 w0 _ ?side1 ?side2 A3.out).mono ?_); (case side1 => repeat (first | (with_reducible first | exact HI0.out | apply IsS151.alloc | apply IsS151.drewN | apply IsS151.drew | apply IsS151.set_1 | apply IsS151.set_2) | exact HI0.out)); (case side2 => repeat (first | (with_reducible first | exact HB.out | apply below_alloc | apply pw_below_drewN | apply below_drew1 | refine below_set ?_ (IsS151.ge HI0.out)) | exact HB.out)); rintro e w6 ⟨rfl, hi, hb, hk⟩; refine ⟨_, rfl, ?_⟩; replace HK := ak (KeepBut.trans (by repeat (first | (with_reducible first | exact HK.out | apply KeepBut.set_ | apply keep_drewN | apply keep_drew | apply keep_alloc) | exact HK.out)) hk (.inl rfl)); replace HB := ak (hb); replace HI0 := ak (hi); (try clear hb); (try clear hk); (try clear hi); have p216 : 0 ≤ (t213 : Int) := da; have q216 : t213 < (l1.length : Int) := da; obtain ⟨ad216, e216, hx216_0⟩ := Kd.at_int HR1.out t213 p216 q216; cases e216; replace hx216_0 := keep_cell HK.out hx216_0 (by first | (rw [add_block]; exact hf1 _ rfl (by omega)) | exact hf1 _ rfl (by omega) | exact hf1 ad216 rfl (by omega)); replace p216 := eq_true p216; replace q216 := eq_true q216))
 go_ret
 exact ⟨er2, by repeat (first | (with_reducible first | exact HI0.out | apply IsS151.alloc | apply IsS151.drewN | apply IsS151.drew | apply IsS151.set_1 | apply IsS151.set_2) | exact HI0.out), by repeat (first | (with_reducible first | exact HB.out | apply below_alloc | apply pw_below_drewN | apply below_drew1 | refine below_set ?_ (IsS151.ge HI0.out)) | exact HB.out), by repeat (first | (with_reducible first | exact HK.out | apply KeepBut.set_ | apply keep_drewN | apply keep_drew | apply keep_alloc) | exact HK.out)⟩

/-! ### spec_l1Cur_claim: function 148 -/
def spec_l1Cur_claim.f (s0_0 : List Int) (s0_1 : Int) (s0_2 : Int) : Option (Int × Int × Int × Int × Int) := (spec_l1Cur_one.f s0_0 s0_1 s0_2 30).bind fun bt218 => (if bt218.1 = true then ((spec_l1Cur_among.f s0_0 bt218.2.1 bt218.2.2 (([(-1), 20, 21] : List Int))).bind fun bt224 => ((spec_l1Cur_among.f s0_0 bt224.2.1 bt224.2.2 (([0, 1000, 1001] : List Int))).bind fun bt230 => ((spec_l1Cur_among.f s0_0 bt230.2.1 bt230.2.2 (([0, 100, 101] : List Int))).bind fun bt236 => (some (bt224.1, bt230.1, bt236.1, bt236.2.1, bt236.2.2))))) else ((spec_l1Cur_pick.f s0_0 bt218.2.1 bt218.2.2 3).bind fun bt239 => ((spec_l1Cur_pick.f s0_0 bt239.2.1 bt239.2.2 3).bind fun bt242 => ((spec_l1Cur_pick.f s0_0 bt242.2.1 bt242.2.2 2).bind fun bt245 => (some (bt239.1, bt242.1, bt245.1, bt245.2.1, bt245.2.2))))))
set_option maxHeartbeats 8000000 in
set_option maxRecDepth 100000 in
theorem spec_l1Cur_claim.calls (g : Nat) (s0_0 : List Int) (s0_1 : Int) (s0_2 : Int) (r1 : Int) (r2 : Int) (r3 : Int) (r4 : Int) (r5 : Int) (w0 w : World) (hI : IsS151 w0 w g s0_0 s0_1 s0_2) (hB : Below w0.heap.size w0 w) (h : spec_l1Cur_claim.f s0_0 s0_1 s0_2 = some (r1, r2, r3, r4, r5)) :
  Calls Try.prog 148 #[.pointer (some ⟨g, 0, none⟩)] w fun e w' => e = .returned (.agg #[.int .i64 r1, .int .i64 r2, .int .i64 r3]) ∧ IsS151 w0 w' g s0_0 r4 r5 ∧ Below w0.heap.size w0 w' ∧ KeepBut w w' g none := by
 have hu85 := Try.underlying85
 have HI0 := Aside0.mk hI
 have HK := Aside0.mk (KeepBut.refl w g none)
 have HL := Aside0.mk hB.size
 clear hI
 have HW0 := Aside0.mk hB.size
 have HB := Aside0.mk hB; clear hB
 have H : ((spec_l1Cur_one.f s0_0 s0_1 s0_2 30).bind fun bt218 => (if bt218.1 = true then ((spec_l1Cur_among.f s0_0 bt218.2.1 bt218.2.2 (([(-1), 20, 21] : List Int))).bind fun bt224 => ((spec_l1Cur_among.f s0_0 bt224.2.1 bt224.2.2 (([0, 1000, 1001] : List Int))).bind fun bt230 => ((spec_l1Cur_among.f s0_0 bt230.2.1 bt230.2.2 (([0, 100, 101] : List Int))).bind fun bt236 => (some (bt224.1, bt230.1, bt236.1, bt236.2.1, bt236.2.2))))) else ((spec_l1Cur_pick.f s0_0 bt218.2.1 bt218.2.2 3).bind fun bt239 => ((spec_l1Cur_pick.f s0_0 bt239.2.1 bt239.2.2 3).bind fun bt242 => ((spec_l1Cur_pick.f s0_0 bt242.2.1 bt242.2.2 2).bind fun bt245 => (some (bt239.1, bt242.1, bt245.1, bt245.2.1, bt245.2.2))))))) = some (r1, r2, r3, r4, r5) := h
 clear h; replace H := bS H; obtain ⟨⟨t218, t219, t220⟩, A2, H⟩ := H
 replace H : (if t218 = true then ((spec_l1Cur_among.f s0_0 t219 t220 (([(-1), 20, 21] : List Int))).bind fun bt224 => ((spec_l1Cur_among.f s0_0 bt224.2.1 bt224.2.2 (([0, 1000, 1001] : List Int))).bind fun bt230 => ((spec_l1Cur_among.f s0_0 bt230.2.1 bt230.2.2 (([0, 100, 101] : List Int))).bind fun bt236 => (some (bt224.1, bt230.1, bt236.1, bt236.2.1, bt236.2.2))))) else ((spec_l1Cur_pick.f s0_0 t219 t220 3).bind fun bt239 => ((spec_l1Cur_pick.f s0_0 bt239.2.1 bt239.2.2 3).bind fun bt242 => ((spec_l1Cur_pick.f s0_0 bt242.2.1 bt242.2.2 2).bind fun bt245 => (some (bt239.1, bt242.1, bt245.1, bt245.2.1, bt245.2.2)))))) = some (r1, r2, r3, r4, r5) := H
 by_cases c3 : t218 = true
 ·subst c3
  have H1 : ((spec_l1Cur_among.f s0_0 t219 t220 (([(-1), 20, 21] : List Int))).bind fun bt224 => ((spec_l1Cur_among.f s0_0 bt224.2.1 bt224.2.2 (([0, 1000, 1001] : List Int))).bind fun bt230 => ((spec_l1Cur_among.f s0_0 bt230.2.1 bt230.2.2 (([0, 100, 101] : List Int))).bind fun bt236 => (some (bt224.1, bt230.1, bt236.1, bt236.2.1, bt236.2.2))))) = some (r1, r2, r3, r4, r5) := by rw [if_pos rfl] at H; exact H
  clear H
  have H := H1
  clear H1
  obtain ⟨y221, hy_⟩ : ∃ y_ : List Int, y_ = (([(-1), 20, 21] : List Int)) := ⟨_, rfl⟩
  replace H : ((spec_l1Cur_among.f s0_0 t219 t220 y221).bind fun bt224 => ((spec_l1Cur_among.f s0_0 bt224.2.1 bt224.2.2 (([0, 1000, 1001] : List Int))).bind fun bt230 => ((spec_l1Cur_among.f s0_0 bt230.2.1 bt230.2.2 (([0, 100, 101] : List Int))).bind fun bt236 => (some (bt224.1, bt230.1, bt236.1, bt236.2.1, bt236.2.2))))) = some (r1, r2, r3, r4, r5) := yH
  have Ny221 := ak hy_; clear hy_; replace H := bS H; obtain ⟨⟨t224, t225, t226⟩, A4, H⟩ := H
  replace H : ((spec_l1Cur_among.f s0_0 t225 t226 (([0, 1000, 1001] : List Int))).bind fun bt230 => ((spec_l1Cur_among.f s0_0 bt230.2.1 bt230.2.2 (([0, 100, 101] : List Int))).bind fun bt236 => (some (t224, bt230.1, bt236.1, bt236.2.1, bt236.2.2)))) = some (r1, r2, r3, r4, r5) := H
  obtain ⟨y227, hy_⟩ : ∃ y_ : List Int, y_ = (([0, 1000, 1001] : List Int)) := ⟨_, rfl⟩
  replace H : ((spec_l1Cur_among.f s0_0 t225 t226 y227).bind fun bt230 => ((spec_l1Cur_among.f s0_0 bt230.2.1 bt230.2.2 (([0, 100, 101] : List Int))).bind fun bt236 => (some (t224, bt230.1, bt236.1, bt236.2.1, bt236.2.2)))) = some (r1, r2, r3, r4, r5) := yH
  have Ny227 := ak hy_; clear hy_; replace H := bS H; obtain ⟨⟨t230, t231, t232⟩, A5, H⟩ := H
  replace H : ((spec_l1Cur_among.f s0_0 t231 t232 (([0, 100, 101] : List Int))).bind fun bt236 => (some (t224, t230, bt236.1, bt236.2.1, bt236.2.2))) = some (r1, r2, r3, r4, r5) := H
  obtain ⟨y233, hy_⟩ : ∃ y_ : List Int, y_ = (([0, 100, 101] : List Int)) := ⟨_, rfl⟩
  replace H : ((spec_l1Cur_among.f s0_0 t231 t232 y233).bind fun bt236 => (some (t224, t230, bt236.1, bt236.2.1, bt236.2.2))) = some (r1, r2, r3, r4, r5) := yH
  have Ny233 := ak hy_; clear hy_; replace H := bS H; obtain ⟨⟨t236, t237, t238⟩, A6, H⟩ := H
  replace H : (some (t224, t230, t236, t237, t238)) = some (r1, r2, r3, r4, r5) := H
  simp only [Option.some.injEq, Prod.mk.injEq] at H
  obtain ⟨rfl, rfl, rfl, rfl, rfl⟩ := H
  go_enter Try.func148, Try.ntmps148
  go_wp2_with (first | ((with_reducible refine gate_dst (N := 2) rfl ?_); refine boxev 2 #[.int .i64 0, .int .i64 0, .int .i64 0] 85 ?_; intro gb217 hg w7 hbox hb; replace HB := ak (below_step (by repeat (first | (with_reducible first | exact HB.out | apply below_alloc | apply pw_below_drewN | apply below_drew1 | refine below_set ?_ (IsS151.ge HI0.out)) | exact HB.out)) hb); have BK217 := ak (hbox); have GW217 := ak ((by rw [hg]; exact (keep_size (w := w) (g := g) (row := none) (by repeat (first | (with_reducible first | exact HK.out | apply KeepBut.set_ | apply keep_drewN | apply keep_drew | apply keep_alloc) | exact HK.out))) : w.heap.size ≤ gb217)); have GE217 := ak ((Nat.le_trans HW0.out (by rw [hg]; exact (keep_size (w := w) (g := g) (row := none) (by repeat (first | (with_reducible first | exact HK.out | apply KeepBut.set_ | apply keep_drewN | apply keep_drew | apply keep_alloc) | exact HK.out))) : w.heap.size ≤ gb217) : w0.heap.size ≤ gb217)); replace HK := ak (KeepBut.trans (by repeat (first | (with_reducible first | exact HK.out | apply KeepBut.set_ | apply keep_drewN | apply keep_drew | apply keep_alloc) | exact HK.out)) (KeepBut.of_below hb g none) (.inl rfl)); have NB0_217 := ak ((by rw [hg]; exact Nat.ne_of_lt (IsS151.lt (show IsS151 w0 _ g s0_0 s0_1 s0_2 from by repeat (first | (with_reducible first | exact HI0.out | apply IsS151.alloc | apply IsS151.drewN | apply IsS151.drew | apply IsS151.set_1 | apply IsS151.set_2) | exact HI0.out))) : g ≠ gb217)); have NB217_0 := ak ((by rw [hg]; exact Nat.ne_of_gt (IsS151.lt (show IsS151 w0 _ g s0_0 s0_1 s0_2 from by repeat (first | (with_reducible first | exact HI0.out | apply IsS151.alloc | apply IsS151.drewN | apply IsS151.drew | apply IsS151.set_1 | apply IsS151.set_2) | exact HI0.out))) : gb217 ≠ g)); replace HI0 := ak (IsS151.below (by repeat (first | (with_reducible first | exact HI0.out | apply IsS151.alloc | apply IsS151.drewN | apply IsS151.drew | apply IsS151.set_1 | apply IsS151.set_2) | exact HI0.out)) hb); clear hb hbox hg) | ((with_reducible refine gate_callee (f := 149) rfl ?_); refine goesLa (some 4) rfl Try.func149 #[.pointer (some ⟨g, 0, none⟩), .int .i64 30] rfl ?_; (with_reducible refine (spec_l1Cur_one.calls g s0_0 s0_1 s0_2 30 true t219 t220 w0 _ ?side1 ?side2 A2.out).mono ?_); (case side1 => repeat (first | (with_reducible first | exact HI0.out | apply IsS151.alloc | apply IsS151.drewN | apply IsS151.drew | apply IsS151.set_1 | apply IsS151.set_2 | refine IsS151.far ?_ NB0_217.out _) | exact HI0.out)); (case side2 => repeat (first | (with_reducible first | exact HB.out | apply below_alloc | apply pw_below_drewN | apply below_drew1 | refine below_set ?_ (IsS151.ge HI0.out) | refine below_set ?_ GE217.out) | exact HB.out)); rintro e w8 ⟨rfl, hi, hb, hk⟩; refine ⟨_, rfl, ?_⟩; replace BK217 := ak (KeepBut.blk hk (g' := gb217) (blkd BK217) NB217_0.out (by simp)); replace HK := ak (KeepBut.trans (by repeat (first | (with_reducible first | exact HK.out | apply KeepBut.set_ | apply keep_drewN | apply keep_drew | apply keep_alloc | refine keep_far ?_ GW217.out _) | exact HK.out)) hk (.inl rfl)); replace HB := ak (hb); replace HI0 := ak (hi); (try clear hb); (try clear hk); (try clear hi)) | ((with_reducible refine gate_dst (N := 6) rfl ?_); refine Kd.R_lit (Kd.int .i64) _ 3 ?hg (N := 6) ?hd (xs := ([(-1), 20, 21] : List Int)) (inner := [.int .i64 (-1), .int .i64 20, .int .i64 21]) (ok := fun _ => True) (okp := fun _ => True) ?hr ?hp (fun _ hk => hk) trivial (Below.refl _ _) (Nat.le_refl _) (by simp) ?_; (case hd => rfl); (case hg => rfl); (case hr => first | (go_simp; done) | (go_simp; rfl)); (case hp => exact (Reps.one (show Kd.M (Kd.int .i64) _ _ _ (-1) [.int .i64 (-1)] from rfl) (Reps.one (show Kd.M (Kd.int .i64) _ _ _ 20 [.int .i64 20] from rfl) (Reps.one (show Kd.M (Kd.int .i64) _ _ _ 21 [.int .i64 21] from rfl) (Reps.none _ _))))); intro v222 w9 ho10 hb hg_ hnew_; clear hg_ hnew_; (first | rw [← Ny221.out] at ho10 | (simp only [Int.reduceToNat] at ho10; rw [← Ny221.out] at ho10)); have HO223 := ak (Kd.R_lower ho10 (keep_size (w := w) (g := g) (row := none) (by repeat (first | (with_reducible first | exact HK.out | apply KeepBut.set_ | apply keep_drewN | apply keep_drew | apply keep_alloc | refine keep_far ?_ GW217.out _) | exact HK.out)))); replace BK217 := ak (blk_below (blkd BK217) hb); replace HK := ak (KeepBut.trans (by repeat (first | (with_reducible first | exact HK.out | apply KeepBut.set_ | apply keep_drewN | apply keep_drew | apply keep_alloc | refine keep_far ?_ GW217.out _) | exact HK.out)) (KeepBut.of_below hb g none) (.inl rfl)); replace HB := ak (below_step (by repeat (first | (with_reducible first | exact HB.out | apply below_alloc | apply pw_below_drewN | apply below_drew1 | refine below_set ?_ (IsS151.ge HI0.out) | refine below_set ?_ GE217.out) | exact HB.out)) hb); replace HI0 := ak (IsS151.below (by repeat (first | (with_reducible first | exact HI0.out | apply IsS151.alloc | apply IsS151.drewN | apply IsS151.drew | apply IsS151.set_1 | apply IsS151.set_2 | refine IsS151.far ?_ NB0_217.out _) | exact HI0.out)) hb); clear hb ho10; obtain ⟨Ao11, co11, eo11⟩ := Kd.R_slice HO223.out; subst eo11) | ((with_reducible refine gate_callee (f := 166) rfl ?_); refine goesLa (some 7) rfl Try.func166 #[.pointer (some ⟨g, 0, none⟩), .slice Ao11 y221.length co11] rfl ?_; (with_reducible refine (spec_l1Cur_among.calls g s0_0 t219 t220 _ _ y221 t224 t225 t226 w0 _ ?side1 ?side2 ?side3 ?side4 ?side5 A4.out).mono ?_); (case side1 => repeat (first | (with_reducible first | exact HI0.out | apply IsS151.alloc | apply IsS151.drewN | apply IsS151.drew | apply IsS151.set_1 | apply IsS151.set_2 | refine IsS151.far ?_ NB0_217.out _) | exact HI0.out)); (case side2 => repeat (first | (with_reducible first | exact HB.out | apply below_alloc | apply pw_below_drewN | apply below_drew1 | refine below_set ?_ (IsS151.ge HI0.out) | refine below_set ?_ GE217.out) | exact HB.out)); (case side3 => exact cd (Kd.R_reads' HO223.out).2.2); (case side4 => exact (Kd.R_reads' HO223.out).2.1); (case side5 => exact far_slice (IsS151.own_ne HI0.out HO223.out (by decide))); rintro e w12 ⟨rfl, hi, hb, hk⟩; refine ⟨_, rfl, ?_⟩; replace BK217 := ak (KeepBut.blk hk (g' := gb217) (blkd BK217) NB217_0.out (by simp)); replace HO223 := ak (Kd.R_mono (Kd.R_keep (IsS151.apart (show IsS151 w0 _ g s0_0 t219 t220 from by repeat (first | (with_reducible first | exact HI0.out | apply IsS151.alloc | apply IsS151.drewN | apply IsS151.drew | apply IsS151.set_1 | apply IsS151.set_2 | refine IsS151.far ?_ NB0_217.out _) | exact HI0.out)) (rdl HO223) (by decide)) hk (fun _ h => h.2)) (fun _ h => h.1)); replace HK := ak (KeepBut.trans (by repeat (first | (with_reducible first | exact HK.out | apply KeepBut.set_ | apply keep_drewN | apply keep_drew | apply keep_alloc | refine keep_far ?_ GW217.out _) | exact HK.out)) hk (.inl rfl)); replace HB := ak (hb); replace HI0 := ak (hi); (try clear hb); (try clear hk); (try clear hi)) | ((with_reducible refine gate_dst (N := 9) rfl ?_); refine Kd.R_lit (Kd.int .i64) _ 3 ?hg (N := 9) ?hd (xs := ([0, 1000, 1001] : List Int)) (inner := [.int .i64 0, .int .i64 1000, .int .i64 1001]) (ok := fun _ => True) (okp := fun _ => True) ?hr ?hp (fun _ hk => hk) trivial (Below.refl _ _) (Nat.le_refl _) (by simp) ?_; (case hd => rfl); (case hg => rfl); (case hr => first | (go_simp; done) | (go_simp; rfl)); (case hp => exact (Reps.one (show Kd.M (Kd.int .i64) _ _ _ 0 [.int .i64 0] from rfl) (Reps.one (show Kd.M (Kd.int .i64) _ _ _ 1000 [.int .i64 1000] from rfl) (Reps.one (show Kd.M (Kd.int .i64) _ _ _ 1001 [.int .i64 1001] from rfl) (Reps.none _ _))))); intro v228 w13 ho14 hb hg_ hnew_; clear hg_ hnew_; (first | rw [← Ny227.out] at ho14 | (simp only [Int.reduceToNat] at ho14; rw [← Ny227.out] at ho14)); have HO229 := ak (Kd.R_lower (Kd.R_new' ho14 (Kd.R_lt (rdl HO223))) (keep_size (w := w) (g := g) (row := none) (by repeat (first | (with_reducible first | exact HK.out | apply KeepBut.set_ | apply keep_drewN | apply keep_drew | apply keep_alloc | refine keep_far ?_ GW217.out _) | exact HK.out)))); replace HO223 := ak (Kd.R_elder' (rdl HO223) (Kd.R_base ho14) hb); replace BK217 := ak (blk_below (blkd BK217) hb); replace HK := ak (KeepBut.trans (by repeat (first | (with_reducible first | exact HK.out | apply KeepBut.set_ | apply keep_drewN | apply keep_drew | apply keep_alloc | refine keep_far ?_ GW217.out _) | exact HK.out)) (KeepBut.of_below hb g none) (.inl rfl)); replace HB := ak (below_step (by repeat (first | (with_reducible first | exact HB.out | apply below_alloc | apply pw_below_drewN | apply below_drew1 | refine below_set ?_ (IsS151.ge HI0.out) | refine below_set ?_ GE217.out) | exact HB.out)) hb); replace HI0 := ak (IsS151.below (by repeat (first | (with_reducible first | exact HI0.out | apply IsS151.alloc | apply IsS151.drewN | apply IsS151.drew | apply IsS151.set_1 | apply IsS151.set_2 | refine IsS151.far ?_ NB0_217.out _) | exact HI0.out)) hb); clear hb ho14; obtain ⟨Ao15, co15, eo15⟩ := Kd.R_slice HO229.out; subst eo15) | ((with_reducible refine gate_callee (f := 166) rfl ?_); refine goesLa (some 10) rfl Try.func166 #[.pointer (some ⟨g, 0, none⟩), .slice Ao15 y227.length co15] rfl ?_; (with_reducible refine (spec_l1Cur_among.calls g s0_0 t225 t226 _ _ y227 t230 t231 t232 w0 _ ?side1 ?side2 ?side3 ?side4 ?side5 A5.out).mono ?_); (case side1 => repeat (first | (with_reducible first | exact HI0.out | apply IsS151.alloc | apply IsS151.drewN | apply IsS151.drew | apply IsS151.set_1 | apply IsS151.set_2 | refine IsS151.far ?_ NB0_217.out _) | exact HI0.out)); (case side2 => repeat (first | (with_reducible first | exact HB.out | apply below_alloc | apply pw_below_drewN | apply below_drew1 | refine below_set ?_ (IsS151.ge HI0.out) | refine below_set ?_ GE217.out) | exact HB.out)); (case side3 => exact cd (Kd.R_reads' HO229.out).2.2); (case side4 => exact (Kd.R_reads' HO229.out).2.1); (case side5 => exact far_slice (IsS151.own_ne HI0.out HO229.out (by decide))); rintro e w16 ⟨rfl, hi, hb, hk⟩; refine ⟨_, rfl, ?_⟩; replace BK217 := ak (KeepBut.blk hk (g' := gb217) (blkd BK217) NB217_0.out (by simp)); replace HO223 := ak (Kd.R_mono (Kd.R_keep (IsS151.apart (show IsS151 w0 _ g s0_0 t225 t226 from by repeat (first | (with_reducible first | exact HI0.out | apply IsS151.alloc | apply IsS151.drewN | apply IsS151.drew | apply IsS151.set_1 | apply IsS151.set_2 | refine IsS151.far ?_ NB0_217.out _) | exact HI0.out)) (rdl HO223) (by decide)) hk (fun _ h => h.2)) (fun _ h => h.1)); replace HO229 := ak (Kd.R_mono (Kd.R_keep (IsS151.apart (show IsS151 w0 _ g s0_0 t225 t226 from by repeat (first | (with_reducible first | exact HI0.out | apply IsS151.alloc | apply IsS151.drewN | apply IsS151.drew | apply IsS151.set_1 | apply IsS151.set_2 | refine IsS151.far ?_ NB0_217.out _) | exact HI0.out)) (rdl HO229) (by decide)) hk (fun _ h => h.2)) (fun _ h => h.1)); replace HK := ak (KeepBut.trans (by repeat (first | (with_reducible first | exact HK.out | apply KeepBut.set_ | apply keep_drewN | apply keep_drew | apply keep_alloc | refine keep_far ?_ GW217.out _) | exact HK.out)) hk (.inl rfl)); replace HB := ak (hb); replace HI0 := ak (hi); (try clear hb); (try clear hk); (try clear hi)) | ((with_reducible refine gate_dst (N := 12) rfl ?_); refine Kd.R_lit (Kd.int .i64) _ 3 ?hg (N := 12) ?hd (xs := ([0, 100, 101] : List Int)) (inner := [.int .i64 0, .int .i64 100, .int .i64 101]) (ok := fun _ => True) (okp := fun _ => True) ?hr ?hp (fun _ hk => hk) trivial (Below.refl _ _) (Nat.le_refl _) (by simp) ?_; (case hd => rfl); (case hg => rfl); (case hr => first | (go_simp; done) | (go_simp; rfl)); (case hp => exact (Reps.one (show Kd.M (Kd.int .i64) _ _ _ 0 [.int .i64 0] from rfl) (Reps.one (show Kd.M (Kd.int .i64) _ _ _ 100 [.int .i64 100] from rfl) (Reps.one (show Kd.M (Kd.int .i64) _ _ _ 101 [.int .i64 101] from rfl) (Reps.none _ _))))); intro v234 w17 ho18 hb hg_ hnew_; clear hg_ hnew_; (first | rw [← Ny233.out] at ho18 | (simp only [Int.reduceToNat] at ho18; rw [← Ny233.out] at ho18)); have HO235 := ak (Kd.R_lower (Kd.R_new' (Kd.R_new' ho18 (Kd.R_lt (rdl HO223))) (Kd.R_lt (rdl HO229))) (keep_size (w := w) (g := g) (row := none) (by repeat (first | (with_reducible first | exact HK.out | apply KeepBut.set_ | apply keep_drewN | apply keep_drew | apply keep_alloc | refine keep_far ?_ GW217.out _) | exact HK.out)))); replace HO223 := ak (Kd.R_elder' (rdl HO223) (Kd.R_base ho18) hb); replace HO229 := ak (Kd.R_elder' (rdl HO229) (Kd.R_base ho18) hb); replace BK217 := ak (blk_below (blkd BK217) hb); replace HK := ak (KeepBut.trans (by repeat (first | (with_reducible first | exact HK.out | apply KeepBut.set_ | apply keep_drewN | apply keep_drew | apply keep_alloc | refine keep_far ?_ GW217.out _) | exact HK.out)) (KeepBut.of_below hb g none) (.inl rfl)); replace HB := ak (below_step (by repeat (first | (with_reducible first | exact HB.out | apply below_alloc | apply pw_below_drewN | apply below_drew1 | refine below_set ?_ (IsS151.ge HI0.out) | refine below_set ?_ GE217.out) | exact HB.out)) hb); replace HI0 := ak (IsS151.below (by repeat (first | (with_reducible first | exact HI0.out | apply IsS151.alloc | apply IsS151.drewN | apply IsS151.drew | apply IsS151.set_1 | apply IsS151.set_2 | refine IsS151.far ?_ NB0_217.out _) | exact HI0.out)) hb); clear hb ho18; obtain ⟨Ao19, co19, eo19⟩ := Kd.R_slice HO235.out; subst eo19) | ((with_reducible refine gate_callee (f := 166) rfl ?_); refine goesLa (some 13) rfl Try.func166 #[.pointer (some ⟨g, 0, none⟩), .slice Ao19 y233.length co19] rfl ?_; (with_reducible refine (spec_l1Cur_among.calls g s0_0 t231 t232 _ _ y233 t236 t237 t238 w0 _ ?side1 ?side2 ?side3 ?side4 ?side5 A6.out).mono ?_); (case side1 => repeat (first | (with_reducible first | exact HI0.out | apply IsS151.alloc | apply IsS151.drewN | apply IsS151.drew | apply IsS151.set_1 | apply IsS151.set_2 | refine IsS151.far ?_ NB0_217.out _) | exact HI0.out)); (case side2 => repeat (first | (with_reducible first | exact HB.out | apply below_alloc | apply pw_below_drewN | apply below_drew1 | refine below_set ?_ (IsS151.ge HI0.out) | refine below_set ?_ GE217.out) | exact HB.out)); (case side3 => exact cd (Kd.R_reads' HO235.out).2.2); (case side4 => exact (Kd.R_reads' HO235.out).2.1); (case side5 => exact far_slice (IsS151.own_ne HI0.out HO235.out (by decide))); rintro e w20 ⟨rfl, hi, hb, hk⟩; refine ⟨_, rfl, ?_⟩; replace BK217 := ak (KeepBut.blk hk (g' := gb217) (blkd BK217) NB217_0.out (by simp)); replace HO223 := ak (Kd.R_mono (Kd.R_keep (IsS151.apart (show IsS151 w0 _ g s0_0 t231 t232 from by repeat (first | (with_reducible first | exact HI0.out | apply IsS151.alloc | apply IsS151.drewN | apply IsS151.drew | apply IsS151.set_1 | apply IsS151.set_2 | refine IsS151.far ?_ NB0_217.out _) | exact HI0.out)) (rdl HO223) (by decide)) hk (fun _ h => h.2)) (fun _ h => h.1)); replace HO229 := ak (Kd.R_mono (Kd.R_keep (IsS151.apart (show IsS151 w0 _ g s0_0 t231 t232 from by repeat (first | (with_reducible first | exact HI0.out | apply IsS151.alloc | apply IsS151.drewN | apply IsS151.drew | apply IsS151.set_1 | apply IsS151.set_2 | refine IsS151.far ?_ NB0_217.out _) | exact HI0.out)) (rdl HO229) (by decide)) hk (fun _ h => h.2)) (fun _ h => h.1)); replace HO235 := ak (Kd.R_mono (Kd.R_keep (IsS151.apart (show IsS151 w0 _ g s0_0 t231 t232 from by repeat (first | (with_reducible first | exact HI0.out | apply IsS151.alloc | apply IsS151.drewN | apply IsS151.drew | apply IsS151.set_1 | apply IsS151.set_2 | refine IsS151.far ?_ NB0_217.out _) | exact HI0.out)) (rdl HO235) (by decide)) hk (fun _ h => h.2)) (fun _ h => h.1)); replace HK := ak (KeepBut.trans (by repeat (first | (with_reducible first | exact HK.out | apply KeepBut.set_ | apply keep_drewN | apply keep_drew | apply keep_alloc | refine keep_far ?_ GW217.out _) | exact HK.out)) hk (.inl rfl)); replace HB := ak (hb); replace HI0 := ak (hi); (try clear hb); (try clear hk); (try clear hi); have hnb21 := NB217_0.out; have hnc21 := NB0_217.out; obtain ⟨hcz22_0, hcz22_1, hcz22_2, hfz22_0, hfz22_1, hfz22_2⟩ := box3 BK217))
  refine bodyPost_ret (results_cell_row rfl _ _ gb217 85 #[.int .i64 t224, .int .i64 t230, .int .i64 t236] (0, 0) _ rfl (by (with_reducible repeat (first | refine blk_drewN ?_ _ | refine blk_drew ?_ | refine blk_alloc ?_ _)); refine blk_put (cs := #[.int .i64 t224, .int .i64 t230, .int .i64 0]) ?_ 2 _ rfl; (with_reducible repeat (first | refine blk_drewN ?_ _ | refine blk_drew ?_ | refine blk_alloc ?_ _)); refine blk_put (cs := #[.int .i64 t224, .int .i64 0, .int .i64 0]) ?_ 1 _ rfl; (with_reducible repeat (first | refine blk_drewN ?_ _ | refine blk_drew ?_ | refine blk_alloc ?_ _)); refine blk_put (cs := #[.int .i64 0, .int .i64 0, .int .i64 0]) ?_ 0 _ rfl; (with_reducible repeat (first | refine blk_drewN ?_ _ | refine blk_drew ?_ | refine blk_alloc ?_ _)); exact BK217.out) Try.underlying85 rfl (by kernel_rfl)) rfl ?_
  exact ⟨er2, by repeat (first | (with_reducible first | exact HI0.out | apply IsS151.alloc | apply IsS151.drewN | apply IsS151.drew | apply IsS151.set_1 | apply IsS151.set_2 | refine IsS151.far ?_ NB0_217.out _) | exact HI0.out), by repeat (first | (with_reducible first | exact HB.out | apply below_alloc | apply pw_below_drewN | apply below_drew1 | refine below_set ?_ (IsS151.ge HI0.out) | refine below_set ?_ GE217.out) | exact HB.out), by repeat (first | (with_reducible first | exact HK.out | apply KeepBut.set_ | apply keep_drewN | apply keep_drew | apply keep_alloc | refine keep_far ?_ GW217.out _) | exact HK.out)⟩
 ·replace c3 := Bool.eq_false_iff.mpr c3
  subst c3
  have H1 : ((spec_l1Cur_pick.f s0_0 t219 t220 3).bind fun bt239 => ((spec_l1Cur_pick.f s0_0 bt239.2.1 bt239.2.2 3).bind fun bt242 => ((spec_l1Cur_pick.f s0_0 bt242.2.1 bt242.2.2 2).bind fun bt245 => (some (bt239.1, bt242.1, bt245.1, bt245.2.1, bt245.2.2))))) = some (r1, r2, r3, r4, r5) := by rw [if_neg (show ¬ (false = true) by decide)] at H; exact H
  clear H
  have H := H1
  clear H1; replace H := bS H; obtain ⟨⟨t239, t240, t241⟩, A23, H⟩ := H
  replace H : ((spec_l1Cur_pick.f s0_0 t240 t241 3).bind fun bt242 => ((spec_l1Cur_pick.f s0_0 bt242.2.1 bt242.2.2 2).bind fun bt245 => (some (t239, bt242.1, bt245.1, bt245.2.1, bt245.2.2)))) = some (r1, r2, r3, r4, r5) := H
  replace H := bS H; obtain ⟨⟨t242, t243, t244⟩, A24, H⟩ := H
  replace H : ((spec_l1Cur_pick.f s0_0 t243 t244 2).bind fun bt245 => (some (t239, t242, bt245.1, bt245.2.1, bt245.2.2))) = some (r1, r2, r3, r4, r5) := H
  replace H := bS H; obtain ⟨⟨t245, t246, t247⟩, A25, H⟩ := H
  replace H : (some (t239, t242, t245, t246, t247)) = some (r1, r2, r3, r4, r5) := H
  simp only [Option.some.injEq, Prod.mk.injEq] at H
  obtain ⟨rfl, rfl, rfl, rfl, rfl⟩ := H
  go_enter Try.func148, Try.ntmps148
  go_wp2_with (first | ((with_reducible refine gate_dst (N := 2) rfl ?_); refine boxev 2 #[.int .i64 0, .int .i64 0, .int .i64 0] 85 ?_; intro gb217 hg w26 hbox hb; replace HB := ak (below_step (by repeat (first | (with_reducible first | exact HB.out | apply below_alloc | apply pw_below_drewN | apply below_drew1 | refine below_set ?_ (IsS151.ge HI0.out)) | exact HB.out)) hb); have BK217 := ak (hbox); have GW217 := ak ((by rw [hg]; exact (keep_size (w := w) (g := g) (row := none) (by repeat (first | (with_reducible first | exact HK.out | apply KeepBut.set_ | apply keep_drewN | apply keep_drew | apply keep_alloc) | exact HK.out))) : w.heap.size ≤ gb217)); have GE217 := ak ((Nat.le_trans HW0.out (by rw [hg]; exact (keep_size (w := w) (g := g) (row := none) (by repeat (first | (with_reducible first | exact HK.out | apply KeepBut.set_ | apply keep_drewN | apply keep_drew | apply keep_alloc) | exact HK.out))) : w.heap.size ≤ gb217) : w0.heap.size ≤ gb217)); replace HK := ak (KeepBut.trans (by repeat (first | (with_reducible first | exact HK.out | apply KeepBut.set_ | apply keep_drewN | apply keep_drew | apply keep_alloc) | exact HK.out)) (KeepBut.of_below hb g none) (.inl rfl)); have NB0_217 := ak ((by rw [hg]; exact Nat.ne_of_lt (IsS151.lt (show IsS151 w0 _ g s0_0 s0_1 s0_2 from by repeat (first | (with_reducible first | exact HI0.out | apply IsS151.alloc | apply IsS151.drewN | apply IsS151.drew | apply IsS151.set_1 | apply IsS151.set_2) | exact HI0.out))) : g ≠ gb217)); have NB217_0 := ak ((by rw [hg]; exact Nat.ne_of_gt (IsS151.lt (show IsS151 w0 _ g s0_0 s0_1 s0_2 from by repeat (first | (with_reducible first | exact HI0.out | apply IsS151.alloc | apply IsS151.drewN | apply IsS151.drew | apply IsS151.set_1 | apply IsS151.set_2) | exact HI0.out))) : gb217 ≠ g)); replace HI0 := ak (IsS151.below (by repeat (first | (with_reducible first | exact HI0.out | apply IsS151.alloc | apply IsS151.drewN | apply IsS151.drew | apply IsS151.set_1 | apply IsS151.set_2) | exact HI0.out)) hb); clear hb hbox hg) | ((with_reducible refine gate_callee (f := 149) rfl ?_); refine goesLa (some 4) rfl Try.func149 #[.pointer (some ⟨g, 0, none⟩), .int .i64 30] rfl ?_; (with_reducible refine (spec_l1Cur_one.calls g s0_0 s0_1 s0_2 30 false t219 t220 w0 _ ?side1 ?side2 A2.out).mono ?_); (case side1 => repeat (first | (with_reducible first | exact HI0.out | apply IsS151.alloc | apply IsS151.drewN | apply IsS151.drew | apply IsS151.set_1 | apply IsS151.set_2 | refine IsS151.far ?_ NB0_217.out _) | exact HI0.out)); (case side2 => repeat (first | (with_reducible first | exact HB.out | apply below_alloc | apply pw_below_drewN | apply below_drew1 | refine below_set ?_ (IsS151.ge HI0.out) | refine below_set ?_ GE217.out) | exact HB.out)); rintro e w27 ⟨rfl, hi, hb, hk⟩; refine ⟨_, rfl, ?_⟩; replace BK217 := ak (KeepBut.blk hk (g' := gb217) (blkd BK217) NB217_0.out (by simp)); replace HK := ak (KeepBut.trans (by repeat (first | (with_reducible first | exact HK.out | apply KeepBut.set_ | apply keep_drewN | apply keep_drew | apply keep_alloc | refine keep_far ?_ GW217.out _) | exact HK.out)) hk (.inl rfl)); replace HB := ak (hb); replace HI0 := ak (hi); (try clear hb); (try clear hk); (try clear hi)) | ((with_reducible refine gate_callee (f := 147) rfl ?_); refine goesLa (some 16) rfl Try.func147 #[.pointer (some ⟨g, 0, none⟩), .int .i64 3] rfl ?_; (with_reducible refine (spec_l1Cur_pick.calls g s0_0 t219 t220 3 t239 t240 t241 w0 _ ?side1 ?side2 A23.out).mono ?_); (case side1 => repeat (first | (with_reducible first | exact HI0.out | apply IsS151.alloc | apply IsS151.drewN | apply IsS151.drew | apply IsS151.set_1 | apply IsS151.set_2 | refine IsS151.far ?_ NB0_217.out _) | exact HI0.out)); (case side2 => repeat (first | (with_reducible first | exact HB.out | apply below_alloc | apply pw_below_drewN | apply below_drew1 | refine below_set ?_ (IsS151.ge HI0.out) | refine below_set ?_ GE217.out) | exact HB.out)); rintro e w28 ⟨rfl, hi, hb, hk⟩; refine ⟨_, rfl, ?_⟩; replace BK217 := ak (KeepBut.blk hk (g' := gb217) (blkd BK217) NB217_0.out (by simp)); replace HK := ak (KeepBut.trans (by repeat (first | (with_reducible first | exact HK.out | apply KeepBut.set_ | apply keep_drewN | apply keep_drew | apply keep_alloc | refine keep_far ?_ GW217.out _) | exact HK.out)) hk (.inl rfl)); replace HB := ak (hb); replace HI0 := ak (hi); (try clear hb); (try clear hk); (try clear hi)) | ((with_reducible refine gate_callee (f := 147) rfl ?_); refine goesLa (some 18) rfl Try.func147 #[.pointer (some ⟨g, 0, none⟩), .int .i64 3] rfl ?_; (with_reducible refine (spec_l1Cur_pick.calls g s0_0 t240 t241 3 t242 t243 t244 w0 _ ?side1 ?side2 A24.out).mono ?_); (case side1 => repeat (first | (with_reducible first | exact HI0.out | apply IsS151.alloc | apply IsS151.drewN | apply IsS151.drew | apply IsS151.set_1 | apply IsS151.set_2 | refine IsS151.far ?_ NB0_217.out _) | exact HI0.out)); (case side2 => repeat (first | (with_reducible first | exact HB.out | apply below_alloc | apply pw_below_drewN | apply below_drew1 | refine below_set ?_ (IsS151.ge HI0.out) | refine below_set ?_ GE217.out) | exact HB.out)); rintro e w29 ⟨rfl, hi, hb, hk⟩; refine ⟨_, rfl, ?_⟩; replace BK217 := ak (KeepBut.blk hk (g' := gb217) (blkd BK217) NB217_0.out (by simp)); replace HK := ak (KeepBut.trans (by repeat (first | (with_reducible first | exact HK.out | apply KeepBut.set_ | apply keep_drewN | apply keep_drew | apply keep_alloc | refine keep_far ?_ GW217.out _) | exact HK.out)) hk (.inl rfl)); replace HB := ak (hb); replace HI0 := ak (hi); (try clear hb); (try clear hk); (try clear hi)) | ((with_reducible refine gate_callee (f := 147) rfl ?_); refine goesLa (some 20) rfl Try.func147 #[.pointer (some ⟨g, 0, none⟩), .int .i64 2] rfl ?_; (with_reducible refine (spec_l1Cur_pick.calls g s0_0 t243 t244 2 t245 t246 t247 w0 _ ?side1 ?side2 A25.out).mono ?_); (case side1 => repeat (first | (with_reducible first | exact HI0.out | apply IsS151.alloc | apply IsS151.drewN | apply IsS151.drew | apply IsS151.set_1 | apply IsS151.set_2 | refine IsS151.far ?_ NB0_217.out _) | exact HI0.out)); (case side2 => repeat (first | (with_reducible first | exact HB.out | apply below_alloc | apply pw_below_drewN | apply below_drew1 | refine below_set ?_ (IsS151.ge HI0.out) | refine below_set ?_ GE217.out) | exact HB.out)); rintro e w30 ⟨rfl, hi, hb, hk⟩; refine ⟨_, rfl, ?_⟩; replace BK217 := ak (KeepBut.blk hk (g' := gb217) (blkd BK217) NB217_0.out (by simp)); replace HK := ak (KeepBut.trans (by repeat (first | (with_reducible first | exact HK.out | apply KeepBut.set_ | apply keep_drewN | apply keep_drew | apply keep_alloc | refine keep_far ?_ GW217.out _) | exact HK.out)) hk (.inl rfl)); replace HB := ak (hb); replace HI0 := ak (hi); (try clear hb); (try clear hk); (try clear hi); have hnb31 := NB217_0.out; have hnc31 := NB0_217.out; obtain ⟨hcz32_0, hcz32_1, hcz32_2, hfz32_0, hfz32_1, hfz32_2⟩ := box3 BK217))
  refine bodyPost_ret (results_cell_row rfl _ _ gb217 85 #[.int .i64 t239, .int .i64 t242, .int .i64 t245] (0, 0) _ rfl (by (with_reducible repeat (first | refine blk_drewN ?_ _ | refine blk_drew ?_ | refine blk_alloc ?_ _)); refine blk_put (cs := #[.int .i64 t239, .int .i64 t242, .int .i64 0]) ?_ 2 _ rfl; (with_reducible repeat (first | refine blk_drewN ?_ _ | refine blk_drew ?_ | refine blk_alloc ?_ _)); refine blk_put (cs := #[.int .i64 t239, .int .i64 0, .int .i64 0]) ?_ 1 _ rfl; (with_reducible repeat (first | refine blk_drewN ?_ _ | refine blk_drew ?_ | refine blk_alloc ?_ _)); refine blk_put (cs := #[.int .i64 0, .int .i64 0, .int .i64 0]) ?_ 0 _ rfl; (with_reducible repeat (first | refine blk_drewN ?_ _ | refine blk_drew ?_ | refine blk_alloc ?_ _)); exact BK217.out) Try.underlying85 rfl (by kernel_rfl)) rfl ?_
  exact ⟨er2, by repeat (first | (with_reducible first | exact HI0.out | apply IsS151.alloc | apply IsS151.drewN | apply IsS151.drew | apply IsS151.set_1 | apply IsS151.set_2 | refine IsS151.far ?_ NB0_217.out _) | exact HI0.out), by repeat (first | (with_reducible first | exact HB.out | apply below_alloc | apply pw_below_drewN | apply below_drew1 | refine below_set ?_ (IsS151.ge HI0.out) | refine below_set ?_ GE217.out) | exact HB.out), by repeat (first | (with_reducible first | exact HK.out | apply KeepBut.set_ | apply keep_drewN | apply keep_drew | apply keep_alloc | refine keep_far ?_ GW217.out _) | exact HK.out)⟩

/-! ### spec_l1Cur_statements: function 142 -/
mutual
def spec_l1Cur_statements.j0 : Nat → List (S91) → Int → List Int → Int → Int → Option ((List (S91)) × Int × Int)
  | 0, _, _, _, _, _ => none
  | k + 1, x3, x4, x1000, x1001, x1002 => spec_l1Cur_statements.l0 k x3 x4 x1000 x1001 x1002
def spec_l1Cur_statements.l0 : Nat → List (S91) → Int → List Int → Int → Int → Option ((List (S91)) × Int × Int)
  | 0, _, _, _, _, _ => none
  | k + 1, x3, x4, x1000, x1001, x1002 => if x4 > 0 then ((spec_l1Cur_pick.f x1000 x1001 x1002 7).bind fun bt257 => ((spec_l1Cur_pick.f x1000 bt257.2.1 bt257.2.2 2).bind fun bt260 => ((spec_l1Cur_pick.f x1000 bt260.2.1 bt260.2.2 2).bind fun bt263 => ((spec_l1Cur_one.f x1000 bt263.2.1 bt263.2.2 3).bind fun bt266 => (if x3.length < 3518437208883 then (spec_l1Cur_statements.l0 k (x3 ++ [(⟨bt257.1, (⟨bt260.1, bt263.1, 0⟩ : S85), !bt266.1⟩ : S91)]) (wrap64 (x4 - 1)) x1000 bt266.2.1 bt266.2.2) else (none)))))) else (if (x3.length : Int) > 0 then ((spec_l1Cur_one.f x1000 x1001 x1002 20).bind fun bt272 => (spec_l1Cur_statements.j2 k x3 bt272.1 x1000 bt272.2.1 bt272.2.2)) else (spec_l1Cur_statements.j2 k x3 false x1000 x1001 x1002))
def spec_l1Cur_statements.j2 : Nat → List (S91) → Bool → List Int → Int → Int → Option ((List (S91)) × Int × Int)
  | 0, _, _, _, _, _ => none
  | k + 1, x3, x36, x1000, x1001, x1002 => if x36 = true then ((spec_l1Cur_among.f x1000 x1001 x1002 (([(-1), 6, 7] : List Int))).bind fun bt278 => ((spec_l1Cur_claim.f x1000 bt278.2.1 bt278.2.2).bind fun bt281 => (if 0 < (x3.length : Int) then (some ((x3.set (0 : Int).toNat (⟨bt278.1, (⟨bt281.1, bt281.2.1, bt281.2.2.1⟩ : S85), false⟩ : S91)), bt281.2.2.2.1, bt281.2.2.2.2)) else (none)))) else (some (x3, x1001, x1002))
end
def spec_l1Cur_statements.f (k : Nat) (s0_0 : List Int) (s0_1 : Int) (s0_2 : Int) : Option ((List (S91)) × Int × Int) := (spec_l1Cur_pick.f s0_0 s0_1 s0_2 14).bind fun bt248 => ((spec_l1Cur_one.f s0_0 bt248.2.1 bt248.2.2 20).bind fun bt251 => (if bt251.1 = true then ((spec_l1Cur_pick.f s0_0 bt251.2.1 bt251.2.2 2).bind fun bt254 => (spec_l1Cur_statements.j0 k ([] : List (S91)) (wrap64 (60 + bt254.1)) s0_0 bt254.2.1 bt254.2.2)) else (spec_l1Cur_statements.j0 k ([] : List (S91)) bt248.1 s0_0 bt251.2.1 bt251.2.2)))
theorem spec_l1Cur_statements.mono_l : ∀ k, (∀ y0 y1 y2 y3 y4, LeO (spec_l1Cur_statements.j0 k y0 y1 y2 y3 y4) (spec_l1Cur_statements.j0 (k + 1) y0 y1 y2 y3 y4)) ∧ (∀ y0 y1 y2 y3 y4, LeO (spec_l1Cur_statements.l0 k y0 y1 y2 y3 y4) (spec_l1Cur_statements.l0 (k + 1) y0 y1 y2 y3 y4)) ∧ (∀ y0 y1 y2 y3 y4, LeO (spec_l1Cur_statements.j2 k y0 y1 y2 y3 y4) (spec_l1Cur_statements.j2 (k + 1) y0 y1 y2 y3 y4))
 | 0 => ⟨fun _ _ _ _ _ r h => by simp [spec_l1Cur_statements.j0] at h, fun _ _ _ _ _ r h => by simp [spec_l1Cur_statements.l0] at h, fun _ _ _ _ _ r h => by simp [spec_l1Cur_statements.j2] at h⟩
 | k + 1 => by
  obtain ⟨ih0, ih1, ih2⟩ := spec_l1Cur_statements.mono_l k
  refine ⟨?_, ?_, ?_⟩
  ·intro y0 y1 y2 y3 y4
   unfold spec_l1Cur_statements.j0
   repeat' (first | (with_reducible first | exact ih0 _ _ _ _ _ | exact ih1 _ _ _ _ _ | exact ih2 _ _ _ _ _ | exact LeO.refl _ | exact LeO.none _ | refine LeO.ite ?_ ?_ | refine LeO.bind ?_ (fun _ => ?_)) | exact ih0 _ _ _ _ _ | exact ih1 _ _ _ _ _ | exact ih2 _ _ _ _ _ | exact LeO.none _ | refine LeO.ite ?_ ?_ | refine LeO.bind ?_ (fun _ => ?_))
  ·intro y0 y1 y2 y3 y4
   unfold spec_l1Cur_statements.l0
   repeat' (first | (with_reducible first | exact ih0 _ _ _ _ _ | exact ih1 _ _ _ _ _ | exact ih2 _ _ _ _ _ | exact LeO.refl _ | exact LeO.none _ | refine LeO.ite ?_ ?_ | refine LeO.bind ?_ (fun _ => ?_)) | exact ih0 _ _ _ _ _ | exact ih1 _ _ _ _ _ | exact ih2 _ _ _ _ _ | exact LeO.none _ | refine LeO.ite ?_ ?_ | refine LeO.bind ?_ (fun _ => ?_))
  ·intro y0 y1 y2 y3 y4
   unfold spec_l1Cur_statements.j2
   repeat' (first | (with_reducible first | exact ih0 _ _ _ _ _ | exact ih1 _ _ _ _ _ | exact ih2 _ _ _ _ _ | exact LeO.refl _ | exact LeO.none _ | refine LeO.ite ?_ ?_ | refine LeO.bind ?_ (fun _ => ?_)) | exact ih0 _ _ _ _ _ | exact ih1 _ _ _ _ _ | exact ih2 _ _ _ _ _ | exact LeO.none _ | refine LeO.ite ?_ ?_ | refine LeO.bind ?_ (fun _ => ?_))
theorem spec_l1Cur_statements.mono : ∀ a0 a1 a2 k, LeO (spec_l1Cur_statements.f k a0 a1 a2) (spec_l1Cur_statements.f (k + 1) a0 a1 a2) := by
 intro a0 a1 a2 k
 obtain ⟨ih0, ih1, ih2⟩ := spec_l1Cur_statements.mono_l k
 unfold spec_l1Cur_statements.f
 repeat' (first | (with_reducible first | exact ih0 _ _ _ _ _ | exact ih1 _ _ _ _ _ | exact ih2 _ _ _ _ _ | exact LeO.refl _ | exact LeO.none _ | refine LeO.ite ?_ ?_ | refine LeO.bind ?_ (fun _ => ?_)) | exact ih0 _ _ _ _ _ | exact ih1 _ _ _ _ _ | exact ih2 _ _ _ _ _ | exact LeO.none _ | refine LeO.ite ?_ ?_ | refine LeO.bind ?_ (fun _ => ?_))
set_option maxHeartbeats 8000000 in
set_option maxRecDepth 100000 in
theorem spec_l1Cur_statements.calls (k : Nat) (g : Nat) (s0_0 : List Int) (s0_1 : Int) (s0_2 : Int) (r1 : List (S91)) (r2 : Int) (r3 : Int) (w0 w : World) (hI : IsS151 w0 w g s0_0 s0_1 s0_2) (hB : Below w0.heap.size w0 w) (h : spec_l1Cur_statements.f k s0_0 s0_1 s0_2 = some (r1, r2, r3)) :
  Calls Try.prog 142 #[.pointer (some ⟨g, 0, none⟩)] w fun e w' => ∃ v0_ : Value, e = .returned (v0_) ∧ Kd.R k91 91 w' w.heap.size (fun _ => True) v0_ r1 ∧ IsS151 w0 w' g s0_0 r2 r3 ∧ Below w0.heap.size w0 w' ∧ KeepBut w w' g none := by
 have hu85 := Try.underlying85
 have hu91 := Try.underlying91
 have HI0 := Aside0.mk hI
 have HK := Aside0.mk (KeepBut.refl w g none)
 have HL := Aside0.mk hB.size
 clear hI
 have HW0 := Aside0.mk hB.size
 have HB := Aside0.mk hB; clear hB
 have H : ((spec_l1Cur_pick.f s0_0 s0_1 s0_2 14).bind fun bt248 => ((spec_l1Cur_one.f s0_0 bt248.2.1 bt248.2.2 20).bind fun bt251 => (if bt251.1 = true then ((spec_l1Cur_pick.f s0_0 bt251.2.1 bt251.2.2 2).bind fun bt254 => (spec_l1Cur_statements.j0 k ([] : List (S91)) (wrap64 (60 + bt254.1)) s0_0 bt254.2.1 bt254.2.2)) else (spec_l1Cur_statements.j0 k ([] : List (S91)) bt248.1 s0_0 bt251.2.1 bt251.2.2)))) = some (r1, r2, r3) := h
 clear h; replace H := bS H; obtain ⟨⟨t248, t249, t250⟩, A2, H⟩ := H
 replace H : ((spec_l1Cur_one.f s0_0 t249 t250 20).bind fun bt251 => (if bt251.1 = true then ((spec_l1Cur_pick.f s0_0 bt251.2.1 bt251.2.2 2).bind fun bt254 => (spec_l1Cur_statements.j0 k ([] : List (S91)) (wrap64 (60 + bt254.1)) s0_0 bt254.2.1 bt254.2.2)) else (spec_l1Cur_statements.j0 k ([] : List (S91)) t248 s0_0 bt251.2.1 bt251.2.2))) = some (r1, r2, r3) := H
 replace H := bS H; obtain ⟨⟨t251, t252, t253⟩, A3, H⟩ := H
 replace H : (if t251 = true then ((spec_l1Cur_pick.f s0_0 t252 t253 2).bind fun bt254 => (spec_l1Cur_statements.j0 k ([] : List (S91)) (wrap64 (60 + bt254.1)) s0_0 bt254.2.1 bt254.2.2)) else (spec_l1Cur_statements.j0 k ([] : List (S91)) t248 s0_0 t252 t253)) = some (r1, r2, r3) := H
 have HC4 := Aside0.mk H; clear H
 go_enter Try.func142, Try.ntmps142
 go_upto_if 8 with (first | ((with_reducible refine gate_callee (f := 147) rfl ?_); refine goesLa (some 6) rfl Try.func147 #[.pointer (some ⟨g, 0, none⟩), .int .i64 14] rfl ?_; (with_reducible refine (spec_l1Cur_pick.calls g s0_0 s0_1 s0_2 14 t248 t249 t250 w0 _ ?side1 ?side2 A2.out).mono ?_); (case side1 => repeat (first | (with_reducible first | exact HI0.out | apply IsS151.alloc | apply IsS151.drewN | apply IsS151.drew | apply IsS151.set_1 | apply IsS151.set_2) | exact HI0.out)); (case side2 => repeat (first | (with_reducible first | exact HB.out | apply below_alloc | apply pw_below_drewN | apply below_drew1 | refine below_set ?_ (IsS151.ge HI0.out)) | exact HB.out)); rintro e w5 ⟨rfl, hi, hb, hk⟩; refine ⟨_, rfl, ?_⟩; replace HK := ak (KeepBut.trans (by repeat (first | (with_reducible first | exact HK.out | apply KeepBut.set_ | apply keep_drewN | apply keep_drew | apply keep_alloc) | exact HK.out)) hk (.inl rfl)); replace HB := ak (hb); replace HI0 := ak (hi); (try clear hb); (try clear hk); (try clear hi)) | ((with_reducible refine gate_callee (f := 149) rfl ?_); refine goesLa (some 8) rfl Try.func149 #[.pointer (some ⟨g, 0, none⟩), .int .i64 20] rfl ?_; (with_reducible refine (spec_l1Cur_one.calls g s0_0 t249 t250 20 t251 t252 t253 w0 _ ?side1 ?side2 A3.out).mono ?_); (case side1 => repeat (first | (with_reducible first | exact HI0.out | apply IsS151.alloc | apply IsS151.drewN | apply IsS151.drew | apply IsS151.set_1 | apply IsS151.set_2) | exact HI0.out)); (case side2 => repeat (first | (with_reducible first | exact HB.out | apply below_alloc | apply pw_below_drewN | apply below_drew1 | refine below_set ?_ (IsS151.ge HI0.out)) | exact HB.out)); rintro e w6 ⟨rfl, hi, hb, hk⟩; refine ⟨_, rfl, ?_⟩; replace HK := ak (KeepBut.trans (by repeat (first | (with_reducible first | exact HK.out | apply KeepBut.set_ | apply keep_drewN | apply keep_drew | apply keep_alloc) | exact HK.out)) hk (.inl rfl)); replace HB := ak (hb); replace HI0 := ak (hi); (try clear hb); (try clear hk); (try clear hi)))
 (try simp only [Act.put, List.setIfInBounds_toArray, List.set_cons_zero, List.set_cons_succ])
 go_cut [4] (fun v4 wc => ∃ (kq : Nat) (x4_3 : Int) (x1001_3 : Int) (x1002_3 : Int), v4 = .int .i64 x4_3 ∧ Aside0 (spec_l1Cur_statements.j0 kq ([] : List (S91)) x4_3 s0_0 x1001_3 x1002_3 = some (r1, r2, r3)) ∧ Aside0 (kq ≤ k) ∧ Aside0 (Kd.R k91 91 wc w.heap.size (fun _ => True) (.slice none 0 0) ([] : List (S91))) ∧ Aside0 (IsS151 w0 wc g s0_0 x1001_3 x1002_3) ∧ Aside0 (KeepBut w wc g none) ∧ Aside0 (Below w0.heap.size w0 wc))
 case first =>
  have H := HC4.out; clear HC4
  by_cases c7 : t251 = true
  ·subst c7
   have H1 : ((spec_l1Cur_pick.f s0_0 t252 t253 2).bind fun bt254 => (spec_l1Cur_statements.j0 k ([] : List (S91)) (wrap64 (60 + bt254.1)) s0_0 bt254.2.1 bt254.2.2)) = some (r1, r2, r3) := by rw [if_pos rfl] at H; exact H
   clear H
   have H := H1
   clear H1; replace H := bS H; obtain ⟨⟨t254, t255, t256⟩, A8, H⟩ := H
   replace H : (spec_l1Cur_statements.j0 k ([] : List (S91)) (wrap64 (60 + t254)) s0_0 t255 t256) = some (r1, r2, r3) := H
   have H' := Aside0.mk H
   clear H
   go_wp2_with (first | ((with_reducible refine gate_callee (f := 147) rfl ?_); refine goesLa (some 10) rfl Try.func147 #[.pointer (some ⟨g, 0, none⟩), .int .i64 2] rfl ?_; (with_reducible refine (spec_l1Cur_pick.calls g s0_0 t252 t253 2 t254 t255 t256 w0 _ ?side1 ?side2 A8.out).mono ?_); (case side1 => repeat (first | (with_reducible first | exact HI0.out | apply IsS151.alloc | apply IsS151.drewN | apply IsS151.drew | apply IsS151.set_1 | apply IsS151.set_2) | exact HI0.out)); (case side2 => repeat (first | (with_reducible first | exact HB.out | apply below_alloc | apply pw_below_drewN | apply below_drew1 | refine below_set ?_ (IsS151.ge HI0.out)) | exact HB.out)); rintro e w9 ⟨rfl, hi, hb, hk⟩; refine ⟨_, rfl, ?_⟩; replace HK := ak (KeepBut.trans (by repeat (first | (with_reducible first | exact HK.out | apply KeepBut.set_ | apply keep_drewN | apply keep_drew | apply keep_alloc) | exact HK.out)) hk (.inl rfl)); replace HB := ak (hb); replace HI0 := ak (hi); (try clear hb); (try clear hk); (try clear hi)))
   go_meet
   case rel => exact ⟨_, (wrap64 (60 + t254)), (t255), (t256), er, H', ⟨by first | omega | exact Nat.le_refl _⟩, ⟨by first | exact Kd.R_nil _ _ _ _ _ | exact Kd.N_nil _ _ _ _ _ | exact Kd.V_nil _ _ _ _ _ | exact Kd.Q_nil _ _ _ _ _ | exact Kd.S_nil _ _ _ _ _⟩, ⟨by repeat (first | (with_reducible first | exact HI0.out | apply IsS151.alloc | apply IsS151.drewN | apply IsS151.drew | apply IsS151.set_1 | apply IsS151.set_2) | exact HI0.out)⟩, ⟨by repeat (first | (with_reducible first | exact HK.out | apply KeepBut.set_ | apply keep_drewN | apply keep_drew | apply keep_alloc) | exact HK.out)⟩, ⟨by repeat (first | (with_reducible first | exact HB.out | apply below_alloc | apply pw_below_drewN | apply below_drew1 | refine below_set ?_ (IsS151.ge HI0.out)) | exact HB.out)⟩⟩
  ·replace c7 := Bool.eq_false_iff.mpr c7
   subst c7
   have H1 : (spec_l1Cur_statements.j0 k ([] : List (S91)) t248 s0_0 t252 t253) = some (r1, r2, r3) := by rw [if_neg (show ¬ (false = true) by decide)] at H; exact H
   clear H
   have H := H1
   clear H1
   have H' := Aside0.mk H
   clear H; go_wp2
   go_meet
   case rel => exact ⟨_, (t248), (t252), (t253), er, H', ⟨by first | omega | exact Nat.le_refl _⟩, ⟨by first | exact Kd.R_nil _ _ _ _ _ | exact Kd.N_nil _ _ _ _ _ | exact Kd.V_nil _ _ _ _ _ | exact Kd.Q_nil _ _ _ _ _ | exact Kd.S_nil _ _ _ _ _⟩, ⟨by repeat (first | (with_reducible first | exact HI0.out | apply IsS151.alloc | apply IsS151.drewN | apply IsS151.drew | apply IsS151.set_1 | apply IsS151.set_2) | exact HI0.out)⟩, ⟨by repeat (first | (with_reducible first | exact HK.out | apply KeepBut.set_ | apply keep_drewN | apply keep_drew | apply keep_alloc) | exact HK.out)⟩, ⟨by repeat (first | (with_reducible first | exact HB.out | apply below_alloc | apply pw_below_drewN | apply below_drew1 | refine below_set ?_ (IsS151.ge HI0.out)) | exact HB.out)⟩⟩
 case rest =>
  clear HC4
  obtain ⟨kq, x4_3, x1001_3, x1002_3, rfl, HA, HJ3, HO_3, HI0, HK, HB⟩ := hcut
  cases kq with
  | zero => exact absurd HA.out (by simp [spec_l1Cur_statements.j0])
  | succ kj3 =>
   have H := HA.out; clear HA
   simp only [spec_l1Cur_statements.j0] at H
   have H' := Aside0.mk H
   clear H; go_wp2
   go_loopg [3, 4] kj3 (fun kq v3 v4 w' => ∃ (x3_2 : List (S91)) (x4_2 : Int) (x1001_2 : Int) (x1002_2 : Int), v4 = .int .i64 x4_2 ∧ Aside0 (spec_l1Cur_statements.l0 kq x3_2 x4_2 s0_0 x1001_2 x1002_2 = some (r1, r2, r3)) ∧ Aside0 (kq ≤ kj3) ∧ Aside0 (Kd.R k91 91 w' w.heap.size (fun _ => True) v3 x3_2) ∧ Aside0 (IsS151 w0 w' g s0_0 x1001_2 x1002_2) ∧ Aside0 (KeepBut w w' g none) ∧ Aside0 (Below w0.heap.size w0 w'))
   case atStart => exact ⟨(([] : List (S91))), (x4_3), (x1001_3), (x1002_3), er, H', ⟨Nat.le_refl _⟩, ⟨rdl HO_3⟩, ⟨by repeat (first | (with_reducible first | exact HI0.out | apply IsS151.alloc | apply IsS151.drewN | apply IsS151.drew | apply IsS151.set_1 | apply IsS151.set_2) | exact HI0.out)⟩, ⟨by repeat (first | (with_reducible first | exact HK.out | apply KeepBut.set_ | apply keep_drewN | apply keep_drew | apply keep_alloc) | exact HK.out)⟩, ⟨by repeat (first | (with_reducible first | exact HB.out | apply below_alloc | apply pw_below_drewN | apply below_drew1 | refine below_set ?_ (IsS151.ge HI0.out)) | exact HB.out)⟩⟩
   case round =>
    clear H'
    obtain ⟨x3_2, x4_2, x1001_2, x1002_2, rfl, HA, HK2, HO_3, HI0, HK, HB⟩ := hrel
    cases gk with
    | zero => exact absurd HA.out (by simp [spec_l1Cur_statements.l0])
    | succ k2 =>
     have H := HA.out; clear HA
     simp only [spec_l1Cur_statements.l0] at H
     by_cases c10 : x4_2 > 0
     ·rw [if_pos c10] at H
      have c10b0 : decide (0 < x4_2) = true := decide_eq_true c10
      clear c10; replace H := bS H; obtain ⟨⟨t257, t258, t259⟩, A11, H⟩ := H
      replace H : ((spec_l1Cur_pick.f s0_0 t258 t259 2).bind fun bt260 => ((spec_l1Cur_pick.f s0_0 bt260.2.1 bt260.2.2 2).bind fun bt263 => ((spec_l1Cur_one.f s0_0 bt263.2.1 bt263.2.2 3).bind fun bt266 => (if x3_2.length < 3518437208883 then (spec_l1Cur_statements.l0 k2 (x3_2 ++ [(⟨t257, (⟨bt260.1, bt263.1, 0⟩ : S85), !bt266.1⟩ : S91)]) (wrap64 (x4_2 - 1)) s0_0 bt266.2.1 bt266.2.2) else (none))))) = some (r1, r2, r3) := H
      replace H := bS H; obtain ⟨⟨t260, t261, t262⟩, A12, H⟩ := H
      replace H : ((spec_l1Cur_pick.f s0_0 t261 t262 2).bind fun bt263 => ((spec_l1Cur_one.f s0_0 bt263.2.1 bt263.2.2 3).bind fun bt266 => (if x3_2.length < 3518437208883 then (spec_l1Cur_statements.l0 k2 (x3_2 ++ [(⟨t257, (⟨t260, bt263.1, 0⟩ : S85), !bt266.1⟩ : S91)]) (wrap64 (x4_2 - 1)) s0_0 bt266.2.1 bt266.2.2) else (none)))) = some (r1, r2, r3) := H
      replace H := bS H; obtain ⟨⟨t263, t264, t265⟩, A13, H⟩ := H
      replace H : ((spec_l1Cur_one.f s0_0 t264 t265 3).bind fun bt266 => (if x3_2.length < 3518437208883 then (spec_l1Cur_statements.l0 k2 (x3_2 ++ [(⟨t257, (⟨t260, t263, 0⟩ : S85), !bt266.1⟩ : S91)]) (wrap64 (x4_2 - 1)) s0_0 bt266.2.1 bt266.2.2) else (none))) = some (r1, r2, r3) := H
      replace H := bS H; obtain ⟨⟨t266, t267, t268⟩, A14, H⟩ := H
      replace H : (if x3_2.length < 3518437208883 then (spec_l1Cur_statements.l0 k2 (x3_2 ++ [(⟨t257, (⟨t260, t263, 0⟩ : S85), !t266⟩ : S91)]) (wrap64 (x4_2 - 1)) s0_0 t267 t268) else (none)) = some (r1, r2, r3) := H
      replace H := ifS H; obtain ⟨c15, H⟩ := H; have LMc15 := Aside0.mk c15; clear c15
      obtain ⟨y269, hy_⟩ : ∃ y_ : List (S91), y_ = (x3_2 ++ [(⟨t257, (⟨t260, t263, 0⟩ : S85), !t266⟩ : S91)]) := ⟨_, rfl⟩
      replace H : (spec_l1Cur_statements.l0 k2 y269 (wrap64 (x4_2 - 1)) s0_0 t267 t268) = some (r1, r2, r3) := yH
      have Ny269 := ak hy_; clear hy_
      have H' := Aside0.mk H
      clear H
      go_wp2_with (first | ((with_reducible refine gate_callee (f := 147) rfl ?_); refine goesLa (some 18) rfl Try.func147 #[.pointer (some ⟨g, 0, none⟩), .int .i64 7] rfl ?_; (with_reducible refine (spec_l1Cur_pick.calls g s0_0 x1001_2 x1002_2 7 t257 t258 t259 w0 _ ?side1 ?side2 A11.out).mono ?_); (case side1 => repeat (first | (with_reducible first | exact HI0.out | apply IsS151.alloc | apply IsS151.drewN | apply IsS151.drew | apply IsS151.set_1 | apply IsS151.set_2) | exact HI0.out)); (case side2 => repeat (first | (with_reducible first | exact HB.out | apply below_alloc | apply pw_below_drewN | apply below_drew1 | refine below_set ?_ (IsS151.ge HI0.out)) | exact HB.out)); rintro e w16 ⟨rfl, hi, hb, hk⟩; refine ⟨_, rfl, ?_⟩; replace HO_3 := ak (Kd.R_mono (Kd.R_keep (IsS151.apart (show IsS151 w0 _ g s0_0 x1001_2 x1002_2 from by repeat (first | (with_reducible first | exact HI0.out | apply IsS151.alloc | apply IsS151.drewN | apply IsS151.drew | apply IsS151.set_1 | apply IsS151.set_2) | exact HI0.out)) (rdl HO_3) (by decide)) hk (fun _ h => h.2)) (fun _ h => h.1)); replace HK := ak (KeepBut.trans (by repeat (first | (with_reducible first | exact HK.out | apply KeepBut.set_ | apply keep_drewN | apply keep_drew | apply keep_alloc) | exact HK.out)) hk (.inl rfl)); replace HB := ak (hb); replace HI0 := ak (hi); (try clear hb); (try clear hk); (try clear hi)) | ((with_reducible refine gate_callee (f := 147) rfl ?_); refine goesLa (some 20) rfl Try.func147 #[.pointer (some ⟨g, 0, none⟩), .int .i64 2] rfl ?_; (with_reducible refine (spec_l1Cur_pick.calls g s0_0 t258 t259 2 t260 t261 t262 w0 _ ?side1 ?side2 A12.out).mono ?_); (case side1 => repeat (first | (with_reducible first | exact HI0.out | apply IsS151.alloc | apply IsS151.drewN | apply IsS151.drew | apply IsS151.set_1 | apply IsS151.set_2) | exact HI0.out)); (case side2 => repeat (first | (with_reducible first | exact HB.out | apply below_alloc | apply pw_below_drewN | apply below_drew1 | refine below_set ?_ (IsS151.ge HI0.out)) | exact HB.out)); rintro e w17 ⟨rfl, hi, hb, hk⟩; refine ⟨_, rfl, ?_⟩; replace HO_3 := ak (Kd.R_mono (Kd.R_keep (IsS151.apart (show IsS151 w0 _ g s0_0 t258 t259 from by repeat (first | (with_reducible first | exact HI0.out | apply IsS151.alloc | apply IsS151.drewN | apply IsS151.drew | apply IsS151.set_1 | apply IsS151.set_2) | exact HI0.out)) (rdl HO_3) (by decide)) hk (fun _ h => h.2)) (fun _ h => h.1)); replace HK := ak (KeepBut.trans (by repeat (first | (with_reducible first | exact HK.out | apply KeepBut.set_ | apply keep_drewN | apply keep_drew | apply keep_alloc) | exact HK.out)) hk (.inl rfl)); replace HB := ak (hb); replace HI0 := ak (hi); (try clear hb); (try clear hk); (try clear hi)) | ((with_reducible refine gate_callee (f := 147) rfl ?_); refine goesLa (some 22) rfl Try.func147 #[.pointer (some ⟨g, 0, none⟩), .int .i64 2] rfl ?_; (with_reducible refine (spec_l1Cur_pick.calls g s0_0 t261 t262 2 t263 t264 t265 w0 _ ?side1 ?side2 A13.out).mono ?_); (case side1 => repeat (first | (with_reducible first | exact HI0.out | apply IsS151.alloc | apply IsS151.drewN | apply IsS151.drew | apply IsS151.set_1 | apply IsS151.set_2) | exact HI0.out)); (case side2 => repeat (first | (with_reducible first | exact HB.out | apply below_alloc | apply pw_below_drewN | apply below_drew1 | refine below_set ?_ (IsS151.ge HI0.out)) | exact HB.out)); rintro e w18 ⟨rfl, hi, hb, hk⟩; refine ⟨_, rfl, ?_⟩; replace HO_3 := ak (Kd.R_mono (Kd.R_keep (IsS151.apart (show IsS151 w0 _ g s0_0 t261 t262 from by repeat (first | (with_reducible first | exact HI0.out | apply IsS151.alloc | apply IsS151.drewN | apply IsS151.drew | apply IsS151.set_1 | apply IsS151.set_2) | exact HI0.out)) (rdl HO_3) (by decide)) hk (fun _ h => h.2)) (fun _ h => h.1)); replace HK := ak (KeepBut.trans (by repeat (first | (with_reducible first | exact HK.out | apply KeepBut.set_ | apply keep_drewN | apply keep_drew | apply keep_alloc) | exact HK.out)) hk (.inl rfl)); replace HB := ak (hb); replace HI0 := ak (hi); (try clear hb); (try clear hk); (try clear hi)) | ((with_reducible refine gate_callee (f := 149) rfl ?_); refine goesLa (some 25) rfl Try.func149 #[.pointer (some ⟨g, 0, none⟩), .int .i64 3] rfl ?_; (with_reducible refine (spec_l1Cur_one.calls g s0_0 t264 t265 3 t266 t267 t268 w0 _ ?side1 ?side2 A14.out).mono ?_); (case side1 => repeat (first | (with_reducible first | exact HI0.out | apply IsS151.alloc | apply IsS151.drewN | apply IsS151.drew | apply IsS151.set_1 | apply IsS151.set_2) | exact HI0.out)); (case side2 => repeat (first | (with_reducible first | exact HB.out | apply below_alloc | apply pw_below_drewN | apply below_drew1 | refine below_set ?_ (IsS151.ge HI0.out)) | exact HB.out)); rintro e w19 ⟨rfl, hi, hb, hk⟩; refine ⟨_, rfl, ?_⟩; replace HO_3 := ak (Kd.R_mono (Kd.R_keep (IsS151.apart (show IsS151 w0 _ g s0_0 t264 t265 from by repeat (first | (with_reducible first | exact HI0.out | apply IsS151.alloc | apply IsS151.drewN | apply IsS151.drew | apply IsS151.set_1 | apply IsS151.set_2) | exact HI0.out)) (rdl HO_3) (by decide)) hk (fun _ h => h.2)) (fun _ h => h.1)); replace HK := ak (KeepBut.trans (by repeat (first | (with_reducible first | exact HK.out | apply KeepBut.set_ | apply keep_drewN | apply keep_drew | apply keep_alloc) | exact HK.out)) hk (.inl rfl)); replace HB := ak (hb); replace HI0 := ak (hi); (try clear hb); (try clear hk); (try clear hi)) | ((with_reducible refine gate_builtin (b := .append) (xs := #[.tmp 16, .tmp 28]) rfl ?_); at_builtin; refine Kd.R_append k91 w.heap.size rfl (.tmp 16) (.tmp 28) 73 91 (.agg #[(.int .i64 0), (.int .i64 0), (.int .i64 0), (.int .i64 0), (.bool false)]) 40 rfl Try.underlying73 info91 rfl (by decide) (by omega) u3 x3_2 (⟨t257, (⟨t260, t263, 0⟩ : S85), !t266⟩ : S91) [.int .i64 t257, .int .i64 t260, .int .i64 t263, .int .i64 0, .bool (!t266)] (fun _ => True) (fun _ => False) rfl rfl ?aP (fun _ hk => hk.elim) ?aF ?aO (Below.refl _ _) ?aS ?aL ?_; (case aP => exact k91_mkM _ _ _ (⟨t257, (⟨t260, t263, 0⟩ : S85), !t266⟩ : S91)); (case aF => exact (fun _ _ => trivial)); (case aO => exact (rdl HO_3)); (case aS => exact (keep_size (w := w) (g := g) (row := none) (by repeat (first | (with_reducible first | exact HK.out | apply KeepBut.set_ | apply keep_drewN | apply keep_drew | apply keep_alloc) | exact HK.out)))); (case aL => have := LMc15.out; omega); intro v270 w20 ho hb hg hat; rw [← Ny269.out] at ho; replace HB := ak (below_weaken (by repeat (first | (with_reducible first | exact HB.out | apply below_alloc | apply pw_below_drewN | apply below_drew1 | refine below_set ?_ (IsS151.ge HI0.out)) | exact HB.out)) HL.out hb); replace HI0 := ak (IsS151.grown (by repeat (first | (with_reducible first | exact HI0.out | apply IsS151.alloc | apply IsS151.drewN | apply IsS151.drew | apply IsS151.set_1 | apply IsS151.set_2) | exact HI0.out)) hg (IsS151.own_ne HI0.out HO_3.out (by decide))); replace HK := ak (KeepBut.trans (by repeat (first | (with_reducible first | exact HK.out | apply KeepBut.set_ | apply keep_drewN | apply keep_drew | apply keep_alloc) | exact HK.out)) (KeepBut.of_grown hg g) (Kd.R_base2 HO_3.out)); have HO271 := ak (ho); clear HO_3; clear ho hb hg hat))
      go_roundg k2
      case measure => have := HJ3.out; have := HK2.out; omega
      case rel => exact ⟨(y269), (wrap64 (x4_2 - 1)), (t267), (t268), er, H', ⟨by have := HJ3.out; have := HK2.out; omega⟩, ⟨rdl HO271⟩, ⟨by repeat (first | (with_reducible first | exact HI0.out | apply IsS151.alloc | apply IsS151.drewN | apply IsS151.drew | apply IsS151.set_1 | apply IsS151.set_2) | exact HI0.out)⟩, ⟨by repeat (first | (with_reducible first | exact HK.out | apply KeepBut.set_ | apply keep_drewN | apply keep_drew | apply keep_alloc) | exact HK.out)⟩, ⟨by repeat (first | (with_reducible first | exact HB.out | apply below_alloc | apply pw_below_drewN | apply below_drew1 | refine below_set ?_ (IsS151.ge HI0.out)) | exact HB.out)⟩⟩
     ·rw [if_neg c10] at H
      have c10b0 : decide (0 < x4_2) = false := decide_eq_false c10
      clear c10; have HC21 := Aside0.mk H; clear H
      go_upto_region 8 with (fail)
      go_cut [36] (fun v36 wc => ∃ (kq : Nat) (x36_20 : Bool) (x1001_20 : Int) (x1002_20 : Int), v36 = .bool x36_20 ∧ Aside0 (spec_l1Cur_statements.j2 kq x3_2 x36_20 s0_0 x1001_20 x1002_20 = some (r1, r2, r3)) ∧ Aside0 (kq ≤ k2) ∧ Aside0 (Kd.R k91 91 wc w.heap.size (fun _ => True) u3 x3_2) ∧ Aside0 (IsS151 w0 wc g s0_0 x1001_20 x1002_20) ∧ Aside0 (KeepBut w wc g none) ∧ Aside0 (Below w0.heap.size w0 wc))
      case first =>
       have H := HC21.out; clear HC21
       by_cases c22 : (x3_2.length : Int) > 0
       ·rw [if_pos c22] at H
        have c22b0 : decide (0 < (x3_2.length : Int)) = true := decide_eq_true c22
        have c22b1 : decide (0 < x3_2.length) = true := decide_eq_true (by omega)
        clear c22
        (first | rw [c22b0] | (simp only [i64_w, i32_w]; rw [c22b0]) | skip)
        replace H := bS H; obtain ⟨⟨t272, t273, t274⟩, A23, H⟩ := H
        replace H : (spec_l1Cur_statements.j2 k2 x3_2 t272 s0_0 t273 t274) = some (r1, r2, r3) := H
        have H' := Aside0.mk H
        clear H
        obtain ⟨Ao24, co24, eo24⟩ := Kd.R_slice HO_3.out
        subst eo24
        go_wp2_with (first | (go_at_call 149; (with_reducible refine (spec_l1Cur_one.calls g s0_0 x1001_2 x1002_2 20 t272 t273 t274 w0 _ ?side1 ?side2 A23.out).mono ?_); (case side1 => repeat (first | (with_reducible first | exact HI0.out | apply IsS151.alloc | apply IsS151.drewN | apply IsS151.drew | apply IsS151.set_1 | apply IsS151.set_2) | exact HI0.out)); (case side2 => repeat (first | (with_reducible first | exact HB.out | apply below_alloc | apply pw_below_drewN | apply below_drew1 | refine below_set ?_ (IsS151.ge HI0.out)) | exact HB.out)); rintro e w25 ⟨rfl, hi, hb, hk⟩; replace HO_3 := ak (Kd.R_mono (Kd.R_keep (IsS151.apart (show IsS151 w0 _ g s0_0 x1001_2 x1002_2 from by repeat (first | (with_reducible first | exact HI0.out | apply IsS151.alloc | apply IsS151.drewN | apply IsS151.drew | apply IsS151.set_1 | apply IsS151.set_2) | exact HI0.out)) (rdl HO_3) (by decide)) hk (fun _ h => h.2)) (fun _ h => h.1)); replace HK := ak (KeepBut.trans (by repeat (first | (with_reducible first | exact HK.out | apply KeepBut.set_ | apply keep_drewN | apply keep_drew | apply keep_alloc) | exact HK.out)) hk (.inl rfl)); replace HB := ak (hb); replace HI0 := ak (hi); (try clear hb); (try clear hk); (try clear hi)))
        go_meet
        case rel => exact ⟨_, (t272), (t273), (t274), er, H', ⟨by have := HJ3.out; have := HK2.out; first | omega | exact Nat.le_refl _⟩, ⟨rdl HO_3⟩, ⟨by repeat (first | (with_reducible first | exact HI0.out | apply IsS151.alloc | apply IsS151.drewN | apply IsS151.drew | apply IsS151.set_1 | apply IsS151.set_2) | exact HI0.out)⟩, ⟨by repeat (first | (with_reducible first | exact HK.out | apply KeepBut.set_ | apply keep_drewN | apply keep_drew | apply keep_alloc) | exact HK.out)⟩, ⟨by repeat (first | (with_reducible first | exact HB.out | apply below_alloc | apply pw_below_drewN | apply below_drew1 | refine below_set ?_ (IsS151.ge HI0.out)) | exact HB.out)⟩⟩
       ·rw [if_neg c22] at H
        have c22b0 : decide (0 < (x3_2.length : Int)) = false := decide_eq_false c22
        have c22b1 : decide (0 < x3_2.length) = false := decide_eq_false (by omega)
        clear c22
        (first | rw [c22b0] | (simp only [i64_w, i32_w]; rw [c22b0]) | skip)
        have H' := Aside0.mk H
        clear H
        obtain ⟨Ao26, co26, eo26⟩ := Kd.R_slice HO_3.out
        subst eo26; go_wp2
        go_meet
        case rel => exact ⟨_, (false), (x1001_2), (x1002_2), er, H', ⟨by have := HJ3.out; have := HK2.out; first | omega | exact Nat.le_refl _⟩, ⟨rdl HO_3⟩, ⟨by repeat (first | (with_reducible first | exact HI0.out | apply IsS151.alloc | apply IsS151.drewN | apply IsS151.drew | apply IsS151.set_1 | apply IsS151.set_2) | exact HI0.out)⟩, ⟨by repeat (first | (with_reducible first | exact HK.out | apply KeepBut.set_ | apply keep_drewN | apply keep_drew | apply keep_alloc) | exact HK.out)⟩, ⟨by repeat (first | (with_reducible first | exact HB.out | apply below_alloc | apply pw_below_drewN | apply below_drew1 | refine below_set ?_ (IsS151.ge HI0.out)) | exact HB.out)⟩⟩
      case rest =>
       clear HC21; (try clear c10b0)
       obtain ⟨kq, x36_20, x1001_20, x1002_20, rfl, HA, HJ20, HO_3, HI0, HK, HB⟩ := hcut
       cases kq with
       | zero => exact absurd HA.out (by simp [spec_l1Cur_statements.j2])
       | succ kj20 =>
        have H := HA.out; clear HA
        simp only [spec_l1Cur_statements.j2] at H
        by_cases c27 : x36_20 = true
        ·subst c27
         have H1 : ((spec_l1Cur_among.f s0_0 x1001_20 x1002_20 (([(-1), 6, 7] : List Int))).bind fun bt278 => ((spec_l1Cur_claim.f s0_0 bt278.2.1 bt278.2.2).bind fun bt281 => (if 0 < (x3_2.length : Int) then (some ((x3_2.set (0 : Int).toNat (⟨bt278.1, (⟨bt281.1, bt281.2.1, bt281.2.2.1⟩ : S85), false⟩ : S91)), bt281.2.2.2.1, bt281.2.2.2.2)) else (none)))) = some (r1, r2, r3) := by rw [if_pos rfl] at H; exact H
         clear H
         have H := H1
         clear H1
         obtain ⟨y275, hy_⟩ : ∃ y_ : List Int, y_ = (([(-1), 6, 7] : List Int)) := ⟨_, rfl⟩
         replace H : ((spec_l1Cur_among.f s0_0 x1001_20 x1002_20 y275).bind fun bt278 => ((spec_l1Cur_claim.f s0_0 bt278.2.1 bt278.2.2).bind fun bt281 => (if 0 < (x3_2.length : Int) then (some ((x3_2.set (0 : Int).toNat (⟨bt278.1, (⟨bt281.1, bt281.2.1, bt281.2.2.1⟩ : S85), false⟩ : S91)), bt281.2.2.2.1, bt281.2.2.2.2)) else (none)))) = some (r1, r2, r3) := yH
         have Ny275 := ak hy_; clear hy_; replace H := bS H; obtain ⟨⟨t278, t279, t280⟩, A28, H⟩ := H
         replace H : ((spec_l1Cur_claim.f s0_0 t279 t280).bind fun bt281 => (if 0 < (x3_2.length : Int) then (some ((x3_2.set (0 : Int).toNat (⟨t278, (⟨bt281.1, bt281.2.1, bt281.2.2.1⟩ : S85), false⟩ : S91)), bt281.2.2.2.1, bt281.2.2.2.2)) else (none))) = some (r1, r2, r3) := H
         replace H := bS H; obtain ⟨⟨t281, t282, t283, t284, t285⟩, A29, H⟩ := H
         replace H : (if 0 < (x3_2.length : Int) then (some ((x3_2.set (0 : Int).toNat (⟨t278, (⟨t281, t282, t283⟩ : S85), false⟩ : S91)), t284, t285)) else (none)) = some (r1, r2, r3) := H
         replace H := ifS H; obtain ⟨c30, H⟩ := H; have c30b0 := decide_eq_true c30
         have c30b1 : decide (0 < x3_2.length) = true := decide_eq_true (by omega)
         clear c30
         obtain ⟨y286, hy_⟩ : ∃ y_ : List (S91), y_ = (x3_2.set (0 : Int).toNat (⟨t278, (⟨t281, t282, t283⟩ : S85), false⟩ : S91)) := ⟨_, rfl⟩
         replace H : (some (y286, t284, t285)) = some (r1, r2, r3) := yH
         have Ny286 := ak hy_; clear hy_
         simp only [Option.some.injEq, Prod.mk.injEq] at H
         obtain ⟨rfl, rfl, rfl⟩ := H
         go_wp2_with (first | ((with_reducible refine gate_dst (N := 39) rfl ?_); refine Kd.R_lit (Kd.int .i64) _ 3 ?hg (N := 39) ?hd (xs := ([(-1), 6, 7] : List Int)) (inner := [.int .i64 (-1), .int .i64 6, .int .i64 7]) (ok := fun _ => True) (okp := fun _ => True) ?hr ?hp (fun _ hk => hk) trivial (Below.refl _ _) (Nat.le_refl _) (by simp) ?_; (case hd => rfl); (case hg => rfl); (case hr => first | (go_simp; done) | (go_simp; rfl)); (case hp => exact (Reps.one (show Kd.M (Kd.int .i64) _ _ _ (-1) [.int .i64 (-1)] from rfl) (Reps.one (show Kd.M (Kd.int .i64) _ _ _ 6 [.int .i64 6] from rfl) (Reps.one (show Kd.M (Kd.int .i64) _ _ _ 7 [.int .i64 7] from rfl) (Reps.none _ _))))); intro v276 w32 ho33 hb hg_ hnew_; clear hg_ hnew_; (first | rw [← Ny275.out] at ho33 | (simp only [Int.reduceToNat] at ho33; rw [← Ny275.out] at ho33)); replace HO_3 := ak (Kd.R_below (rdl HO_3) hb); have HO277 := ak (Kd.R_lower ho33 (keep_size (w := w) (g := g) (row := none) (by repeat (first | (with_reducible first | exact HK.out | apply KeepBut.set_ | apply keep_drewN | apply keep_drew | apply keep_alloc) | exact HK.out)))); replace HK := ak (KeepBut.trans (by repeat (first | (with_reducible first | exact HK.out | apply KeepBut.set_ | apply keep_drewN | apply keep_drew | apply keep_alloc) | exact HK.out)) (KeepBut.of_below hb g none) (.inl rfl)); replace HB := ak (below_step (by repeat (first | (with_reducible first | exact HB.out | apply below_alloc | apply pw_below_drewN | apply below_drew1 | refine below_set ?_ (IsS151.ge HI0.out)) | exact HB.out)) hb); replace HI0 := ak (IsS151.below (by repeat (first | (with_reducible first | exact HI0.out | apply IsS151.alloc | apply IsS151.drewN | apply IsS151.drew | apply IsS151.set_1 | apply IsS151.set_2) | exact HI0.out)) hb); clear hb ho33; obtain ⟨Ao34, co34, eo34⟩ := Kd.R_slice HO277.out; subst eo34) | ((with_reducible refine gate_callee (f := 166) rfl ?_); refine goesLa (some 40) rfl Try.func166 #[.pointer (some ⟨g, 0, none⟩), .slice Ao34 y275.length co34] rfl ?_; (with_reducible refine (spec_l1Cur_among.calls g s0_0 x1001_20 x1002_20 _ _ y275 t278 t279 t280 w0 _ ?side1 ?side2 ?side3 ?side4 ?side5 A28.out).mono ?_); (case side1 => repeat (first | (with_reducible first | exact HI0.out | apply IsS151.alloc | apply IsS151.drewN | apply IsS151.drew | apply IsS151.set_1 | apply IsS151.set_2) | exact HI0.out)); (case side2 => repeat (first | (with_reducible first | exact HB.out | apply below_alloc | apply pw_below_drewN | apply below_drew1 | refine below_set ?_ (IsS151.ge HI0.out)) | exact HB.out)); (case side3 => exact cd (Kd.R_reads' HO277.out).2.2); (case side4 => exact (Kd.R_reads' HO277.out).2.1); (case side5 => exact far_slice (IsS151.own_ne HI0.out HO277.out (by decide))); rintro e w35 ⟨rfl, hi, hb, hk⟩; refine ⟨_, rfl, ?_⟩; replace HO_3 := ak (Kd.R_mono (Kd.R_keep (IsS151.apart (show IsS151 w0 _ g s0_0 x1001_20 x1002_20 from by repeat (first | (with_reducible first | exact HI0.out | apply IsS151.alloc | apply IsS151.drewN | apply IsS151.drew | apply IsS151.set_1 | apply IsS151.set_2) | exact HI0.out)) (rdl HO_3) (by decide)) hk (fun _ h => h.2)) (fun _ h => h.1)); replace HO277 := ak (Kd.R_mono (Kd.R_keep (IsS151.apart (show IsS151 w0 _ g s0_0 x1001_20 x1002_20 from by repeat (first | (with_reducible first | exact HI0.out | apply IsS151.alloc | apply IsS151.drewN | apply IsS151.drew | apply IsS151.set_1 | apply IsS151.set_2) | exact HI0.out)) (rdl HO277) (by decide)) hk (fun _ h => h.2)) (fun _ h => h.1)); replace HK := ak (KeepBut.trans (by repeat (first | (with_reducible first | exact HK.out | apply KeepBut.set_ | apply keep_drewN | apply keep_drew | apply keep_alloc) | exact HK.out)) hk (.inl rfl)); replace HB := ak (hb); replace HI0 := ak (hi); (try clear hb); (try clear hk); (try clear hi)) | ((with_reducible refine gate_callee (f := 148) rfl ?_); refine goesLa (some 42) rfl Try.func148 #[.pointer (some ⟨g, 0, none⟩)] rfl ?_; (with_reducible refine (spec_l1Cur_claim.calls g s0_0 t279 t280 t281 t282 t283 t284 t285 w0 _ ?side1 ?side2 A29.out).mono ?_); (case side1 => repeat (first | (with_reducible first | exact HI0.out | apply IsS151.alloc | apply IsS151.drewN | apply IsS151.drew | apply IsS151.set_1 | apply IsS151.set_2) | exact HI0.out)); (case side2 => repeat (first | (with_reducible first | exact HB.out | apply below_alloc | apply pw_below_drewN | apply below_drew1 | refine below_set ?_ (IsS151.ge HI0.out)) | exact HB.out)); rintro e w36 ⟨rfl, hi, hb, hk⟩; refine ⟨_, rfl, ?_⟩; replace HO_3 := ak (Kd.R_mono (Kd.R_keep (IsS151.apart (show IsS151 w0 _ g s0_0 t279 t280 from by repeat (first | (with_reducible first | exact HI0.out | apply IsS151.alloc | apply IsS151.drewN | apply IsS151.drew | apply IsS151.set_1 | apply IsS151.set_2) | exact HI0.out)) (rdl HO_3) (by decide)) hk (fun _ h => h.2)) (fun _ h => h.1)); replace HO277 := ak (Kd.R_mono (Kd.R_keep (IsS151.apart (show IsS151 w0 _ g s0_0 t279 t280 from by repeat (first | (with_reducible first | exact HI0.out | apply IsS151.alloc | apply IsS151.drewN | apply IsS151.drew | apply IsS151.set_1 | apply IsS151.set_2) | exact HI0.out)) (rdl HO277) (by decide)) hk (fun _ h => h.2)) (fun _ h => h.1)); replace HK := ak (KeepBut.trans (by repeat (first | (with_reducible first | exact HK.out | apply KeepBut.set_ | apply keep_drewN | apply keep_drew | apply keep_alloc) | exact HK.out)) hk (.inl rfl)); replace HB := ak (hb); replace HI0 := ak (hi); (try clear hb); (try clear hk); (try clear hi); have p31 : 0 ≤ (0 : Int) := (by omega); have q31 : (0 : Int) < ((x3_2.length : Int) : Int) := da; have qi31 : (0 < x3_2.length) = True := eq_true (by omega); obtain ⟨go31, co31, eo31, gb31, gl31, cl31, HG31⟩ := Kd.R_form HO_3.out (by omega); (first | cases eo31 | (injection eo31 with ea_ en_ ec_; (first | subst ea_ | (injection ea_ with ea_; subst ea_)); subst ec_; clear en_)); have GB31 := Aside0.mk gb31; have GG31 := Aside0.mk HG31; clear gb31 gl31 HG31; obtain ⟨ce31, hcl31, hM31, hcc31, hfr31⟩ := Kd.R_elem HO_3.out z91 (0 : Int) p31 q31; obtain rfl := k91_openM hM31; have hx31_0 : w36.cell? ⟨go31, (0 : Int).toNat * 5, none⟩ = some (.int .i64 ((rd_T91 x3_2 0).f0)) := hcc31 0 _ rfl; have hx31_1 : w36.cell? ⟨go31, (0 : Int).toNat * 5 + 1, none⟩ = some (.int .i64 ((rd_T91 x3_2 0).f1.f0)) := hcc31 1 _ rfl; have hx31_2 : w36.cell? ⟨go31, (0 : Int).toNat * 5 + 2, none⟩ = some (.int .i64 ((rd_T91 x3_2 0).f1.f1)) := hcc31 2 _ rfl; have hx31_3 : w36.cell? ⟨go31, (0 : Int).toNat * 5 + 3, none⟩ = some (.int .i64 ((rd_T91 x3_2 0).f1.f2)) := hcc31 3 _ rfl; have hx31_4 : w36.cell? ⟨go31, (0 : Int).toNat * 5 + 4, none⟩ = some (.bool ((rd_T91 x3_2 0).f2)) := hcc31 4 _ rfl; have hf31_0 : w36.frozen? ⟨go31, (0 : Int).toNat * 5, none⟩ = false := hfr31 0; have hf31_1 : w36.frozen? ⟨go31, (0 : Int).toNat * 5 + 1, none⟩ = false := hfr31 1; have hf31_2 : w36.frozen? ⟨go31, (0 : Int).toNat * 5 + 2, none⟩ = false := hfr31 2; have hf31_3 : w36.frozen? ⟨go31, (0 : Int).toNat * 5 + 3, none⟩ = false := hfr31 3; have hf31_4 : w36.frozen? ⟨go31, (0 : Int).toNat * 5 + 4, none⟩ = false := hfr31 4; clear hcl31 hcc31 hfr31 hM31; (try rw [show ((0 : Int)).toNat = 0 from rfl] at hx31_0); (try simp only [Nat.reduceMul, Nat.zero_mul, Nat.zero_add, Nat.reduceAdd] at hx31_0); (try rw [show ((0 : Int)).toNat = 0 from rfl] at hf31_0); (try simp only [Nat.reduceMul, Nat.zero_mul, Nat.zero_add, Nat.reduceAdd] at hf31_0); (try rw [show ((0 : Int)).toNat = 0 from rfl] at hx31_1); (try simp only [Nat.reduceMul, Nat.zero_mul, Nat.zero_add, Nat.reduceAdd] at hx31_1); (try rw [show ((0 : Int)).toNat = 0 from rfl] at hf31_1); (try simp only [Nat.reduceMul, Nat.zero_mul, Nat.zero_add, Nat.reduceAdd] at hf31_1); (try rw [show ((0 : Int)).toNat = 0 from rfl] at hx31_2); (try simp only [Nat.reduceMul, Nat.zero_mul, Nat.zero_add, Nat.reduceAdd] at hx31_2); (try rw [show ((0 : Int)).toNat = 0 from rfl] at hf31_2); (try simp only [Nat.reduceMul, Nat.zero_mul, Nat.zero_add, Nat.reduceAdd] at hf31_2); (try rw [show ((0 : Int)).toNat = 0 from rfl] at hx31_3); (try simp only [Nat.reduceMul, Nat.zero_mul, Nat.zero_add, Nat.reduceAdd] at hx31_3); (try rw [show ((0 : Int)).toNat = 0 from rfl] at hf31_3); (try simp only [Nat.reduceMul, Nat.zero_mul, Nat.zero_add, Nat.reduceAdd] at hf31_3); (try rw [show ((0 : Int)).toNat = 0 from rfl] at hx31_4); (try simp only [Nat.reduceMul, Nat.zero_mul, Nat.zero_add, Nat.reduceAdd] at hx31_4); (try rw [show ((0 : Int)).toNat = 0 from rfl] at hf31_4); (try simp only [Nat.reduceMul, Nat.zero_mul, Nat.zero_add, Nat.reduceAdd] at hf31_4); replace p31 := eq_true p31; replace q31 := eq_true q31; have HX37 := Aside0.mk (show Kd.R k91 91 w36 w.heap.size (fun _ => True) (.slice (some ⟨go31, 0, none⟩) x3_2.length co31) x3_2 from (rdl HO_3)); obtain ⟨ce37, hcl37, hM37, hcc37, hfr37⟩ := Kd.R_elem HX37.out z91 (0 : Int) (by omega) (by have h_ : (0 : Int) < ((x3_2.length : Int) : Int) := da; first | exact h_ | (have e_ := (Kd.R_reads' HO_3.out).1; omega) | simpa using h_); obtain rfl := k91_openM hM37; have HP37 := Kd.R_seg HX37.out (0 : Int) (by omega) (by have h_ : (0 : Int) < ((x3_2.length : Int) : Int) := da; first | exact h_ | (have e_ := (Kd.R_reads' HO_3.out).1; omega) | simpa using h_) (seg := [.int .i64 t278, .int .i64 t281, .int .i64 t282, .int .i64 t283, .bool false]) (j := 0) hcl37 hcc37 (show 5 ≤ 5 from by decide) (x' := (⟨t278, (⟨t281, t282, t283⟩ : S85), false⟩ : S91)) (k91_mkM _ _ _ (⟨t278, (⟨t281, t282, t283⟩ : S85), false⟩ : S91) ) (fun _ hk => hk); have hx37_0 := hcc37 0 _ rfl; (try simp only [show (k91).sz = 5 from rfl, Nat.mul_one, Nat.add_zero] at hx37_0); (try rw [show ((0 : Int)).toNat = 0 from rfl] at hx37_0); (try simp only [Nat.reduceMul, Nat.zero_mul, Nat.zero_add, Nat.reduceAdd] at hx37_0); have hf37_0 := hfr37 0; (try simp only [show (k91).sz = 5 from rfl, Nat.mul_one, Nat.add_zero] at hf37_0); (try rw [show ((0 : Int)).toNat = 0 from rfl] at hf37_0); (try simp only [Nat.reduceMul, Nat.zero_mul, Nat.zero_add, Nat.reduceAdd] at hf37_0); have hx37_1 := hcc37 1 _ rfl; (try simp only [show (k91).sz = 5 from rfl, Nat.mul_one, Nat.add_zero] at hx37_1); (try rw [show ((0 : Int)).toNat = 0 from rfl] at hx37_1); (try simp only [Nat.reduceMul, Nat.zero_mul, Nat.zero_add, Nat.reduceAdd] at hx37_1); have hf37_1 := hfr37 1; (try simp only [show (k91).sz = 5 from rfl, Nat.mul_one, Nat.add_zero] at hf37_1); (try rw [show ((0 : Int)).toNat = 0 from rfl] at hf37_1); (try simp only [Nat.reduceMul, Nat.zero_mul, Nat.zero_add, Nat.reduceAdd] at hf37_1); have hx37_2 := hcc37 2 _ rfl; (try simp only [show (k91).sz = 5 from rfl, Nat.mul_one, Nat.add_zero] at hx37_2); (try rw [show ((0 : Int)).toNat = 0 from rfl] at hx37_2); (try simp only [Nat.reduceMul, Nat.zero_mul, Nat.zero_add, Nat.reduceAdd] at hx37_2); have hf37_2 := hfr37 2; (try simp only [show (k91).sz = 5 from rfl, Nat.mul_one, Nat.add_zero] at hf37_2); (try rw [show ((0 : Int)).toNat = 0 from rfl] at hf37_2); (try simp only [Nat.reduceMul, Nat.zero_mul, Nat.zero_add, Nat.reduceAdd] at hf37_2); have hx37_3 := hcc37 3 _ rfl; (try simp only [show (k91).sz = 5 from rfl, Nat.mul_one, Nat.add_zero] at hx37_3); (try rw [show ((0 : Int)).toNat = 0 from rfl] at hx37_3); (try simp only [Nat.reduceMul, Nat.zero_mul, Nat.zero_add, Nat.reduceAdd] at hx37_3); have hf37_3 := hfr37 3; (try simp only [show (k91).sz = 5 from rfl, Nat.mul_one, Nat.add_zero] at hf37_3); (try rw [show ((0 : Int)).toNat = 0 from rfl] at hf37_3); (try simp only [Nat.reduceMul, Nat.zero_mul, Nat.zero_add, Nat.reduceAdd] at hf37_3); have hx37_4 := hcc37 4 _ rfl; (try simp only [show (k91).sz = 5 from rfl, Nat.mul_one, Nat.add_zero] at hx37_4); (try rw [show ((0 : Int)).toNat = 0 from rfl] at hx37_4); (try simp only [Nat.reduceMul, Nat.zero_mul, Nat.zero_add, Nat.reduceAdd] at hx37_4); have hf37_4 := hfr37 4; (try simp only [show (k91).sz = 5 from rfl, Nat.mul_one, Nat.add_zero] at hf37_4); (try rw [show ((0 : Int)).toNat = 0 from rfl] at hf37_4); (try simp only [Nat.reduceMul, Nat.zero_mul, Nat.zero_add, Nat.reduceAdd] at hf37_4); clear hcl37 hcc37 hfr37 hM37) | ((with_reducible refine gate_store (t := 91) (p := 44) rfl ?_); refine store_event (t := 91) (p := 44) (v := ?vo_w38) (w1 := (((((w36.setCell ⟨go31, 0, none⟩ (.int .i64 t278)).setCell ⟨go31, 1, none⟩ (.int .i64 t281)).setCell ⟨go31, 2, none⟩ (.int .i64 t282)).setCell ⟨go31, 3, none⟩ (.int .i64 t283)).setCell ⟨go31, 4, none⟩ (.bool false))) ?hg ?ho ?hn ?hr ?_; (case ho => rfl); (case hg => rfl); (case hn => rfl); (case hr => first | (go_simp; done) | (go_simp; rfl)); intro w38 hw; have hg : w36.grownBy w38 (some go31) := (by rw [hw]; exact HP37.2); have hp_ : Kd.R k91 91 w38 w.heap.size (fun _ => True) (.slice (some ⟨go31, 0, none⟩) x3_2.length co31) y286 := (by rw [hw, Ny286.out]; exact HP37.1); clear HP37; replace HI0 := ak (IsS151.grown (by repeat (first | (with_reducible first | exact HI0.out | apply IsS151.alloc | apply IsS151.drewN | apply IsS151.drew | apply IsS151.set_1 | apply IsS151.set_2) | exact HI0.out)) hg (IsS151.own_ne HI0.out HO_3.out (by decide))); replace HO277 := ak (Kd.R_over' (v := (.slice (some ⟨go31, 0, none⟩) x3_2.length co31)) (rdl HO277) (Kd.R_typed HO_3.out) (by decide) hg); replace HB := ak ((by rw [hw]; exact below_set (below_set (below_set (below_set (below_set (HB.out) (Nat.le_trans HL.out GB31.out)) (Nat.le_trans HL.out GB31.out)) (Nat.le_trans HL.out GB31.out)) (Nat.le_trans HL.out GB31.out)) (Nat.le_trans HL.out GB31.out) : Below w0.heap.size w0 w38)); replace HK := ak (KeepBut.trans (by repeat (first | (with_reducible first | exact HK.out | apply KeepBut.set_ | apply keep_drewN | apply keep_drew | apply keep_alloc) | exact HK.out)) (KeepBut.of_grown hg g) (Kd.R_base2 HO_3.out)); replace HO_3 := ak (hp_); clear hg hw hp_))
         go_ret
         exact ⟨_, er2, by (with_reducible repeat (first | apply Kd.R_alloc | apply Kd.R_drewN | apply Kd.R_drew)); exact HO_3.out, by repeat (first | (with_reducible first | exact HI0.out | apply IsS151.alloc | apply IsS151.drewN | apply IsS151.drew | apply IsS151.set_1 | apply IsS151.set_2) | exact HI0.out), by repeat (first | (with_reducible first | exact HB.out | apply below_alloc | apply pw_below_drewN | apply below_drew1 | refine below_set ?_ (IsS151.ge HI0.out)) | exact HB.out), by repeat (first | (with_reducible first | exact HK.out | apply KeepBut.set_ | apply keep_drewN | apply keep_drew | apply keep_alloc) | exact HK.out)⟩
        ·replace c27 := Bool.eq_false_iff.mpr c27
         subst c27
         have H1 : (some (x3_2, x1001_20, x1002_20)) = some (r1, r2, r3) := by rw [if_neg (show ¬ (false = true) by decide)] at H; exact H
         clear H
         have H := H1
         clear H1
         simp only [Option.some.injEq, Prod.mk.injEq] at H
         obtain ⟨rfl, rfl, rfl⟩ := H; go_wp2
         go_ret
         exact ⟨_, er2, by (with_reducible repeat (first | apply Kd.R_alloc | apply Kd.R_drewN | apply Kd.R_drew)); exact HO_3.out, by repeat (first | (with_reducible first | exact HI0.out | apply IsS151.alloc | apply IsS151.drewN | apply IsS151.drew | apply IsS151.set_1 | apply IsS151.set_2) | exact HI0.out), by repeat (first | (with_reducible first | exact HB.out | apply below_alloc | apply pw_below_drewN | apply below_drew1 | refine below_set ?_ (IsS151.ge HI0.out)) | exact HB.out), by repeat (first | (with_reducible first | exact HK.out | apply KeepBut.set_ | apply keep_drewN | apply keep_drew | apply keep_alloc) | exact HK.out)⟩

/-! ### spec_DrawMergeStatements: function 56 -/
def spec_DrawMergeStatements.f (k : Nat) (l0 : List Int) : Option ((List (S91)) × (List (S91))) := (spec_l1Cur_statements.f k l0 0 0).bind fun bt288 => ((spec_l1Cur_statements.f k l0 bt288.2.1 bt288.2.2).bind fun bt293 => (some (bt288.1, bt293.1)))
theorem spec_DrawMergeStatements.mono : ∀ a0 k, LeO (spec_DrawMergeStatements.f k a0) (spec_DrawMergeStatements.f (k + 1) a0) := by
 intro a0 k
 unfold spec_DrawMergeStatements.f
 repeat' (first | (with_reducible first | exact spec_l1Cur_statements.mono _ _ _ _ | exact LeO.refl _ | exact LeO.none _ | refine LeO.ite ?_ ?_ | refine LeO.bind ?_ (fun _ => ?_)) | exact spec_l1Cur_statements.mono _ _ _ _ | exact LeO.none _ | refine LeO.ite ?_ ?_ | refine LeO.bind ?_ (fun _ => ?_))
set_option maxHeartbeats 8000000 in
set_option maxRecDepth 100000 in
theorem spec_DrawMergeStatements.calls (k : Nat) (A0 : Option Addr) (c0 : Nat) (l0 : List Int) (r1 : List (S91)) (r2 : List (S91)) (w : World) (hr0 : Kd.C (Kd.int .u8) w A0 l0.length l0) (hc0 : l0.length ≤ c0) (h : spec_DrawMergeStatements.f k l0 = some (r1, r2)) :
  Calls Try.prog 56 #[.slice A0 l0.length c0] w fun e w' => ∃ v0_ v1_ : Value, e = .returned (.tuple #[v0_, v1_]) ∧ Kd.R k91 91 w' w.heap.size (fun k_ => some k_ ≠ (v1_ : Value).ownBlock) v0_ r1 ∧ Kd.R k91 91 w' w.heap.size (fun k_ => some k_ ≠ (v0_ : Value).ownBlock) v1_ r2 ∧ Below w.heap.size w w' := by
 have hu151 := Try.underlying151
 have HR0 := Aside0.mk hr0; have HC0 := Aside0.mk hc0; clear hr0 hc0
 have HB := Aside0.mk (Below.refl w.heap.size w)
 have H : ((spec_l1Cur_statements.f k l0 0 0).bind fun bt288 => ((spec_l1Cur_statements.f k l0 bt288.2.1 bt288.2.2).bind fun bt293 => (some (bt288.1, bt293.1)))) = some (r1, r2) := h
 clear h; replace H := bS H; obtain ⟨⟨t288, t291, t292⟩, A2, H⟩ := H
 replace H : ((spec_l1Cur_statements.f k l0 t291 t292).bind fun bt293 => (some (t288, bt293.1))) = some (r1, r2) := H
 replace H := bS H; obtain ⟨⟨t293, t296, t297⟩, A3, H⟩ := H
 replace H : (some (t288, t293)) = some (r1, r2) := H
 simp only [Option.some.injEq, Prod.mk.injEq] at H
 obtain ⟨rfl, rfl⟩ := H
 go_enter Try.func56, Try.ntmps56
 go_wp2_with (first | ((with_reducible refine gate_dst (N := 7) rfl ?_); refine boxev 7 #[.slice A0 l0.length c0, .int .i64 0, .int .u64 0] 151 ?_; intro gb287 hg w4 hbox hb; have HI287 := ak ((show IsS151 w w4 gb287 l0 0 0 from IsS151.of_blk hbox (by rw [hg]; exact (below_size (belowd HB))) HR0.out)); replace HB := ak (below_step (belowd HB) hb); clear hb hbox hg) | ((with_reducible refine gate_callee (f := 142) rfl ?_); refine goesLa (some 9) rfl Try.func142 #[.pointer (some ⟨gb287, 0, none⟩)] rfl ?_; (with_reducible refine (spec_l1Cur_statements.calls k gb287 l0 0 0 t288 t291 t292 w _ ?side1 ?side2 A2.out).mono ?_); (case side1 => repeat (first | (with_reducible first | exact HI287.out | apply IsS151.alloc | apply IsS151.drewN | apply IsS151.drew | apply IsS151.set_1 | apply IsS151.set_2) | exact HI287.out)); (case side2 => repeat (first | (with_reducible first | exact HB.out | apply below_alloc | apply pw_below_drewN | apply below_drew1 | refine below_set ?_ (IsS151.ge HI287.out)) | exact HB.out)); rintro e w5 ⟨v289, rfl, ho0, hi, hb, hk⟩; refine ⟨_, rfl, ?_⟩; have HO290 := ak (Kd.R_lower ho0 (below_size (by repeat (first | (with_reducible first | exact HB.out | apply below_alloc | apply pw_below_drewN | apply below_drew1 | refine below_set ?_ (IsS151.ge HI287.out)) | exact HB.out)))); replace HB := ak (hb); replace HI287 := ak (hi); (try clear hb); (try clear hk); (try clear hi); (try clear ho0)) | ((with_reducible refine gate_callee (f := 142) rfl ?_); refine goesLa (some 11) rfl Try.func142 #[.pointer (some ⟨gb287, 0, none⟩)] rfl ?_; (with_reducible refine (spec_l1Cur_statements.calls k gb287 l0 t291 t292 t293 t296 t297 w _ ?side1 ?side2 A3.out).mono ?_); (case side1 => repeat (first | (with_reducible first | exact HI287.out | apply IsS151.alloc | apply IsS151.drewN | apply IsS151.drew | apply IsS151.set_1 | apply IsS151.set_2) | exact HI287.out)); (case side2 => repeat (first | (with_reducible first | exact HB.out | apply below_alloc | apply pw_below_drewN | apply below_drew1 | refine below_set ?_ (IsS151.ge HI287.out)) | exact HB.out)); rintro e w6 ⟨v294, rfl, ho0, hi, hb, hk⟩; refine ⟨_, rfl, ?_⟩; have HO295 := ak (Kd.R_lower (Kd.R_new' ho0 (Kd.R_lt (rdl HO290))) (below_size (by repeat (first | (with_reducible first | exact HB.out | apply below_alloc | apply pw_below_drewN | apply below_drew1 | refine below_set ?_ (IsS151.ge HI287.out)) | exact HB.out)))); replace HO290 := ak (Kd.R_mono (Kd.R_told (Kd.R_oldK (IsS151.apart (show IsS151 w _ gb287 l0 t291 t292 from by repeat (first | (with_reducible first | exact HI287.out | apply IsS151.alloc | apply IsS151.drewN | apply IsS151.drew | apply IsS151.set_1 | apply IsS151.set_2) | exact HI287.out)) (rdl HO290) (by decide)) hk) (Kd.R_base ho0)) (fun _ h_ => h_.1)); replace HB := ak (hb); replace HI287 := ak (hi); (try clear hb); (try clear hk); (try clear hi); (try clear ho0)))
 go_ret2
 exact ⟨_, _, er2, by (with_reducible repeat (first | apply Kd.R_alloc | apply Kd.R_drewN | apply Kd.R_drew)); exact Kd.R_mono HO290.out (fun _ hk => hk.2), by (with_reducible repeat (first | apply Kd.R_alloc | apply Kd.R_drewN | apply Kd.R_drew)); exact Kd.R_mono HO295.out (fun _ hk => hk.2), by repeat (first | (with_reducible first | exact HB.out | apply below_alloc | apply pw_below_drewN | apply below_drew1 | refine below_set ?_ (IsS151.ge HI287.out)) | exact HB.out)⟩

/-! ### impl_Statement_143: function 143 -/
def impl_Statement_143.f (l0 : List (S91)) : Option ((List (S91))) := (some (([] : List (S91)) : List (S91))).bind fun y298 => (if y298.length + l0.length < 3518437208883 then (some (y298 ++ l0)) else (none))
theorem clonenil143 (w : World) (a : Option Addr) (m c m' c' : Nat) : (Go.binOp .eql 73 (.slice a m c) (.slice none m' c')).run Try.prog w = .ok (.bool a.isNone) w := Go.Lib.run_eql_slice_nil w 73 91 a m c m' c' Try.underlying73
attribute [local go_sem high] clonenil143
set_option maxHeartbeats 8000000 in
set_option maxRecDepth 100000 in
theorem impl_Statement_143.calls_some (ad0 : Addr) (c0 : Nat) (l0 : List (S91)) (r : List (S91)) (w : World) (hr0 : Kd.C k91 w (some ad0) l0.length l0) (hc0 : l0.length ≤ c0) (h : impl_Statement_143.f l0 = some r) :
  Calls Try.prog 143 #[.slice (some ad0) l0.length c0] w fun e w' => ∃ v0_ : Value, e = .returned (v0_) ∧ Kd.R k91 91 w' w.heap.size (fun _ => True) v0_ r ∧ Below w.heap.size w w' := by
 have HR0 := Aside0.mk hr0; have HC0 := Aside0.mk hc0; clear hr0 hc0
 have HB := Aside0.mk (Below.refl w.heap.size w)
 have H : ((some (([] : List (S91)) : List (S91))).bind fun y298 => (if y298.length + l0.length < 3518437208883 then (some (y298 ++ l0)) else (none))) = some r := h
 clear h
 obtain ⟨y298, hy_⟩ : ∃ y_ : List (S91), y_ = (([] : List (S91))) := ⟨_, rfl⟩
 replace H : (if y298.length + l0.length < 3518437208883 then (some (y298 ++ l0)) else (none)) = some r := yH
 have Ny298 := ak hy_; clear hy_; replace H := ifS H; obtain ⟨c2, H⟩ := H; have LMc2 := Aside0.mk c2; clear c2
 obtain ⟨y301, hy_⟩ : ∃ y_ : List (S91), y_ = (y298 ++ l0) := ⟨_, rfl⟩
 replace H : (some y301) = some r := yH
 have Ny301 := ak hy_; clear hy_
 obtain rfl := Option.some.inj H
 go_enter Try.func143, Try.ntmps143
 go_wp2_with (first | ((with_reducible refine gate_dst (N := 5) rfl ?_); refine Kd.R_lit k91 _ 91 ?hg (N := 5) ?hd (xs := ([] : List (S91))) (inner := []) (ok := fun _ => True) (okp := fun _ => True) ?hr ?hp (fun _ hk => hk) trivial (Below.refl _ _) (Nat.le_refl _) (by simp) ?_; (case hd => rfl); (case hg => rfl); (case hr => first | (go_simp; done) | (go_simp; rfl)); (case hp => exact (Reps.none _ _)); intro v299 w3 ho4 hb hg_ hnew_; clear hg_ hnew_; (first | rw [← Ny298.out] at ho4 | (simp only [Int.reduceToNat] at ho4; rw [← Ny298.out] at ho4)); have HO300 := ak (Kd.R_lower ho4 (below_size (belowd HB))); replace HB := ak (below_step (belowd HB) hb); clear hb ho4) | ((with_reducible refine gate_builtin (b := .append) (xs := #[.tmp 5, .tmp 6]) rfl ?_); at_builtin; refine Kd.R_append_rows k91 (w0 := w) w.heap.size rfl (.tmp 5) (.tmp 6) 73 91 (.agg #[(.int .i64 0), (.int .i64 0), (.int .i64 0), (.int .i64 0), (.bool false)]) 40 rfl Try.underlying73 info91 rfl (by decide) (by omega) v299 y298 l0 _ _ _ (fun _ => True) (fun _ => False) rfl rfl ?aO ?aR (fun _ _ h => h) (fun _ h => h.elim) ?aF ?aB ?aS ?aL ?_; (case aR => exact cd (Kd.C_below HR0.out HB.out)); (case aB => exact (belowd HB)); (case aF => exact (fun _ _ => trivial)); (case aO => exact (rdl HO300)); (case aS => exact (below_size (belowd HB))); (case aL => have := LMc2.out; omega); intro v302 w5 ho hb hg hat; rw [← Ny301.out] at ho; replace HB := ak (hb); have HO303 := ak (ho); clear HO300; clear ho hb hg hat))
 go_ret
 exact ⟨_, er2, by (with_reducible repeat (first | apply Kd.R_alloc | apply Kd.R_drewN | apply Kd.R_drew)); exact HO303.out, belowd HB⟩

set_option maxHeartbeats 8000000 in
set_option maxRecDepth 100000 in
theorem impl_Statement_143.calls (A0 : Option Addr) (c0 : Nat) (l0 : List (S91)) (r : List (S91)) (w : World) (hr0 : Kd.C k91 w A0 l0.length l0) (hc0 : l0.length ≤ c0) (h : impl_Statement_143.f l0 = some r) :
  Calls Try.prog 143 #[.slice A0 l0.length c0] w fun e w' => ∃ v0_ : Value, e = .returned (v0_) ∧ Kd.R k91 91 w' w.heap.size (fun _ => True) v0_ r ∧ Below w.heap.size w w' := by
 cases A0 with
 | some ad0 => exact impl_Statement_143.calls_some ad0 c0 l0 r w hr0 hc0 h
 | none =>
  have hl : l0 = [] := by
   rcases Nat.eq_zero_or_pos l0.length with h0 | h0
   ·exact List.eq_nil_of_length_eq_zero h0
   ·obtain ⟨ad, he, _⟩ := hr0.2.2 h0
    cases he
  subst hl
  have hr : r = [] := by
   have h' := h
   simp [impl_Statement_143.f] at h'
   first | exact h'.symm | exact h'
  subst hr; clear h hr0 hc0
  go_enter Try.func143, Try.ntmps143
  go_wp2
  go_ret
  exact ⟨_, rfl, Kd.R_nil _ _ _ _ _, Below.refl _ _⟩

/-! ### impl_Statement_204: function 204 -/
def impl_Statement_204.l0 : Nat → List (S91) → Int → Int → Int → Int → Int → Int → Bool → Option (Int)
  | 0, _, _, _, _, _, _, _, _ => none
  | k + 1, x0, x7, x8, x305000, x305001, x305002, x305003, x305004 => if x8 < x7 then (if 0 ≤ x8 then (if x8 < (x0.length : Int) then (if (x305000 == ((rd_T91 x0 x8).f0) && ((x305001 == ((rd_T91 x0 x8).f1.f0) && (x305002 == ((rd_T91 x0 x8).f1.f1) && (x305003 == ((rd_T91 x0 x8).f1.f2)))) && (x305004 == ((rd_T91 x0 x8).f2)))) = true then (some x8) else (impl_Statement_204.l0 k x0 x7 (wrap64 (x8 + 1)) x305000 x305001 x305002 x305003 x305004)) else (none)) else (none)) else (some (-1))
def impl_Statement_204.f (k : Nat) (l0 : List (S91)) (a1_0 : Int) (a1_1 : Int) (a1_2 : Int) (a1_3 : Int) (a1_4 : Bool) : Option (Int) := impl_Statement_204.l0 k l0 (l0.length : Int) 0 a1_0 a1_1 a1_2 a1_3 a1_4
theorem impl_Statement_204.mono_l : ∀ k, (∀ y0 y1 y2 y3 y4 y5 y6 y7, LeO (impl_Statement_204.l0 k y0 y1 y2 y3 y4 y5 y6 y7) (impl_Statement_204.l0 (k + 1) y0 y1 y2 y3 y4 y5 y6 y7))
 | 0 => fun _ _ _ _ _ _ _ _ r h => by simp [impl_Statement_204.l0] at h
 | k + 1 => by
  have ih0 := impl_Statement_204.mono_l k
  ·intro y0 y1 y2 y3 y4 y5 y6 y7
   unfold impl_Statement_204.l0
   repeat' (first | (with_reducible first | exact ih0 _ _ _ _ _ _ _ _ | exact LeO.refl _ | exact LeO.none _ | refine LeO.ite ?_ ?_ | refine LeO.bind ?_ (fun _ => ?_)) | exact ih0 _ _ _ _ _ _ _ _ | exact LeO.none _ | refine LeO.ite ?_ ?_ | refine LeO.bind ?_ (fun _ => ?_))
theorem impl_Statement_204.mono : ∀ a0 a1 a2 a3 a4 a5 k, LeO (impl_Statement_204.f k a0 a1 a2 a3 a4 a5) (impl_Statement_204.f (k + 1) a0 a1 a2 a3 a4 a5) := by
 intro a0 a1 a2 a3 a4 a5 k
 have ih0 := impl_Statement_204.mono_l k
 unfold impl_Statement_204.f
 repeat' (first | (with_reducible first | exact ih0 _ _ _ _ _ _ _ _ | exact LeO.refl _ | exact LeO.none _ | refine LeO.ite ?_ ?_ | refine LeO.bind ?_ (fun _ => ?_)) | exact ih0 _ _ _ _ _ _ _ _ | exact LeO.none _ | refine LeO.ite ?_ ?_ | refine LeO.bind ?_ (fun _ => ?_))
set_option maxHeartbeats 8000000 in
set_option maxRecDepth 100000 in
theorem impl_Statement_204.calls (k : Nat) (A0 : Option Addr) (c0 : Nat) (l0 : List (S91)) (a1_0 : Int) (a1_1 : Int) (a1_2 : Int) (a1_3 : Int) (a1_4 : Bool) (r : Int) (w : World) (hr0 : Kd.C k91 w A0 l0.length l0) (hc0 : l0.length ≤ c0) (h : impl_Statement_204.f k l0 a1_0 a1_1 a1_2 a1_3 a1_4 = some r) :
  Calls Try.prog 204 #[.slice A0 l0.length c0, .agg #[.int .i64 a1_0, .int .i64 a1_1, .int .i64 a1_2, .int .i64 a1_3, .bool a1_4]] w fun e w' => e = .returned (.int .i64 r) ∧ Below w.heap.size w w' := by
 have hu91 := Try.underlying91
 have HR0 := Aside0.mk hr0; have HC0 := Aside0.mk hc0; clear hr0 hc0
 have HB := Aside0.mk (Below.refl w.heap.size w)
 have H : (impl_Statement_204.l0 k l0 (l0.length : Int) 0 a1_0 a1_1 a1_2 a1_3 a1_4) = some r := h
 clear h
 have H' := Aside0.mk H
 clear H
 go_enter Try.func204, Try.ntmps204
 go_wp2_with (first | ((with_reducible refine gate_dst (N := 3) rfl ?_); refine boxev 3 #[.int .i64 a1_0, .int .i64 a1_1, .int .i64 a1_2, .int .i64 a1_3, .bool a1_4] 91 ?_; intro gb304 hg w3 hbox hb; have BK304 := ak (hbox); have GW304 := ak (hgl hg (belowd HB)); have GE304 := ak (hgl hg (belowd HB)); replace HB := ak (below_step (belowd HB) hb); clear hb hbox hg))
 repeat (go_quiet (first | ((with_reducible refine gate_dst (N := 3) rfl ?_); refine boxev 3 #[.int .i64 a1_0, .int .i64 a1_1, .int .i64 a1_2, .int .i64 a1_3, .bool a1_4] 91 ?_; intro gb304 hg w3 hbox hb; have BK304 := ak (hbox); have GW304 := ak (hgl hg (belowd HB)); have GE304 := ak (hgl hg (belowd HB)); replace HB := ak (below_step (belowd HB) hb); clear hb hbox hg)); try go_wp2_with (first | ((with_reducible refine gate_dst (N := 3) rfl ?_); refine boxev 3 #[.int .i64 a1_0, .int .i64 a1_1, .int .i64 a1_2, .int .i64 a1_3, .bool a1_4] 91 ?_; intro gb304 hg w3 hbox hb; have BK304 := ak (hbox); have GW304 := ak (hgl hg (belowd HB)); have GE304 := ak (hgl hg (belowd HB)); replace HB := ak (below_step (belowd HB) hb); clear hb hbox hg)))
 go_loopg [8] k (fun kq v8 w' => ∃ (x8_1 : Int), v8 = .int .i64 x8_1 ∧ Aside0 (impl_Statement_204.l0 kq l0 (l0.length : Int) x8_1 a1_0 a1_1 a1_2 a1_3 a1_4 = some r) ∧ Aside0 (kq ≤ k) ∧ Aside0 (w'.heap[gb304]? = some (.cells #[.int .i64 a1_0, .int .i64 a1_1, .int .i64 a1_2, .int .i64 a1_3, .bool a1_4] 91 (0, 0))) ∧ Aside0 (Below w.heap.size w w'))
 case atStart => exact ⟨(0), er, H', ⟨Nat.le_refl _⟩, ⟨blkd BK304⟩, ⟨belowg1 HB GE304⟩⟩
 case round =>
  clear H'
  obtain ⟨x8_1, rfl, HA, HK1, BK304, HB⟩ := hrel
  cases gk with
  | zero => exact absurd HA.out (by simp [impl_Statement_204.l0])
  | succ k1 =>
   have H := HA.out; clear HA
   simp only [impl_Statement_204.l0] at H
   by_cases c4 : x8_1 < (l0.length : Int)
   ·rw [if_pos c4] at H
    have c4b0 : decide (x8_1 < (l0.length : Int)) = true := decide_eq_true c4
    clear c4; replace H := ifS H; obtain ⟨c5, H⟩ := H; have c5b0 := decide_eq_true c5; clear c5; replace H := ifS H; obtain ⟨c6, H⟩ := H; have c6b0 := decide_eq_true c6; clear c6
    by_cases c7 : (a1_0 == ((rd_T91 l0 x8_1).f0) && ((a1_1 == ((rd_T91 l0 x8_1).f1.f0) && (a1_2 == ((rd_T91 l0 x8_1).f1.f1) && (a1_3 == ((rd_T91 l0 x8_1).f1.f2)))) && (a1_4 == ((rd_T91 l0 x8_1).f2)))) = true
    ·rw [if_pos c7] at H
     have c7b0 : (a1_0 == ((rd_T91 l0 x8_1).f0) && ((a1_1 == ((rd_T91 l0 x8_1).f1.f0) && (a1_2 == ((rd_T91 l0 x8_1).f1.f1) && (a1_3 == ((rd_T91 l0 x8_1).f1.f2)))) && (a1_4 == ((rd_T91 l0 x8_1).f2)))) = true := c7
     (try (have c7b1 : decide (a1_0 = ((rd_T91 l0 x8_1).f0) && ((a1_1 == ((rd_T91 l0 x8_1).f1.f0) && (a1_2 == ((rd_T91 l0 x8_1).f1.f1) && (a1_3 == ((rd_T91 l0 x8_1).f1.f2)))) && (a1_4 == ((rd_T91 l0 x8_1).f2)))) = true := by simpa using c7))
     (try (have c7b2 : (a1_0 == ((rd_T91 l0 x8_1).f0) && ((a1_1 == ((rd_T91 l0 x8_1).f1.f0) && (a1_2 == ((rd_T91 l0 x8_1).f1.f1) && (a1_3 == ((rd_T91 l0 x8_1).f1.f2)))) && (a1_4 == ((rd_T91 l0 x8_1).f2)))) = true := by simpa using c7))
     clear c7
     obtain rfl := Option.some.inj H
     obtain ⟨hcz8_0, hcz8_1, hcz8_2, hcz8_3, hcz8_4, hfz8_0, hfz8_1, hfz8_2, hfz8_3, hfz8_4⟩ := box5 BK304
     have p305 : 0 ≤ (x8_1 : Int) := da
     have q305 : x8_1 < (l0.length : Int) := da
     obtain ⟨ad305, e305, hx305_0, hx305_1, hx305_2, hx305_3, hx305_4⟩ := at_T91 HR0.out x8_1 p305 q305
     cases e305
     replace hx305_0 := (HB.out.cell (World.block_lt_of_cell? w _ hx305_0)).trans hx305_0
     replace hx305_1 := (HB.out.cell (World.block_lt_of_cell? w _ hx305_1)).trans hx305_1
     replace hx305_2 := (HB.out.cell (World.block_lt_of_cell? w _ hx305_2)).trans hx305_2
     replace hx305_3 := (HB.out.cell (World.block_lt_of_cell? w _ hx305_3)).trans hx305_3
     replace hx305_4 := (HB.out.cell (World.block_lt_of_cell? w _ hx305_4)).trans hx305_4
     replace p305 := eq_true p305; replace q305 := eq_true q305; go_wp2
     repeat (go_quiet (fail); try go_wp2)
     go_ret
     exact ⟨er2, belowg1 HB GE304⟩
    ·rw [if_neg c7] at H
     have c7b0 : (a1_0 == ((rd_T91 l0 x8_1).f0) && ((a1_1 == ((rd_T91 l0 x8_1).f1.f0) && (a1_2 == ((rd_T91 l0 x8_1).f1.f1) && (a1_3 == ((rd_T91 l0 x8_1).f1.f2)))) && (a1_4 == ((rd_T91 l0 x8_1).f2)))) = false := by simpa using c7
     (try (have c7b1 : decide (a1_0 = ((rd_T91 l0 x8_1).f0) && ((a1_1 == ((rd_T91 l0 x8_1).f1.f0) && (a1_2 == ((rd_T91 l0 x8_1).f1.f1) && (a1_3 == ((rd_T91 l0 x8_1).f1.f2)))) && (a1_4 == ((rd_T91 l0 x8_1).f2)))) = false := by simpa using c7))
     (try (have c7b2 : (a1_0 == ((rd_T91 l0 x8_1).f0) && ((a1_1 == ((rd_T91 l0 x8_1).f1.f0) && (a1_2 == ((rd_T91 l0 x8_1).f1.f1) && (a1_3 == ((rd_T91 l0 x8_1).f1.f2)))) && (a1_4 == ((rd_T91 l0 x8_1).f2)))) = false := by simpa using c7))
     (try (have c7b3 : ¬ (a1_0 = ((rd_T91 l0 x8_1).f0) && ((a1_1 == ((rd_T91 l0 x8_1).f1.f0) && (a1_2 == ((rd_T91 l0 x8_1).f1.f1) && (a1_3 == ((rd_T91 l0 x8_1).f1.f2)))) && (a1_4 == ((rd_T91 l0 x8_1).f2)))) := by simpa using c7))
     clear c7
     have H' := Aside0.mk H
     clear H; obtain ⟨hcz9_0, hcz9_1, hcz9_2, hcz9_3, hcz9_4, hfz9_0, hfz9_1, hfz9_2, hfz9_3, hfz9_4⟩ := box5 BK304
     have p305 : 0 ≤ (x8_1 : Int) := da
     have q305 : x8_1 < (l0.length : Int) := da
     obtain ⟨ad305, e305, hx305_0, hx305_1, hx305_2, hx305_3, hx305_4⟩ := at_T91 HR0.out x8_1 p305 q305
     cases e305
     replace hx305_0 := (HB.out.cell (World.block_lt_of_cell? w _ hx305_0)).trans hx305_0
     replace hx305_1 := (HB.out.cell (World.block_lt_of_cell? w _ hx305_1)).trans hx305_1
     replace hx305_2 := (HB.out.cell (World.block_lt_of_cell? w _ hx305_2)).trans hx305_2
     replace hx305_3 := (HB.out.cell (World.block_lt_of_cell? w _ hx305_3)).trans hx305_3
     replace hx305_4 := (HB.out.cell (World.block_lt_of_cell? w _ hx305_4)).trans hx305_4
     replace p305 := eq_true p305; replace q305 := eq_true q305; go_wp2
     repeat (go_quiet (fail); try go_wp2)
     go_roundg k1
     case measure => have := HK1.out; omega
     case rel => exact ⟨(wrap64 (x8_1 + 1)), er, H', ⟨by have := HK1.out; omega⟩, ⟨blkd BK304⟩, ⟨belowg1 HB GE304⟩⟩
   ·rw [if_neg c4] at H
    have c4b0 : decide (x8_1 < (l0.length : Int)) = false := decide_eq_false c4
    clear c4
    obtain rfl := Option.some.inj H
    go_wp2
    repeat (go_quiet (fail); try go_wp2)
    go_ret
    exact ⟨er2, belowg1 HB GE304⟩

/-! ### impl_Statement_144: function 144 -/
def impl_Statement_144.f (k : Nat) (l0 : List (S91)) (a1_0 : Int) (a1_1 : Int) (a1_2 : Int) (a1_3 : Int) (a1_4 : Bool) : Option (Bool) := (impl_Statement_204.f k l0 a1_0 a1_1 a1_2 a1_3 a1_4).bind fun t307 => (some (decide (t307 ≥ 0)))
theorem impl_Statement_144.mono : ∀ a0 a1 a2 a3 a4 a5 k, LeO (impl_Statement_144.f k a0 a1 a2 a3 a4 a5) (impl_Statement_144.f (k + 1) a0 a1 a2 a3 a4 a5) := by
 intro a0 a1 a2 a3 a4 a5 k
 unfold impl_Statement_144.f
 repeat' (first | (with_reducible first | exact impl_Statement_204.mono _ _ _ _ _ _ _ | exact LeO.refl _ | exact LeO.none _ | refine LeO.ite ?_ ?_ | refine LeO.bind ?_ (fun _ => ?_)) | exact impl_Statement_204.mono _ _ _ _ _ _ _ | exact LeO.none _ | refine LeO.ite ?_ ?_ | refine LeO.bind ?_ (fun _ => ?_))
set_option maxHeartbeats 8000000 in
set_option maxRecDepth 100000 in
theorem impl_Statement_144.calls (k : Nat) (A0 : Option Addr) (c0 : Nat) (l0 : List (S91)) (a1_0 : Int) (a1_1 : Int) (a1_2 : Int) (a1_3 : Int) (a1_4 : Bool) (r : Bool) (w : World) (hr0 : Kd.C k91 w A0 l0.length l0) (hc0 : l0.length ≤ c0) (h : impl_Statement_144.f k l0 a1_0 a1_1 a1_2 a1_3 a1_4 = some r) :
  Calls Try.prog 144 #[.slice A0 l0.length c0, .agg #[.int .i64 a1_0, .int .i64 a1_1, .int .i64 a1_2, .int .i64 a1_3, .bool a1_4]] w fun e w' => e = .returned (.bool r) ∧ Below w.heap.size w w' := by
 have hu91 := Try.underlying91
 have HR0 := Aside0.mk hr0; have HC0 := Aside0.mk hc0; clear hr0 hc0
 have HB := Aside0.mk (Below.refl w.heap.size w)
 have H : ((impl_Statement_204.f k l0 a1_0 a1_1 a1_2 a1_3 a1_4).bind fun t307 => (some (decide (t307 ≥ 0)))) = some r := h
 clear h; replace H := bS H; obtain ⟨t307, A3, H⟩ := H
 replace H : (some (decide (t307 ≥ 0))) = some r := H
 obtain rfl := Option.some.inj H
 go_enter Try.func144, Try.ntmps144
 go_wp2_with (first | ((with_reducible refine gate_dst (N := 3) rfl ?_); refine boxev 3 #[.int .i64 a1_0, .int .i64 a1_1, .int .i64 a1_2, .int .i64 a1_3, .bool a1_4] 91 ?_; intro gb306 hg w4 hbox hb; have BK306 := ak (hbox); have GW306 := ak (hgl hg (belowd HB)); have GE306 := ak (hgl hg (belowd HB)); replace HB := ak (below_step (belowd HB) hb); clear hb hbox hg; obtain ⟨hcz5_0, hcz5_1, hcz5_2, hcz5_3, hcz5_4, hfz5_0, hfz5_1, hfz5_2, hfz5_3, hfz5_4⟩ := box5 BK306) | ((with_reducible refine gate_callee (f := 204) rfl ?_); refine goesLa (some 7) rfl Try.func204 #[.slice A0 l0.length c0, .agg #[.int .i64 a1_0, .int .i64 a1_1, .int .i64 a1_2, .int .i64 a1_3, .bool a1_4]] rfl ?_; (with_reducible refine (impl_Statement_204.calls k _ _ l0 a1_0 a1_1 a1_2 a1_3 a1_4 t307 _ ?side1 ?side2 A3.out).mono ?_); (case side1 => exact cd (Kd.C_below HR0.out HB.out)); (case side2 => exact HC0.out); rintro e w6 ⟨rfl, hb⟩; refine ⟨_, rfl, ?_⟩; replace BK306 := ak (blk_below (blkd BK306) hb); replace HB := ak (below_step (belowg1 HB GE306) hb); (try clear hb)))
 go_ret
 exact ⟨er2, belowg1 HB GE306⟩

/-! ### impl_MergeStatements: function 57 -/
mutual
def impl_MergeStatements.j0 : Nat → List (S91) → List (S91) → Bool → Option ((List (S91)) × Bool)
  | 0, _, _, _ => none
  | k + 1, x0, x1, x16 => if x16 = true then (some (([] : List (S91)), false)) else ((impl_Statement_143.f x0).bind fun t310 => (impl_MergeStatements.l0 k t310 x1 (x1.length : Int) 0))
def impl_MergeStatements.l0 : Nat → List (S91) → List (S91) → Int → Int → Option ((List (S91)) × Bool)
  | 0, _, _, _, _ => none
  | k + 1, x6, x19, x20, x21 => if x21 < x20 then (if 0 ≤ x21 then (if x21 < (x19.length : Int) then ((impl_Statement_144.f k x6 ((rd_T91 x19 x21).f0) ((rd_T91 x19 x21).f1.f0) ((rd_T91 x19 x21).f1.f1) ((rd_T91 x19 x21).f1.f2) ((rd_T91 x19 x21).f2)).bind fun t315 => (if t315 = true then (impl_MergeStatements.l0 k x6 x19 x20 (wrap64 (x21 + 1))) else (if x6.length < 3518437208883 then (impl_MergeStatements.l0 k (x6 ++ [(⟨(rd_T91 x19 x21).f0, (⟨(rd_T91 x19 x21).f1.f0, (rd_T91 x19 x21).f1.f1, (rd_T91 x19 x21).f1.f2⟩ : S85), (rd_T91 x19 x21).f2⟩ : S91)]) x19 x20 (wrap64 (x21 + 1))) else (none)))) else (none)) else (none)) else (if (x6.length : Int) > 60 then (some (([] : List (S91)), false)) else (some (x6, true)))
end
def impl_MergeStatements.f (k : Nat) (l0 : List (S91)) (l1 : List (S91)) : Option ((List (S91)) × Bool) := (impl_areStatements.f k l0).bind fun t308 => (if t308 = true then ((impl_areStatements.f k l1).bind fun t309 => (impl_MergeStatements.j0 k l0 l1 (!t309))) else (impl_MergeStatements.j0 k l0 l1 true))
theorem impl_MergeStatements.mono_l : ∀ k, (∀ y0 y1 y2, LeO (impl_MergeStatements.j0 k y0 y1 y2) (impl_MergeStatements.j0 (k + 1) y0 y1 y2)) ∧ (∀ y0 y1 y2 y3, LeO (impl_MergeStatements.l0 k y0 y1 y2 y3) (impl_MergeStatements.l0 (k + 1) y0 y1 y2 y3))
 | 0 => ⟨fun _ _ _ r h => by simp [impl_MergeStatements.j0] at h, fun _ _ _ _ r h => by simp [impl_MergeStatements.l0] at h⟩
 | k + 1 => by
  obtain ⟨ih0, ih1⟩ := impl_MergeStatements.mono_l k
  refine ⟨?_, ?_⟩
  ·intro y0 y1 y2
   unfold impl_MergeStatements.j0
   repeat' (first | (with_reducible first | exact ih0 _ _ _ | exact ih1 _ _ _ _ | exact impl_Statement_144.mono _ _ _ _ _ _ _ | exact impl_areStatements.mono _ _ | exact LeO.refl _ | exact LeO.none _ | refine LeO.ite ?_ ?_ | refine LeO.bind ?_ (fun _ => ?_)) | exact ih0 _ _ _ | exact ih1 _ _ _ _ | exact impl_Statement_144.mono _ _ _ _ _ _ _ | exact impl_areStatements.mono _ _ | exact LeO.none _ | refine LeO.ite ?_ ?_ | refine LeO.bind ?_ (fun _ => ?_))
  ·intro y0 y1 y2 y3
   unfold impl_MergeStatements.l0
   repeat' (first | (with_reducible first | exact ih0 _ _ _ | exact ih1 _ _ _ _ | exact impl_Statement_144.mono _ _ _ _ _ _ _ | exact impl_areStatements.mono _ _ | exact LeO.refl _ | exact LeO.none _ | refine LeO.ite ?_ ?_ | refine LeO.bind ?_ (fun _ => ?_)) | exact ih0 _ _ _ | exact ih1 _ _ _ _ | exact impl_Statement_144.mono _ _ _ _ _ _ _ | exact impl_areStatements.mono _ _ | exact LeO.none _ | refine LeO.ite ?_ ?_ | refine LeO.bind ?_ (fun _ => ?_))
theorem impl_MergeStatements.mono : ∀ a0 a1 k, LeO (impl_MergeStatements.f k a0 a1) (impl_MergeStatements.f (k + 1) a0 a1) := by
 intro a0 a1 k
 obtain ⟨ih0, ih1⟩ := impl_MergeStatements.mono_l k
 unfold impl_MergeStatements.f
 repeat' (first | (with_reducible first | exact ih0 _ _ _ | exact ih1 _ _ _ _ | exact impl_Statement_144.mono _ _ _ _ _ _ _ | exact impl_areStatements.mono _ _ | exact LeO.refl _ | exact LeO.none _ | refine LeO.ite ?_ ?_ | refine LeO.bind ?_ (fun _ => ?_)) | exact ih0 _ _ _ | exact ih1 _ _ _ _ | exact impl_Statement_144.mono _ _ _ _ _ _ _ | exact impl_areStatements.mono _ _ | exact LeO.none _ | refine LeO.ite ?_ ?_ | refine LeO.bind ?_ (fun _ => ?_))
set_option maxHeartbeats 8000000 in
set_option maxRecDepth 100000 in
theorem impl_MergeStatements.calls (k : Nat) (A0 : Option Addr) (c0 : Nat) (l0 : List (S91)) (A1 : Option Addr) (c1 : Nat) (l1 : List (S91)) (r1 : List (S91)) (r2 : Bool) (w : World) (hr0 : Kd.C k91 w A0 l0.length l0) (hc0 : l0.length ≤ c0) (hr1 : Kd.C k91 w A1 l1.length l1) (hc1 : l1.length ≤ c1) (h : impl_MergeStatements.f k l0 l1 = some (r1, r2)) :
  Calls Try.prog 57 #[.slice A0 l0.length c0, .slice A1 l1.length c1] w fun e w' => ∃ v0_ : Value, e = .returned (.tuple #[v0_, .bool r2]) ∧ Kd.R k91 91 w' w.heap.size (fun _ => True) v0_ r1 ∧ Below w.heap.size w w' := by
 have hu91 := Try.underlying91
 have HR0 := Aside0.mk hr0; have HC0 := Aside0.mk hc0; clear hr0 hc0; have HR1 := Aside0.mk hr1; have HC1 := Aside0.mk hc1; clear hr1 hc1
 have HB := Aside0.mk (Below.refl w.heap.size w)
 have H : ((impl_areStatements.f k l0).bind fun t308 => (if t308 = true then ((impl_areStatements.f k l1).bind fun t309 => (impl_MergeStatements.j0 k l0 l1 (!t309))) else (impl_MergeStatements.j0 k l0 l1 true))) = some (r1, r2) := h
 clear h; have HC3 := Aside0.mk H; clear H
 go_enter Try.func57, Try.ntmps57
 go_upto_region 1 with (fail)
 go_cut [16] (fun v16 wc => ∃ (kq : Nat) (x16_2 : Bool), v16 = .bool x16_2 ∧ Aside0 (impl_MergeStatements.j0 kq l0 l1 x16_2 = some (r1, r2)) ∧ Aside0 (kq ≤ k) ∧ Aside0 (Below w.heap.size w wc))
 case first =>
  have H := HC3.out; clear HC3; replace H := bS H; obtain ⟨t308, A4, H⟩ := H
  replace H : (if t308 = true then ((impl_areStatements.f k l1).bind fun t309 => (impl_MergeStatements.j0 k l0 l1 (!t309))) else (impl_MergeStatements.j0 k l0 l1 true)) = some (r1, r2) := H
  by_cases c5 : t308 = true
  ·subst c5
   have H1 : ((impl_areStatements.f k l1).bind fun t309 => (impl_MergeStatements.j0 k l0 l1 (!t309))) = some (r1, r2) := by rw [if_pos rfl] at H; exact H
   clear H
   have H := H1
   clear H1; replace H := bS H; obtain ⟨t309, A6, H⟩ := H
   replace H : (impl_MergeStatements.j0 k l0 l1 (!t309)) = some (r1, r2) := H
   have H' := Aside0.mk H
   clear H
   go_wp2_with (first | ((with_reducible refine gate_callee (f := 138) rfl ?_); refine goesLa (some 10) rfl Try.func138 #[.slice A0 l0.length c0] rfl ?_; (with_reducible refine (impl_areStatements.calls k _ _ l0 true _ ?side1 ?side2 A4.out).mono ?_); (case side1 => exact cd (Kd.C_below HR0.out HB.out)); (case side2 => exact HC0.out); rintro e w7 ⟨rfl, hb⟩; refine ⟨_, rfl, ?_⟩; replace HB := ak (below_step (belowd HB) hb); (try clear hb)) | (go_at_call 138; (with_reducible refine (impl_areStatements.calls k _ _ l1 t309 _ ?side1 ?side2 A6.out).mono ?_); (case side1 => exact cd (Kd.C_below HR1.out HB.out)); (case side2 => exact HC1.out); rintro e w8 ⟨rfl, hb⟩; replace HB := ak (below_step (belowd HB) hb); (try clear hb)))
   go_meet
   case rel => exact ⟨_, (!t309), er, H', ⟨by first | omega | exact Nat.le_refl _⟩, ⟨belowd HB⟩⟩
  ·replace c5 := Bool.eq_false_iff.mpr c5
   subst c5
   have H1 : (impl_MergeStatements.j0 k l0 l1 true) = some (r1, r2) := by rw [if_neg (show ¬ (false = true) by decide)] at H; exact H
   clear H
   have H := H1
   clear H1
   have H' := Aside0.mk H
   clear H
   go_wp2_with (first | ((with_reducible refine gate_callee (f := 138) rfl ?_); refine goesLa (some 10) rfl Try.func138 #[.slice A0 l0.length c0] rfl ?_; (with_reducible refine (impl_areStatements.calls k _ _ l0 false _ ?side1 ?side2 A4.out).mono ?_); (case side1 => exact cd (Kd.C_below HR0.out HB.out)); (case side2 => exact HC0.out); rintro e w9 ⟨rfl, hb⟩; refine ⟨_, rfl, ?_⟩; replace HB := ak (below_step (belowd HB) hb); (try clear hb)))
   go_meet
   case rel => exact ⟨_, (true), er, H', ⟨by first | omega | exact Nat.le_refl _⟩, ⟨belowd HB⟩⟩
 case rest =>
  clear HC3; (try clear c1)
  obtain ⟨kq, x16_2, rfl, HA, HJ2, HB⟩ := hcut
  cases kq with
  | zero => exact absurd HA.out (by simp [impl_MergeStatements.j0])
  | succ kj2 =>
   have H := HA.out; clear HA
   simp only [impl_MergeStatements.j0] at H
   by_cases c10 : x16_2 = true
   ·subst c10
    have H1 : (some (([] : List (S91)), false)) = some (r1, r2) := by rw [if_pos rfl] at H; exact H
    clear H
    have H := H1
    clear H1
    simp only [Option.some.injEq, Prod.mk.injEq] at H
    obtain ⟨rfl, rfl⟩ := H; go_wp2
    go_ret2
    exact ⟨_, er2, by first | exact Kd.R_nil _ _ _ _ _ | exact Kd.N_nil _ _ _ _ _ | exact Kd.V_nil _ _ _ _ _ | exact Kd.Q_nil _ _ _ _ _ | exact Kd.S_nil _ _ _ _ _, belowd HB⟩
   ·replace c10 := Bool.eq_false_iff.mpr c10
    subst c10
    have H1 : ((impl_Statement_143.f l0).bind fun t310 => (impl_MergeStatements.l0 kj2 t310 l1 (l1.length : Int) 0)) = some (r1, r2) := by rw [if_neg (show ¬ (false = true) by decide)] at H; exact H
    clear H
    have H := H1
    clear H1; replace H := bS H; obtain ⟨t310, A11, H⟩ := H
    replace H : (impl_MergeStatements.l0 kj2 t310 l1 (l1.length : Int) 0) = some (r1, r2) := H
    have H' := Aside0.mk H
    clear H
    go_wp2_with (first | ((with_reducible refine gate_callee (f := 143) rfl ?_); refine goesLa (some 18) rfl Try.func143 #[.slice A0 l0.length c0] rfl ?_; (with_reducible refine (impl_Statement_143.calls _ _ l0 t310 _ ?side1 ?side2 A11.out).mono ?_); (case side1 => exact cd (Kd.C_below HR0.out HB.out)); (case side2 => exact HC0.out); rintro e w12 ⟨v311, rfl, ho0, hb⟩; refine ⟨_, rfl, ?_⟩; have HO312 := ak (Kd.R_lower ho0 (below_size (belowd HB))); replace HB := ak (below_step (belowd HB) hb); (try clear hb); (try clear ho0)))
    go_loopg [6, 21] kj2 (fun kq v6 v21 w' => ∃ (x6_2 : List (S91)) (x21_2 : Int), v21 = .int .i64 x21_2 ∧ Aside0 (impl_MergeStatements.l0 kq x6_2 l1 (l1.length : Int) x21_2 = some (r1, r2)) ∧ Aside0 (kq ≤ kj2) ∧ Aside0 (Kd.R k91 91 w' w.heap.size (fun _ => True) v6 x6_2) ∧ Aside0 (Below w.heap.size w w'))
    case atStart => exact ⟨(t310), (0), er, H', ⟨Nat.le_refl _⟩, ⟨rdl HO312⟩, ⟨belowd HB⟩⟩
    case round =>
     clear H'
     (try clear c10)
     obtain ⟨x6_2, x21_2, rfl, HA, HK2, HO_6, HB⟩ := hrel
     cases gk with
     | zero => exact absurd HA.out (by simp [impl_MergeStatements.l0])
     | succ k2 =>
      have H := HA.out; clear HA
      simp only [impl_MergeStatements.l0] at H
      by_cases c13 : x21_2 < (l1.length : Int)
      ·rw [if_pos c13] at H
       have c13b0 : decide (x21_2 < (l1.length : Int)) = true := decide_eq_true c13
       clear c13; replace H := ifS H; obtain ⟨c14, H⟩ := H; have c14b0 := decide_eq_true c14; clear c14; replace H := ifS H; obtain ⟨c15, H⟩ := H; have c15b0 := decide_eq_true c15; clear c15; replace H := bS H; obtain ⟨t315, A16, H⟩ := H
       replace H : (if t315 = true then (impl_MergeStatements.l0 k2 x6_2 l1 (l1.length : Int) (wrap64 (x21_2 + 1))) else (if x6_2.length < 3518437208883 then (impl_MergeStatements.l0 k2 (x6_2 ++ [(⟨(rd_T91 l1 x21_2).f0, (⟨(rd_T91 l1 x21_2).f1.f0, (rd_T91 l1 x21_2).f1.f1, (rd_T91 l1 x21_2).f1.f2⟩ : S85), (rd_T91 l1 x21_2).f2⟩ : S91)]) l1 (l1.length : Int) (wrap64 (x21_2 + 1))) else (none))) = some (r1, r2) := H
       by_cases c17 : t315 = true
       ·subst c17
        have H1 : (impl_MergeStatements.l0 k2 x6_2 l1 (l1.length : Int) (wrap64 (x21_2 + 1))) = some (r1, r2) := by rw [if_pos rfl] at H; exact H
        clear H
        have H := H1
        clear H1
        have H' := Aside0.mk H
        clear H
        have p313 : 0 ≤ (x21_2 : Int) := da
        have q313 : x21_2 < (l1.length : Int) := da
        obtain ⟨ad313, e313, hx313_0, hx313_1, hx313_2, hx313_3, hx313_4⟩ := at_T91 HR1.out x21_2 p313 q313
        cases e313
        replace hx313_0 := (HB.out.cell (World.block_lt_of_cell? w _ hx313_0)).trans hx313_0
        replace hx313_1 := (HB.out.cell (World.block_lt_of_cell? w _ hx313_1)).trans hx313_1
        replace hx313_2 := (HB.out.cell (World.block_lt_of_cell? w _ hx313_2)).trans hx313_2
        replace hx313_3 := (HB.out.cell (World.block_lt_of_cell? w _ hx313_3)).trans hx313_3
        replace hx313_4 := (HB.out.cell (World.block_lt_of_cell? w _ hx313_4)).trans hx313_4
        replace p313 := eq_true p313; replace q313 := eq_true q313
        go_wp2_with (first | ((with_reducible refine gate_dst (N := 8) rfl ?_); refine boxev 8 #[.int .i64 0, .int .i64 0, .int .i64 0, .int .i64 0, .bool false] 91 ?_; intro gb314 hg w18 hbox hb; replace HO_6 := ak (Kd.R_below (Kd.R_elderB (rdl HO_6) gb314 (Nat.le_of_eq hg.symm)) hb); have BK314 := ak (hbox); have GW314 := ak (hgl hg (belowd HB)); have GE314 := ak (hgl hg (belowd HB)); replace HB := ak (below_step (belowd HB) hb); clear hb hbox hg; obtain ⟨hcz19_0, hcz19_1, hcz19_2, hcz19_3, hcz19_4, hfz19_0, hfz19_1, hfz19_2, hfz19_3, hfz19_4⟩ := box5 BK314; obtain ⟨Ao20, co20, eo20⟩ := Kd.R_slice HO_6.out; subst eo20) | ((with_reducible refine gate_callee (f := 144) rfl ?_); refine goesLa (some 27) rfl Try.func144 #[.slice Ao20 x6_2.length co20, .agg #[.int .i64 ((rd_T91 l1 x21_2).f0), .int .i64 ((rd_T91 l1 x21_2).f1.f0), .int .i64 ((rd_T91 l1 x21_2).f1.f1), .int .i64 ((rd_T91 l1 x21_2).f1.f2), .bool ((rd_T91 l1 x21_2).f2)]] rfl ?_; (with_reducible refine (impl_Statement_144.calls k2 _ _ x6_2 ((rd_T91 l1 x21_2).f0) ((rd_T91 l1 x21_2).f1.f0) ((rd_T91 l1 x21_2).f1.f1) ((rd_T91 l1 x21_2).f1.f2) ((rd_T91 l1 x21_2).f2) true _ ?side1 ?side2 A16.out).mono ?_); (case side1 => refine (Kd.R_reads' (e := 91) (base := w.heap.size) (ok := fun k_ => (True ∧ k_ ≠ gb314)) (n := x6_2.length) (c := co20) ?_).2.2; exact (by (with_reducible repeat (first | apply Kd.R_alloc | apply Kd.R_drewN | apply Kd.R_drew)); exact (Kd.R_mono (farsR (Kd.R_mono HO_6.out (fun k_ hk => (⟨hk, hk.2⟩ : _ ∧ k_ ≠ gb314)))) (fun _ h_ => h_.1)))); (case side2 => exact (Kd.R_reads' HO_6.out).2.1); rintro e w21 ⟨rfl, hb⟩; refine ⟨_, rfl, ?_⟩; replace HO_6 := ak (Kd.R_below (by (with_reducible repeat (first | apply Kd.R_alloc | apply Kd.R_drewN | apply Kd.R_drew)); exact (Kd.R_mono (farsR (Kd.R_mono HO_6.out (fun k_ hk => (⟨hk, hk.2⟩ : _ ∧ k_ ≠ gb314)))) (fun _ h_ => h_.1))) hb); replace BK314 := ak (blk_below (g := gb314) (o := .cells #[.int .i64 ((rd_T91 l1 x21_2).f0), .int .i64 ((rd_T91 l1 x21_2).f1.f0), .int .i64 ((rd_T91 l1 x21_2).f1.f1), .int .i64 ((rd_T91 l1 x21_2).f1.f2), .bool ((rd_T91 l1 x21_2).f2)] 91 (0, 0)) (by (with_reducible repeat (first | refine blk_drewN ?_ _ | refine blk_drew ?_ | refine blk_alloc ?_ _)); refine blk_put (cs := #[.int .i64 ((rd_T91 l1 x21_2).f0), .int .i64 ((rd_T91 l1 x21_2).f1.f0), .int .i64 ((rd_T91 l1 x21_2).f1.f1), .int .i64 ((rd_T91 l1 x21_2).f1.f2), .bool false]) ?_ 4 _ rfl; (with_reducible repeat (first | refine blk_drewN ?_ _ | refine blk_drew ?_ | refine blk_alloc ?_ _)); refine blk_put (cs := #[.int .i64 ((rd_T91 l1 x21_2).f0), .int .i64 ((rd_T91 l1 x21_2).f1.f0), .int .i64 ((rd_T91 l1 x21_2).f1.f1), .int .i64 0, .bool false]) ?_ 3 _ rfl; (with_reducible repeat (first | refine blk_drewN ?_ _ | refine blk_drew ?_ | refine blk_alloc ?_ _)); refine blk_put (cs := #[.int .i64 ((rd_T91 l1 x21_2).f0), .int .i64 ((rd_T91 l1 x21_2).f1.f0), .int .i64 0, .int .i64 0, .bool false]) ?_ 2 _ rfl; (with_reducible repeat (first | refine blk_drewN ?_ _ | refine blk_drew ?_ | refine blk_alloc ?_ _)); refine blk_put (cs := #[.int .i64 ((rd_T91 l1 x21_2).f0), .int .i64 0, .int .i64 0, .int .i64 0, .bool false]) ?_ 1 _ rfl; (with_reducible repeat (first | refine blk_drewN ?_ _ | refine blk_drew ?_ | refine blk_alloc ?_ _)); refine blk_put (cs := #[.int .i64 0, .int .i64 0, .int .i64 0, .int .i64 0, .bool false]) ?_ 0 _ rfl; (with_reducible repeat (first | refine blk_drewN ?_ _ | refine blk_drew ?_ | refine blk_alloc ?_ _)); exact BK314.out) hb); replace HB := ak (below_step (belowg1 HB GE314) hb); (try clear hb)))
        go_roundg k2
        case measure => have := HJ2.out; have := HK2.out; omega
        case rel => exact ⟨(x6_2), (wrap64 (x21_2 + 1)), er, H', ⟨by have := HJ2.out; have := HK2.out; omega⟩, ⟨by (with_reducible repeat (first | apply Kd.R_alloc | apply Kd.R_drewN | apply Kd.R_drew)); exact Kd.R_mono HO_6.out (fun _ hk => trivial)⟩, ⟨belowg1 HB GE314⟩⟩
       ·replace c17 := Bool.eq_false_iff.mpr c17
        subst c17
        have H1 : (if x6_2.length < 3518437208883 then (impl_MergeStatements.l0 k2 (x6_2 ++ [(⟨(rd_T91 l1 x21_2).f0, (⟨(rd_T91 l1 x21_2).f1.f0, (rd_T91 l1 x21_2).f1.f1, (rd_T91 l1 x21_2).f1.f2⟩ : S85), (rd_T91 l1 x21_2).f2⟩ : S91)]) l1 (l1.length : Int) (wrap64 (x21_2 + 1))) else (none)) = some (r1, r2) := by rw [if_neg (show ¬ (false = true) by decide)] at H; exact H
        clear H
        have H := H1
        clear H1; replace H := ifS H; obtain ⟨c22, H⟩ := H; have LMc22 := Aside0.mk c22; clear c22
        obtain ⟨y316, hy_⟩ : ∃ y_ : List (S91), y_ = (x6_2 ++ [(⟨(rd_T91 l1 x21_2).f0, (⟨(rd_T91 l1 x21_2).f1.f0, (rd_T91 l1 x21_2).f1.f1, (rd_T91 l1 x21_2).f1.f2⟩ : S85), (rd_T91 l1 x21_2).f2⟩ : S91)]) := ⟨_, rfl⟩
        replace H : (impl_MergeStatements.l0 k2 y316 l1 (l1.length : Int) (wrap64 (x21_2 + 1))) = some (r1, r2) := yH
        have Ny316 := ak hy_; clear hy_
        have H' := Aside0.mk H
        clear H
        have p313 : 0 ≤ (x21_2 : Int) := da
        have q313 : x21_2 < (l1.length : Int) := da
        obtain ⟨ad313, e313, hx313_0, hx313_1, hx313_2, hx313_3, hx313_4⟩ := at_T91 HR1.out x21_2 p313 q313
        cases e313
        replace hx313_0 := (HB.out.cell (World.block_lt_of_cell? w _ hx313_0)).trans hx313_0
        replace hx313_1 := (HB.out.cell (World.block_lt_of_cell? w _ hx313_1)).trans hx313_1
        replace hx313_2 := (HB.out.cell (World.block_lt_of_cell? w _ hx313_2)).trans hx313_2
        replace hx313_3 := (HB.out.cell (World.block_lt_of_cell? w _ hx313_3)).trans hx313_3
        replace hx313_4 := (HB.out.cell (World.block_lt_of_cell? w _ hx313_4)).trans hx313_4
        replace p313 := eq_true p313; replace q313 := eq_true q313
        go_wp2_with (first | ((with_reducible refine gate_dst (N := 8) rfl ?_); refine boxev 8 #[.int .i64 0, .int .i64 0, .int .i64 0, .int .i64 0, .bool false] 91 ?_; intro gb314 hg w23 hbox hb; replace HO_6 := ak (Kd.R_below (Kd.R_elderB (rdl HO_6) gb314 (Nat.le_of_eq hg.symm)) hb); have BK314 := ak (hbox); have GW314 := ak (hgl hg (belowd HB)); have GE314 := ak (hgl hg (belowd HB)); replace HB := ak (below_step (belowd HB) hb); clear hb hbox hg; obtain ⟨hcz24_0, hcz24_1, hcz24_2, hcz24_3, hcz24_4, hfz24_0, hfz24_1, hfz24_2, hfz24_3, hfz24_4⟩ := box5 BK314; obtain ⟨Ao25, co25, eo25⟩ := Kd.R_slice HO_6.out; subst eo25) | ((with_reducible refine gate_callee (f := 144) rfl ?_); refine goesLa (some 27) rfl Try.func144 #[.slice Ao25 x6_2.length co25, .agg #[.int .i64 ((rd_T91 l1 x21_2).f0), .int .i64 ((rd_T91 l1 x21_2).f1.f0), .int .i64 ((rd_T91 l1 x21_2).f1.f1), .int .i64 ((rd_T91 l1 x21_2).f1.f2), .bool ((rd_T91 l1 x21_2).f2)]] rfl ?_; (with_reducible refine (impl_Statement_144.calls k2 _ _ x6_2 ((rd_T91 l1 x21_2).f0) ((rd_T91 l1 x21_2).f1.f0) ((rd_T91 l1 x21_2).f1.f1) ((rd_T91 l1 x21_2).f1.f2) ((rd_T91 l1 x21_2).f2) false _ ?side1 ?side2 A16.out).mono ?_); (case side1 => refine (Kd.R_reads' (e := 91) (base := w.heap.size) (ok := fun k_ => (True ∧ k_ ≠ gb314)) (n := x6_2.length) (c := co25) ?_).2.2; exact (by (with_reducible repeat (first | apply Kd.R_alloc | apply Kd.R_drewN | apply Kd.R_drew)); exact (Kd.R_mono (farsR (Kd.R_mono HO_6.out (fun k_ hk => (⟨hk, hk.2⟩ : _ ∧ k_ ≠ gb314)))) (fun _ h_ => h_.1)))); (case side2 => exact (Kd.R_reads' HO_6.out).2.1); rintro e w26 ⟨rfl, hb⟩; refine ⟨_, rfl, ?_⟩; replace HO_6 := ak (Kd.R_below (by (with_reducible repeat (first | apply Kd.R_alloc | apply Kd.R_drewN | apply Kd.R_drew)); exact (Kd.R_mono (farsR (Kd.R_mono HO_6.out (fun k_ hk => (⟨hk, hk.2⟩ : _ ∧ k_ ≠ gb314)))) (fun _ h_ => h_.1))) hb); replace BK314 := ak (blk_below (g := gb314) (o := .cells #[.int .i64 ((rd_T91 l1 x21_2).f0), .int .i64 ((rd_T91 l1 x21_2).f1.f0), .int .i64 ((rd_T91 l1 x21_2).f1.f1), .int .i64 ((rd_T91 l1 x21_2).f1.f2), .bool ((rd_T91 l1 x21_2).f2)] 91 (0, 0)) (by (with_reducible repeat (first | refine blk_drewN ?_ _ | refine blk_drew ?_ | refine blk_alloc ?_ _)); refine blk_put (cs := #[.int .i64 ((rd_T91 l1 x21_2).f0), .int .i64 ((rd_T91 l1 x21_2).f1.f0), .int .i64 ((rd_T91 l1 x21_2).f1.f1), .int .i64 ((rd_T91 l1 x21_2).f1.f2), .bool false]) ?_ 4 _ rfl; (with_reducible repeat (first | refine blk_drewN ?_ _ | refine blk_drew ?_ | refine blk_alloc ?_ _)); refine blk_put (cs := #[.int .i64 ((rd_T91 l1 x21_2).f0), .int .i64 ((rd_T91 l1 x21_2).f1.f0), .int .i64 ((rd_T91 l1 x21_2).f1.f1), .int .i64 0, .bool false]) ?_ 3 _ rfl; (with_reducible repeat (first | refine blk_drewN ?_ _ | refine blk_drew ?_ | refine blk_alloc ?_ _)); refine blk_put (cs := #[.int .i64 ((rd_T91 l1 x21_2).f0), .int .i64 ((rd_T91 l1 x21_2).f1.f0), .int .i64 0, .int .i64 0, .bool false]) ?_ 2 _ rfl; (with_reducible repeat (first | refine blk_drewN ?_ _ | refine blk_drew ?_ | refine blk_alloc ?_ _)); refine blk_put (cs := #[.int .i64 ((rd_T91 l1 x21_2).f0), .int .i64 0, .int .i64 0, .int .i64 0, .bool false]) ?_ 1 _ rfl; (with_reducible repeat (first | refine blk_drewN ?_ _ | refine blk_drew ?_ | refine blk_alloc ?_ _)); refine blk_put (cs := #[.int .i64 0, .int .i64 0, .int .i64 0, .int .i64 0, .bool false]) ?_ 0 _ rfl; (with_reducible repeat (first | refine blk_drewN ?_ _ | refine blk_drew ?_ | refine blk_alloc ?_ _)); exact BK314.out) hb); replace HB := ak (below_step (belowg1 HB GE314) hb); (try clear hb); obtain ⟨hcz27_0, hcz27_1, hcz27_2, hcz27_3, hcz27_4, hfz27_0, hfz27_1, hfz27_2, hfz27_3, hfz27_4⟩ := box5 BK314) | ((with_reducible refine gate_builtin (b := .append) (xs := #[.tmp 29, .tmp 31]) rfl ?_); at_builtin; refine Kd.R_append k91 (w0 := w) w.heap.size rfl (.tmp 29) (.tmp 31) 73 91 (.agg #[(.int .i64 0), (.int .i64 0), (.int .i64 0), (.int .i64 0), (.bool false)]) 40 rfl Try.underlying73 info91 rfl (by decide) (by omega) (.slice Ao25 x6_2.length co25) x6_2 (⟨(rd_T91 l1 x21_2).f0, (⟨(rd_T91 l1 x21_2).f1.f0, (rd_T91 l1 x21_2).f1.f1, (rd_T91 l1 x21_2).f1.f2⟩ : S85), (rd_T91 l1 x21_2).f2⟩ : S91) [.int .i64 ((rd_T91 l1 x21_2).f0), .int .i64 ((rd_T91 l1 x21_2).f1.f0), .int .i64 ((rd_T91 l1 x21_2).f1.f1), .int .i64 ((rd_T91 l1 x21_2).f1.f2), .bool ((rd_T91 l1 x21_2).f2)] (fun k_ => k_ ≠ gb314) (fun _ => False) rfl rfl ?aP (fun _ hk => hk.elim) ?aF ?aO ?aB ?aS ?aL ?_; (case aP => exact k91_mkM _ _ _ (⟨(rd_T91 l1 x21_2).f0, (⟨(rd_T91 l1 x21_2).f1.f0, (rd_T91 l1 x21_2).f1.f1, (rd_T91 l1 x21_2).f1.f2⟩ : S85), (rd_T91 l1 x21_2).f2⟩ : S91)); (case aB => exact (belowg1 HB GE314)); (case aF => exact (fun k_ hk => Kd.freshB (blkd BK314) k_ hk)); (case aO => exact (by (with_reducible repeat (first | apply Kd.R_alloc | apply Kd.R_drewN | apply Kd.R_drew)); exact Kd.R_mono HO_6.out (fun _ hk => hk.2))); (case aS => exact (below_size (belowg1 HB GE314))); (case aL => have := LMc22.out; omega); intro v317 w28 ho hb hg hat; rw [← Ny316.out] at ho; replace BK314 := ak (blk_grown (blkd BK314) hg (Kd.R_away HO_6.out (fun _ hk => hk.2))); replace HB := ak (hb); have HO318 := ak (ho); clear HO_6; clear ho hb hg hat))
        go_roundg k2
        case measure => have := HJ2.out; have := HK2.out; omega
        case rel => exact ⟨(y316), (wrap64 (x21_2 + 1)), er, H', ⟨by have := HJ2.out; have := HK2.out; omega⟩, ⟨by (with_reducible repeat (first | apply Kd.R_alloc | apply Kd.R_drewN | apply Kd.R_drew)); exact Kd.R_mono HO318.out (fun _ hk => trivial)⟩, ⟨belowg1 HB GE314⟩⟩
      ·rw [if_neg c13] at H
       have c13b0 : decide (x21_2 < (l1.length : Int)) = false := decide_eq_false c13
       clear c13
       by_cases c29 : (x6_2.length : Int) > 60
       ·rw [if_pos c29] at H
        have c29b0 : decide (60 < (x6_2.length : Int)) = true := decide_eq_true c29
        have c29b1 : decide (60 < x6_2.length) = true := decide_eq_true (by omega)
        clear c29
        simp only [Option.some.injEq, Prod.mk.injEq] at H
        obtain ⟨rfl, rfl⟩ := H
        obtain ⟨Ao30, co30, eo30⟩ := Kd.R_slice HO_6.out
        subst eo30; go_wp2
        go_ret2
        exact ⟨_, er2, by first | exact Kd.R_nil _ _ _ _ _ | exact Kd.N_nil _ _ _ _ _ | exact Kd.V_nil _ _ _ _ _ | exact Kd.Q_nil _ _ _ _ _ | exact Kd.S_nil _ _ _ _ _, belowd HB⟩
       ·rw [if_neg c29] at H
        have c29b0 : decide (60 < (x6_2.length : Int)) = false := decide_eq_false c29
        have c29b1 : decide (60 < x6_2.length) = false := decide_eq_false (by omega)
        clear c29
        simp only [Option.some.injEq, Prod.mk.injEq] at H
        obtain ⟨rfl, rfl⟩ := H
        obtain ⟨Ao31, co31, eo31⟩ := Kd.R_slice HO_6.out
        subst eo31; go_wp2
        go_ret2
        exact ⟨_, er2, by (with_reducible repeat (first | apply Kd.R_alloc | apply Kd.R_drewN | apply Kd.R_drew)); exact HO_6.out, belowd HB⟩

end Go.Proofs.Ytkgogglnipdcfaa.QFnStated
