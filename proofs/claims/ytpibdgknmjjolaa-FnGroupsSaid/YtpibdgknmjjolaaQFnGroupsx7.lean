-- printed by this session's own program (wip/tools/pp.py: the kit's print.py with changes); Lean checks it
import Derived.Test.YtpibdgknmjjolaaQFnGroupsx0
namespace Go.Proofs.Ytpibdgknmjjolaa.QFnGroups
open Go.RowKit Go.Proofs.YtpibdgknmjjolaaW.PrintWords Go.Proofs.YtpibdgknmjjolaaW.PrintLast Go.Proofs.YtpibdgknmjjolaaW.PrintMore
attribute [local go_sem] max2_int min2_int max_two min_two max_three min_three max_four min_four strLss strGtr strLeq strGeq   -- for this text's walks alone
set_option linter.unusedVariables false
set_option linter.unusedSimpArgs false

/-- A state of type 123 at block g of W; what its slices lead to came in by w0. -/
def IsS123 (w0 W : World) (g : Nat) (f0 : List Int) (f1 : Int) (f2 : Int) : Prop := ∃ A0 c0, W.heap[g]? = some (.cells #[.slice A0 f0.length c0, .int .i64 f1, .int .u64 f2] 123 (0, 0)) ∧ w0.heap.size ≤ g ∧ Kd.C (Kd.int .u8) w0 A0 f0.length f0
theorem IsS123.grown {w0 W : World} {g : Nat} {f0 : List Int} {f1 : Int} {f2 : Int} {W1 : World} {row : Option Nat} (h : IsS123 w0 W g f0 f1 f2) (hw : W.grownBy W1 row) (hne : some g ≠ row) : IsS123 w0 W1 g f0 f1 f2 := by
 obtain ⟨A0, c0, hb, hg, hr0⟩ := h
 exact ⟨A0, c0, blk_grown hb hw hne, hg, hr0⟩
theorem IsS123.own_neN {w0 W : World} {g : Nat} {f0 : List Int} {f1 : Int} {f2 : Int} {α : Type} {d : Kd α} {e : Nat} {base : Nat} {ok : Nat → Prop} {v : Value} {xs : List α} (h : IsS123 w0 W g f0 f1 f2) (ho : Kd.N d e W base ok v xs) (ht : e ≠ 123) : some g ≠ v.ownBlock := by
 obtain ⟨A0, c0, hb, hg, hr0⟩ := h
 exact Kd.N_ne ho hb ht
theorem IsS123.fresh {w0 W : World} {g : Nat} {f0 : List Int} {f1 : Int} {f2 : Int} (h : IsS123 w0 W g f0 f1 f2) : ∀ k, W.heap.size ≤ k → k ≠ g := by
 obtain ⟨A0, c0, hb, hg, hr0⟩ := h
 exact Kd.freshB hb
theorem IsS123.kept {w0 W : World} {g : Nat} {f0 : List Int} {f1 : Int} {f2 : Int} {W1 : World} {S : Nat → Prop} (h : IsS123 w0 W g f0 f1 f2) (hk : Kept W W1 S) (hne : ¬ S g) : IsS123 w0 W1 g f0 f1 f2 := by
 obtain ⟨A0, c0, hb, hg, hr0⟩ := h
 exact ⟨A0, c0, blk_kept hb hk hne, hg, hr0⟩
theorem IsS123.below {w0 W : World} {g : Nat} {f0 : List Int} {f1 : Int} {f2 : Int} {W1 : World} (h : IsS123 w0 W g f0 f1 f2) (hw : Below W.heap.size W W1) : IsS123 w0 W1 g f0 f1 f2 := h.grown (grown_of_below hw none) (by simp)
theorem IsS123.alloc {w0 W : World} {g : Nat} {f0 : List Int} {f1 : Int} {f2 : Int} (h : IsS123 w0 W g f0 f1 f2) (o : Obj) : IsS123 w0 (W.alloc o) g f0 f1 f2 := h.below (below_alloc (Below.refl _ _) o)
theorem IsS123.drewN {w0 W : World} {g : Nat} {f0 : List Int} {f1 : Int} {f2 : Int} (h : IsS123 w0 W g f0 f1 f2) (m : Nat) : IsS123 w0 (W.drewN m) g f0 f1 f2 := h
theorem IsS123.drew {w0 W : World} {g : Nat} {f0 : List Int} {f1 : Int} {f2 : Int} (h : IsS123 w0 W g f0 f1 f2) : IsS123 w0 W.drew g f0 f1 f2 := h
theorem IsS123.at_ {w0 W : World} {g : Nat} {f0 : List Int} {f1 : Int} {f2 : Int} {w' : World} {m : Nat} (hq : W.drewN m = w') (h : IsS123 w0 W g f0 f1 f2) : IsS123 w0 w' g f0 f1 f2 := by subst hq; exact IsS123.drewN h m
theorem IsS123.apart {w0 W : World} {g : Nat} {f0 : List Int} {f1 : Int} {f2 : Int} {α : Type} {d : Kd α} {e : Nat} {base : Nat} {ok : Nat → Prop} {v : Value} {xs : List α} (h : IsS123 w0 W g f0 f1 f2) (ho : d.R e W base ok v xs) (ht : ∀ q, q ∈ e :: d.E → q ≠ 123) : d.R e W base (fun k => ok k ∧ k ≠ g) v xs := by
 obtain ⟨A0, c0, hb, hg, hr0⟩ := h
 exact Kd.R_types ho hb ht
theorem IsS123.own_ne {w0 W : World} {g : Nat} {f0 : List Int} {f1 : Int} {f2 : Int} {α : Type} {d : Kd α} {e : Nat} {base : Nat} {ok : Nat → Prop} {v : Value} {xs : List α} (h : IsS123 w0 W g f0 f1 f2) (ho : d.R e W base ok v xs) (ht : e ≠ 123) : some g ≠ v.ownBlock := by
 obtain ⟨A0, c0, hb, hg, hr0⟩ := h
 exact Kd.R_ne ho hb ht
theorem IsS123.apartQ {w0 W : World} {g : Nat} {f0 : List Int} {f1 : Int} {f2 : Int} {α : Type} {d : Kd α} {e : Nat} {base : Nat} {ok : Nat → Prop} {v : Value} {xs : List α} (h : IsS123 w0 W g f0 f1 f2) (ho : d.Q e W base ok v xs) (ht : ∀ q, q ∈ e :: d.E → q ≠ 123) : d.Q e W base (fun k => ok k ∧ k ≠ g) v xs := by
 obtain ⟨A0, c0, hb, hg, hr0⟩ := h
 exact Kd.Q_types ho hb ht
theorem IsS123.own_neQ {w0 W : World} {g : Nat} {f0 : List Int} {f1 : Int} {f2 : Int} {α : Type} {d : Kd α} {e : Nat} {base : Nat} {ok : Nat → Prop} {v : Value} {xs : List α} (h : IsS123 w0 W g f0 f1 f2) (ho : d.Q e W base ok v xs) (ht : e ≠ 123) : some g ≠ v.ownBlock := by
 obtain ⟨A0, c0, hb, hg, hr0⟩ := h
 exact Kd.Q_ne ho hb ht
theorem IsS123.apartS {w0 W : World} {g : Nat} {f0 : List Int} {f1 : Int} {f2 : Int} {α : Type} {d : Kd α} {e : Nat} {base : Nat} {ok : Nat → Prop} {v : Value} {xs : List α} (h : IsS123 w0 W g f0 f1 f2) (ho : d.S e W base ok v xs) (ht : ∀ q, q ∈ e :: d.E → q ≠ 123) : d.S e W base (fun k => ok k ∧ k ≠ g) v xs := by
 obtain ⟨A0, c0, hb, hg, hr0⟩ := h
 exact Kd.S_types ho hb ht
theorem IsS123.own_neS {w0 W : World} {g : Nat} {f0 : List Int} {f1 : Int} {f2 : Int} {α : Type} {d : Kd α} {e : Nat} {base : Nat} {ok : Nat → Prop} {v : Value} {xs : List α} (h : IsS123 w0 W g f0 f1 f2) (ho : d.S e W base ok v xs) (ht : e ≠ 123) : some g ≠ v.ownBlock := by
 obtain ⟨A0, c0, hb, hg, hr0⟩ := h
 exact Kd.S_ne ho hb ht
theorem IsS123.of_blk {w0 W : World} {g : Nat} {f0 : List Int} {f1 : Int} {f2 : Int} {A0 : Option Addr} {c0 : Nat} (hb : W.heap[g]? = some (.cells #[.slice A0 f0.length c0, .int .i64 f1, .int .u64 f2] 123 (0, 0))) (hg : w0.heap.size ≤ g) (hr0 : Kd.C (Kd.int .u8) w0 A0 f0.length f0) : IsS123 w0 W g f0 f1 f2 := ⟨A0, c0, hb, hg, hr0⟩
theorem IsS123.lt {w0 W : World} {g : Nat} {f0 : List Int} {f1 : Int} {f2 : Int} (h : IsS123 w0 W g f0 f1 f2) : g < W.heap.size := by
 obtain ⟨A0, c0, hb, hg, hr0⟩ := h
 exact blk_lt hb
theorem IsS123.ge {w0 W : World} {g : Nat} {f0 : List Int} {f1 : Int} {f2 : Int} (h : IsS123 w0 W g f0 f1 f2) : w0.heap.size ≤ g := by
 obtain ⟨A0, c0, hb, hg, hr0⟩ := h
 exact hg
theorem IsS123.ne_blk {w0 W : World} {g : Nat} {f0 : List Int} {f1 : Int} {f2 : Int} {a : Nat} {cs : Array Value} {t : TypeId} {fr : Nat × Nat} (h : IsS123 w0 W g f0 f1 f2) (hb2 : W.heap[a]? = some (.cells cs t fr)) (ht : t ≠ 123) : g ≠ a := by
 obtain ⟨A0, c0, hb, hg, hr0⟩ := h
 rintro rfl
 rw [hb] at hb2
 injection hb2 with hb2
 injection hb2 with _ ht2
 exact ht ht2.symm
theorem IsS123.far {w0 W : World} {g : Nat} {f0 : List Int} {f1 : Int} {f2 : Int} {p : Addr} (h : IsS123 w0 W g f0 f1 f2) (hne : g ≠ p.block) (u : Value) : IsS123 w0 (W.setCell p u) g f0 f1 f2 := by
 obtain ⟨A0, c0, hb, hg, hr0⟩ := h
 exact ⟨A0, c0, blk_far hb hne u, hg, hr0⟩
theorem cellS123_0 {W : World} {g : Nat} {A0 : Option Addr} {c0 : Nat} {f0 : List Int} {f1 : Int} {f2 : Int} (h : W.heap[g]? = some (.cells #[.slice A0 f0.length c0, .int .i64 f1, .int .u64 f2] 123 (0, 0))) : W.cell? ⟨g, 0, none⟩ = some (.slice A0 f0.length c0) := (blk_cell h 0).trans rfl
theorem cellS123_1 {W : World} {g : Nat} {A0 : Option Addr} {c0 : Nat} {f0 : List Int} {f1 : Int} {f2 : Int} (h : W.heap[g]? = some (.cells #[.slice A0 f0.length c0, .int .i64 f1, .int .u64 f2] 123 (0, 0))) : W.cell? ⟨g, 1, none⟩ = some (.int .i64 f1) := (blk_cell h 1).trans rfl
theorem IsS123.set_1 {w0 W : World} {g : Nat} {f0 : List Int} {f1 : Int} {f2 : Int} (h : IsS123 w0 W g f0 f1 f2) (x : Int) : IsS123 w0 (W.setCell ⟨g, 1, none⟩ (.int .i64 x)) g f0 x f2 := by
 obtain ⟨A0, c0, hb, hg, hr0⟩ := h
 exact ⟨A0, c0, by simpa using blk_set hb 1 (.int .i64 x), hg, hr0⟩
theorem cellS123_2 {W : World} {g : Nat} {A0 : Option Addr} {c0 : Nat} {f0 : List Int} {f1 : Int} {f2 : Int} (h : W.heap[g]? = some (.cells #[.slice A0 f0.length c0, .int .i64 f1, .int .u64 f2] 123 (0, 0))) : W.cell? ⟨g, 2, none⟩ = some (.int .u64 f2) := (blk_cell h 2).trans rfl
theorem IsS123.set_2 {w0 W : World} {g : Nat} {f0 : List Int} {f1 : Int} {f2 : Int} (h : IsS123 w0 W g f0 f1 f2) (x : Int) : IsS123 w0 (W.setCell ⟨g, 2, none⟩ (.int .u64 x)) g f0 f1 x := by
 obtain ⟨A0, c0, hb, hg, hr0⟩ := h
 exact ⟨A0, c0, by simpa using blk_set hb 2 (.int .u64 x), hg, hr0⟩
theorem IsS123.new (w0 W : World) (A0 : Option Addr) (c0 : Nat) (f0 : List Int) (f1 : Int) (f2 : Int) (hB : Below w0.heap.size w0 W) (hr0 : Kd.C (Kd.int .u8) w0 A0 f0.length f0) : IsS123 w0 (W.alloc (.cells #[.slice A0 f0.length c0, .int .i64 f1, .int .u64 f2] 123)) W.heap.size f0 f1 f2 := ⟨A0, c0, by simpa using heap_alloc_new W _, hB.size, hr0⟩

/-! ### spec_l1Cur_next: function 146 -/
def spec_l1Cur_next.f (s0_0 : List Int) (s0_1 : Int) (s0_2 : Int) : Option (Int × Int × Int) := if s0_1 < (s0_0.length : Int) then (if 0 ≤ s0_1 then (if (wrap64 (s0_1 + 1)) ≤ (s0_0.length : Int) then (some (wrap64 (rd s0_0 s0_1), wrap64 (s0_1 + 1), IntKind.u64.wrap ((IntKind.u64.wrap ((IntKind.u64.wrap (s0_2 * 6364136223846793005)) + (IntKind.u64.wrap (wrap64 (rd s0_0 s0_1))))) + 1442695040888963407))) else (some (wrap64 (Go.bits .and .u64 ((IntKind.u64.wrap ((IntKind.u64.wrap ((IntKind.u64.wrap (s0_2 * 6364136223846793005)) + (IntKind.u64.wrap (wrap64 (rd s0_0 s0_1))))) + 1442695040888963407)) / 1099511627776) 255), wrap64 (s0_1 + 1), IntKind.u64.wrap ((IntKind.u64.wrap ((IntKind.u64.wrap (s0_2 * 6364136223846793005)) + (IntKind.u64.wrap (wrap64 (rd s0_0 s0_1))))) + 1442695040888963407)))) else (none)) else (if (wrap64 (s0_1 + 1)) ≤ (s0_0.length : Int) then (some (0, wrap64 (s0_1 + 1), IntKind.u64.wrap ((IntKind.u64.wrap ((IntKind.u64.wrap (s0_2 * 6364136223846793005)))) + 1442695040888963407))) else (some (wrap64 (Go.bits .and .u64 ((IntKind.u64.wrap ((IntKind.u64.wrap ((IntKind.u64.wrap (s0_2 * 6364136223846793005)))) + 1442695040888963407)) / 1099511627776) 255), wrap64 (s0_1 + 1), IntKind.u64.wrap ((IntKind.u64.wrap ((IntKind.u64.wrap (s0_2 * 6364136223846793005)))) + 1442695040888963407))))
set_option maxHeartbeats 8000000 in
set_option maxRecDepth 100000 in
theorem spec_l1Cur_next.calls (g : Nat) (s0_0 : List Int) (s0_1 : Int) (s0_2 : Int) (r1 : Int) (r2 : Int) (r3 : Int) (w0 w : World) (hI : IsS123 w0 w g s0_0 s0_1 s0_2) (hB : Below w0.heap.size w0 w) (h : spec_l1Cur_next.f s0_0 s0_1 s0_2 = some (r1, r2, r3)) :
  Calls Try.prog 146 #[.pointer (some ⟨g, 0, none⟩)] w fun e w' => e = .returned (.int .i64 r1) ∧ IsS123 w0 w' g s0_0 r2 r3 ∧ Below w0.heap.size w0 w' ∧ KeepBut w w' g none := by
 have HI0 := Aside0.mk hI
 have HK := Aside0.mk (KeepBut.refl w g none)
 have HL := Aside0.mk hB.size
 clear hI
 have HW0 := Aside0.mk hB.size
 have HB := Aside0.mk hB; clear hB
 have H : (if s0_1 < (s0_0.length : Int) then (if 0 ≤ s0_1 then (if (wrap64 (s0_1 + 1)) ≤ (s0_0.length : Int) then (some (wrap64 (rd s0_0 s0_1), wrap64 (s0_1 + 1), IntKind.u64.wrap ((IntKind.u64.wrap ((IntKind.u64.wrap (s0_2 * 6364136223846793005)) + (IntKind.u64.wrap (wrap64 (rd s0_0 s0_1))))) + 1442695040888963407))) else (some (wrap64 (Go.bits .and .u64 ((IntKind.u64.wrap ((IntKind.u64.wrap ((IntKind.u64.wrap (s0_2 * 6364136223846793005)) + (IntKind.u64.wrap (wrap64 (rd s0_0 s0_1))))) + 1442695040888963407)) / 1099511627776) 255), wrap64 (s0_1 + 1), IntKind.u64.wrap ((IntKind.u64.wrap ((IntKind.u64.wrap (s0_2 * 6364136223846793005)) + (IntKind.u64.wrap (wrap64 (rd s0_0 s0_1))))) + 1442695040888963407)))) else (none)) else (if (wrap64 (s0_1 + 1)) ≤ (s0_0.length : Int) then (some (0, wrap64 (s0_1 + 1), IntKind.u64.wrap ((IntKind.u64.wrap ((IntKind.u64.wrap (s0_2 * 6364136223846793005)))) + 1442695040888963407))) else (some (wrap64 (Go.bits .and .u64 ((IntKind.u64.wrap ((IntKind.u64.wrap ((IntKind.u64.wrap (s0_2 * 6364136223846793005)))) + 1442695040888963407)) / 1099511627776) 255), wrap64 (s0_1 + 1), IntKind.u64.wrap ((IntKind.u64.wrap ((IntKind.u64.wrap (s0_2 * 6364136223846793005)))) + 1442695040888963407))))) = some (r1, r2, r3) := h
 clear h
 by_cases c2 : s0_1 < (s0_0.length : Int)
 ·rw [if_pos c2] at H
  have c2b0 : decide (s0_1 < (s0_0.length : Int)) = true := decide_eq_true c2
  clear c2; replace H := ifS H; obtain ⟨c3, H⟩ := H; have c3b0 := decide_eq_true c3; clear c3
  by_cases c4 : (wrap64 (s0_1 + 1)) ≤ (s0_0.length : Int)
  ·rw [if_pos c4] at H
   have c4b0 : decide ((wrap64 (s0_1 + 1)) ≤ (s0_0.length : Int)) = true := decide_eq_true c4
   clear c4
   simp only [Option.some.injEq, Prod.mk.injEq] at H
   obtain ⟨rfl, rfl, rfl⟩ := H
   obtain ⟨ASz5_0, cSz5_0, HGz5, hgz5, HSz5_0⟩ := HI0.out
   have hcz5_0 := cellS123_0 HGz5
   have hcz5_1 := cellS123_1 HGz5
   have hcz5_2 := cellS123_2 HGz5
   have hfz5_1 := blk_frozen HGz5 1
   have hfz5_2 := blk_frozen HGz5 2
   clear HGz5 hgz5
   have p301 : 0 ≤ (s0_1 : Int) := da
   have q301 : s0_1 < (s0_0.length : Int) := da
   obtain ⟨ad301, e301, hx301_0⟩ := Kd.at_int HSz5_0 s0_1 p301 q301
   cases e301
   replace hx301_0 := pw_cell_below HB.out hx301_0
   replace p301 := eq_true p301; replace q301 := eq_true q301
   go_enter Try.func146, Try.ntmps146
   go_wp2
   repeat (go_quiet (fail); try go_wp2)
   go_ret
   exact ⟨er2, by repeat (first | (with_reducible first | exact HI0.out | apply IsS123.alloc | apply IsS123.drewN | apply IsS123.drew | apply IsS123.set_1 | apply IsS123.set_2) | exact HI0.out), by repeat (first | (with_reducible first | exact HB.out | apply below_alloc | apply pw_below_drewN | apply below_drew1 | refine below_set ?_ (IsS123.ge HI0.out)) | exact HB.out), by repeat (first | (with_reducible first | exact HK.out | apply KeepBut.set_ | apply keep_drewN | apply keep_drew | apply keep_alloc) | exact HK.out)⟩
  ·rw [if_neg c4] at H
   have c4b0 : decide ((wrap64 (s0_1 + 1)) ≤ (s0_0.length : Int)) = false := decide_eq_false c4
   clear c4
   simp only [Option.some.injEq, Prod.mk.injEq] at H
   obtain ⟨rfl, rfl, rfl⟩ := H
   obtain ⟨ASz6_0, cSz6_0, HGz6, hgz6, HSz6_0⟩ := HI0.out
   have hcz6_0 := cellS123_0 HGz6
   have hcz6_1 := cellS123_1 HGz6
   have hcz6_2 := cellS123_2 HGz6
   have hfz6_1 := blk_frozen HGz6 1
   have hfz6_2 := blk_frozen HGz6 2
   clear HGz6 hgz6
   have p301 : 0 ≤ (s0_1 : Int) := da
   have q301 : s0_1 < (s0_0.length : Int) := da
   obtain ⟨ad301, e301, hx301_0⟩ := Kd.at_int HSz6_0 s0_1 p301 q301
   cases e301
   replace hx301_0 := pw_cell_below HB.out hx301_0
   replace p301 := eq_true p301; replace q301 := eq_true q301
   go_enter Try.func146, Try.ntmps146
   go_wp2
   repeat (go_quiet (fail); try go_wp2)
   go_ret
   exact ⟨er2, by repeat (first | (with_reducible first | exact HI0.out | apply IsS123.alloc | apply IsS123.drewN | apply IsS123.drew | apply IsS123.set_1 | apply IsS123.set_2) | exact HI0.out), by repeat (first | (with_reducible first | exact HB.out | apply below_alloc | apply pw_below_drewN | apply below_drew1 | refine below_set ?_ (IsS123.ge HI0.out)) | exact HB.out), by repeat (first | (with_reducible first | exact HK.out | apply KeepBut.set_ | apply keep_drewN | apply keep_drew | apply keep_alloc) | exact HK.out)⟩
 ·rw [if_neg c2] at H
  have c2b0 : decide (s0_1 < (s0_0.length : Int)) = false := decide_eq_false c2
  clear c2
  by_cases c7 : (wrap64 (s0_1 + 1)) ≤ (s0_0.length : Int)
  ·rw [if_pos c7] at H
   have c7b0 : decide ((wrap64 (s0_1 + 1)) ≤ (s0_0.length : Int)) = true := decide_eq_true c7
   clear c7
   simp only [Option.some.injEq, Prod.mk.injEq] at H
   obtain ⟨rfl, rfl, rfl⟩ := H
   obtain ⟨ASz8_0, cSz8_0, HGz8, hgz8, HSz8_0⟩ := HI0.out
   have hcz8_0 := cellS123_0 HGz8
   have hcz8_1 := cellS123_1 HGz8
   have hcz8_2 := cellS123_2 HGz8
   have hfz8_1 := blk_frozen HGz8 1
   have hfz8_2 := blk_frozen HGz8 2
   clear HGz8 hgz8
   go_enter Try.func146, Try.ntmps146
   go_wp2
   repeat (go_quiet (fail); try go_wp2)
   go_ret
   exact ⟨er2, by repeat (first | (with_reducible first | exact HI0.out | apply IsS123.alloc | apply IsS123.drewN | apply IsS123.drew | apply IsS123.set_1 | apply IsS123.set_2) | exact HI0.out), by repeat (first | (with_reducible first | exact HB.out | apply below_alloc | apply pw_below_drewN | apply below_drew1 | refine below_set ?_ (IsS123.ge HI0.out)) | exact HB.out), by repeat (first | (with_reducible first | exact HK.out | apply KeepBut.set_ | apply keep_drewN | apply keep_drew | apply keep_alloc) | exact HK.out)⟩
  ·rw [if_neg c7] at H
   have c7b0 : decide ((wrap64 (s0_1 + 1)) ≤ (s0_0.length : Int)) = false := decide_eq_false c7
   clear c7
   simp only [Option.some.injEq, Prod.mk.injEq] at H
   obtain ⟨rfl, rfl, rfl⟩ := H
   obtain ⟨ASz9_0, cSz9_0, HGz9, hgz9, HSz9_0⟩ := HI0.out
   have hcz9_0 := cellS123_0 HGz9
   have hcz9_1 := cellS123_1 HGz9
   have hcz9_2 := cellS123_2 HGz9
   have hfz9_1 := blk_frozen HGz9 1
   have hfz9_2 := blk_frozen HGz9 2
   clear HGz9 hgz9
   go_enter Try.func146, Try.ntmps146
   go_wp2
   repeat (go_quiet (fail); try go_wp2)
   go_ret
   exact ⟨er2, by repeat (first | (with_reducible first | exact HI0.out | apply IsS123.alloc | apply IsS123.drewN | apply IsS123.drew | apply IsS123.set_1 | apply IsS123.set_2) | exact HI0.out), by repeat (first | (with_reducible first | exact HB.out | apply below_alloc | apply pw_below_drewN | apply below_drew1 | refine below_set ?_ (IsS123.ge HI0.out)) | exact HB.out), by repeat (first | (with_reducible first | exact HK.out | apply KeepBut.set_ | apply keep_drewN | apply keep_drew | apply keep_alloc) | exact HK.out)⟩

/-! ### spec_l1Cur_pick: function 113 -/
def spec_l1Cur_pick.f (s0_0 : List Int) (s0_1 : Int) (s0_2 : Int) (a1 : Int) : Option (Int × Int × Int) := if a1 ≤ 1 then (some (0, s0_1, s0_2)) else ((spec_l1Cur_next.f s0_0 s0_1 s0_2).bind fun bt302 => (if a1 > 200 then ((spec_l1Cur_next.f s0_0 bt302.2.1 bt302.2.2).bind fun bt305 => (if a1 = 0 then (none) else (some (Int.tmod (wrap64 ((wrap64 (bt302.1 * 256)) + bt305.1)) a1, bt305.2.1, bt305.2.2)))) else (if a1 = 0 then (none) else (some (Int.tmod bt302.1 a1, bt302.2.1, bt302.2.2)))))
set_option maxHeartbeats 8000000 in
set_option maxRecDepth 100000 in
theorem spec_l1Cur_pick.calls (g : Nat) (s0_0 : List Int) (s0_1 : Int) (s0_2 : Int) (a1 : Int) (r1 : Int) (r2 : Int) (r3 : Int) (w0 w : World) (hI : IsS123 w0 w g s0_0 s0_1 s0_2) (hB : Below w0.heap.size w0 w) (h : spec_l1Cur_pick.f s0_0 s0_1 s0_2 a1 = some (r1, r2, r3)) :
  Calls Try.prog 113 #[.pointer (some ⟨g, 0, none⟩), .int .i64 a1] w fun e w' => e = .returned (.int .i64 r1) ∧ IsS123 w0 w' g s0_0 r2 r3 ∧ Below w0.heap.size w0 w' ∧ KeepBut w w' g none := by
 have HI0 := Aside0.mk hI
 have HK := Aside0.mk (KeepBut.refl w g none)
 have HL := Aside0.mk hB.size
 clear hI
 have HW0 := Aside0.mk hB.size
 have HB := Aside0.mk hB; clear hB
 have H : (if a1 ≤ 1 then (some (0, s0_1, s0_2)) else ((spec_l1Cur_next.f s0_0 s0_1 s0_2).bind fun bt302 => (if a1 > 200 then ((spec_l1Cur_next.f s0_0 bt302.2.1 bt302.2.2).bind fun bt305 => (if a1 = 0 then (none) else (some (Int.tmod (wrap64 ((wrap64 (bt302.1 * 256)) + bt305.1)) a1, bt305.2.1, bt305.2.2)))) else (if a1 = 0 then (none) else (some (Int.tmod bt302.1 a1, bt302.2.1, bt302.2.2)))))) = some (r1, r2, r3) := h
 clear h
 by_cases c3 : a1 ≤ 1
 ·rw [if_pos c3] at H
  have c3b0 : decide (a1 ≤ 1) = true := decide_eq_true c3
  clear c3
  simp only [Option.some.injEq, Prod.mk.injEq] at H
  obtain ⟨rfl, rfl, rfl⟩ := H
  go_enter Try.func113, Try.ntmps113
  go_wp2
  go_ret
  exact ⟨er2, by repeat (first | (with_reducible first | exact HI0.out | apply IsS123.alloc | apply IsS123.drewN | apply IsS123.drew | apply IsS123.set_1 | apply IsS123.set_2) | exact HI0.out), by repeat (first | (with_reducible first | exact HB.out | apply below_alloc | apply pw_below_drewN | apply below_drew1 | refine below_set ?_ (IsS123.ge HI0.out)) | exact HB.out), by repeat (first | (with_reducible first | exact HK.out | apply KeepBut.set_ | apply keep_drewN | apply keep_drew | apply keep_alloc) | exact HK.out)⟩
 ·rw [if_neg c3] at H
  have c3b0 : decide (a1 ≤ 1) = false := decide_eq_false c3
  clear c3; replace H := bS H; obtain ⟨⟨t302, t303, t304⟩, A4, H⟩ := H
  replace H : (if a1 > 200 then ((spec_l1Cur_next.f s0_0 t303 t304).bind fun bt305 => (if a1 = 0 then (none) else (some (Int.tmod (wrap64 ((wrap64 (t302 * 256)) + bt305.1)) a1, bt305.2.1, bt305.2.2)))) else (if a1 = 0 then (none) else (some (Int.tmod t302 a1, t303, t304)))) = some (r1, r2, r3) := H
  by_cases c5 : a1 > 200
  ·rw [if_pos c5] at H
   have c5b0 : decide (200 < a1) = true := decide_eq_true c5
   clear c5; replace H := bS H; obtain ⟨⟨t305, t306, t307⟩, A6, H⟩ := H
   replace H : (if a1 = 0 then (none) else (some (Int.tmod (wrap64 ((wrap64 (t302 * 256)) + t305)) a1, t306, t307))) = some (r1, r2, r3) := H
   by_cases c7 : a1 = 0
   ·rw [if_pos c7] at H
    exact absurd H (by simp)
   ·rw [if_neg c7] at H
    have c7b0 : (a1 == 0) = false := beq_eq_false_iff_ne.mpr c7
    have c7b1 : (a1 != 0) = true := bne_iff_ne.mpr c7
    simp only [Option.some.injEq, Prod.mk.injEq] at H
    obtain ⟨rfl, rfl, rfl⟩ := H
    go_enter Try.func113, Try.ntmps113
    go_wp2_with (first | ((with_reducible refine gate_callee (f := 146) rfl ?_); refine goesLa (some 9) rfl Try.func146 #[.pointer (some ⟨g, 0, none⟩)] rfl ?_; (with_reducible refine (spec_l1Cur_next.calls g s0_0 s0_1 s0_2 t302 t303 t304 w0 _ ?side1 ?side2 A4.out).mono ?_); (case side1 => repeat (first | (with_reducible first | exact HI0.out | apply IsS123.alloc | apply IsS123.drewN | apply IsS123.drew | apply IsS123.set_1 | apply IsS123.set_2) | exact HI0.out)); (case side2 => repeat (first | (with_reducible first | exact HB.out | apply below_alloc | apply pw_below_drewN | apply below_drew1 | refine below_set ?_ (IsS123.ge HI0.out)) | exact HB.out)); rintro e w8 ⟨rfl, hi, hb, hk⟩; refine ⟨_, rfl, ?_⟩; replace HK := ak (KeepBut.trans (by repeat (first | (with_reducible first | exact HK.out | apply KeepBut.set_ | apply keep_drewN | apply keep_drew | apply keep_alloc) | exact HK.out)) hk (.inl rfl)); replace HB := ak (hb); replace HI0 := ak (hi); (try clear hb); (try clear hk); (try clear hi)) | ((with_reducible refine gate_callee (f := 146) rfl ?_); refine goesLa (some 15) rfl Try.func146 #[.pointer (some ⟨g, 0, none⟩)] rfl ?_; (with_reducible refine (spec_l1Cur_next.calls g s0_0 t303 t304 t305 t306 t307 w0 _ ?side1 ?side2 A6.out).mono ?_); (case side1 => repeat (first | (with_reducible first | exact HI0.out | apply IsS123.alloc | apply IsS123.drewN | apply IsS123.drew | apply IsS123.set_1 | apply IsS123.set_2) | exact HI0.out)); (case side2 => repeat (first | (with_reducible first | exact HB.out | apply below_alloc | apply pw_below_drewN | apply below_drew1 | refine below_set ?_ (IsS123.ge HI0.out)) | exact HB.out)); rintro e w9 ⟨rfl, hi, hb, hk⟩; refine ⟨_, rfl, ?_⟩; replace HK := ak (KeepBut.trans (by repeat (first | (with_reducible first | exact HK.out | apply KeepBut.set_ | apply keep_drewN | apply keep_drew | apply keep_alloc) | exact HK.out)) hk (.inl rfl)); replace HB := ak (hb); replace HI0 := ak (hi); (try clear hb); (try clear hk); (try clear hi)))
    go_ret
    exact ⟨er2, by repeat (first | (with_reducible first | exact HI0.out | apply IsS123.alloc | apply IsS123.drewN | apply IsS123.drew | apply IsS123.set_1 | apply IsS123.set_2) | exact HI0.out), by repeat (first | (with_reducible first | exact HB.out | apply below_alloc | apply pw_below_drewN | apply below_drew1 | refine below_set ?_ (IsS123.ge HI0.out)) | exact HB.out), by repeat (first | (with_reducible first | exact HK.out | apply KeepBut.set_ | apply keep_drewN | apply keep_drew | apply keep_alloc) | exact HK.out)⟩
  ·rw [if_neg c5] at H
   have c5b0 : decide (200 < a1) = false := decide_eq_false c5
   clear c5
   by_cases c10 : a1 = 0
   ·rw [if_pos c10] at H
    exact absurd H (by simp)
   ·rw [if_neg c10] at H
    have c10b0 : (a1 == 0) = false := beq_eq_false_iff_ne.mpr c10
    have c10b1 : (a1 != 0) = true := bne_iff_ne.mpr c10
    simp only [Option.some.injEq, Prod.mk.injEq] at H
    obtain ⟨rfl, rfl, rfl⟩ := H
    go_enter Try.func113, Try.ntmps113
    go_wp2_with (first | ((with_reducible refine gate_callee (f := 146) rfl ?_); refine goesLa (some 9) rfl Try.func146 #[.pointer (some ⟨g, 0, none⟩)] rfl ?_; (with_reducible refine (spec_l1Cur_next.calls g s0_0 s0_1 s0_2 t302 t303 t304 w0 _ ?side1 ?side2 A4.out).mono ?_); (case side1 => repeat (first | (with_reducible first | exact HI0.out | apply IsS123.alloc | apply IsS123.drewN | apply IsS123.drew | apply IsS123.set_1 | apply IsS123.set_2) | exact HI0.out)); (case side2 => repeat (first | (with_reducible first | exact HB.out | apply below_alloc | apply pw_below_drewN | apply below_drew1 | refine below_set ?_ (IsS123.ge HI0.out)) | exact HB.out)); rintro e w11 ⟨rfl, hi, hb, hk⟩; refine ⟨_, rfl, ?_⟩; replace HK := ak (KeepBut.trans (by repeat (first | (with_reducible first | exact HK.out | apply KeepBut.set_ | apply keep_drewN | apply keep_drew | apply keep_alloc) | exact HK.out)) hk (.inl rfl)); replace HB := ak (hb); replace HI0 := ak (hi); (try clear hb); (try clear hk); (try clear hi)))
    go_ret
    exact ⟨er2, by repeat (first | (with_reducible first | exact HI0.out | apply IsS123.alloc | apply IsS123.drewN | apply IsS123.drew | apply IsS123.set_1 | apply IsS123.set_2) | exact HI0.out), by repeat (first | (with_reducible first | exact HB.out | apply below_alloc | apply pw_below_drewN | apply below_drew1 | refine below_set ?_ (IsS123.ge HI0.out)) | exact HB.out), by repeat (first | (with_reducible first | exact HK.out | apply KeepBut.set_ | apply keep_drewN | apply keep_drew | apply keep_alloc) | exact HK.out)⟩

/-! ### spec_l1Cur_one: function 131 -/
def spec_l1Cur_one.f (s0_0 : List Int) (s0_1 : Int) (s0_2 : Int) (a1 : Int) : Option (Bool × Int × Int) := (spec_l1Cur_pick.f s0_0 s0_1 s0_2 a1).bind fun bt308 => (some ((bt308.1 == 0), bt308.2.1, bt308.2.2))
set_option maxHeartbeats 8000000 in
set_option maxRecDepth 100000 in
theorem spec_l1Cur_one.calls (g : Nat) (s0_0 : List Int) (s0_1 : Int) (s0_2 : Int) (a1 : Int) (r1 : Bool) (r2 : Int) (r3 : Int) (w0 w : World) (hI : IsS123 w0 w g s0_0 s0_1 s0_2) (hB : Below w0.heap.size w0 w) (h : spec_l1Cur_one.f s0_0 s0_1 s0_2 a1 = some (r1, r2, r3)) :
  Calls Try.prog 131 #[.pointer (some ⟨g, 0, none⟩), .int .i64 a1] w fun e w' => e = .returned (.bool r1) ∧ IsS123 w0 w' g s0_0 r2 r3 ∧ Below w0.heap.size w0 w' ∧ KeepBut w w' g none := by
 have HI0 := Aside0.mk hI
 have HK := Aside0.mk (KeepBut.refl w g none)
 have HL := Aside0.mk hB.size
 clear hI
 have HW0 := Aside0.mk hB.size
 have HB := Aside0.mk hB; clear hB
 have H : ((spec_l1Cur_pick.f s0_0 s0_1 s0_2 a1).bind fun bt308 => (some ((bt308.1 == 0), bt308.2.1, bt308.2.2))) = some (r1, r2, r3) := h
 clear h; replace H := bS H; obtain ⟨⟨t308, t309, t310⟩, A3, H⟩ := H
 replace H : (some ((t308 == 0), t309, t310)) = some (r1, r2, r3) := H
 simp only [Option.some.injEq, Prod.mk.injEq] at H
 obtain ⟨rfl, rfl, rfl⟩ := H
 go_enter Try.func131, Try.ntmps131
 go_wp2_with (first | ((with_reducible refine gate_callee (f := 113) rfl ?_); refine goesLa (some 7) rfl Try.func113 #[.pointer (some ⟨g, 0, none⟩), .int .i64 a1] rfl ?_; (with_reducible refine (spec_l1Cur_pick.calls g s0_0 s0_1 s0_2 a1 t308 t309 t310 w0 _ ?side1 ?side2 A3.out).mono ?_); (case side1 => repeat (first | (with_reducible first | exact HI0.out | apply IsS123.alloc | apply IsS123.drewN | apply IsS123.drew | apply IsS123.set_1 | apply IsS123.set_2) | exact HI0.out)); (case side2 => repeat (first | (with_reducible first | exact HB.out | apply below_alloc | apply pw_below_drewN | apply below_drew1 | refine below_set ?_ (IsS123.ge HI0.out)) | exact HB.out)); rintro e w4 ⟨rfl, hi, hb, hk⟩; refine ⟨_, rfl, ?_⟩; replace HK := ak (KeepBut.trans (by repeat (first | (with_reducible first | exact HK.out | apply KeepBut.set_ | apply keep_drewN | apply keep_drew | apply keep_alloc) | exact HK.out)) hk (.inl rfl)); replace HB := ak (hb); replace HI0 := ak (hi); (try clear hb); (try clear hk); (try clear hi)))
 go_ret
 exact ⟨er2, by repeat (first | (with_reducible first | exact HI0.out | apply IsS123.alloc | apply IsS123.drewN | apply IsS123.drew | apply IsS123.set_1 | apply IsS123.set_2) | exact HI0.out), by repeat (first | (with_reducible first | exact HB.out | apply below_alloc | apply pw_below_drewN | apply below_drew1 | refine below_set ?_ (IsS123.ge HI0.out)) | exact HB.out), by repeat (first | (with_reducible first | exact HK.out | apply KeepBut.set_ | apply keep_drewN | apply keep_drew | apply keep_alloc) | exact HK.out)⟩

/-! ### spec_l1Cur_among: function 132 -/
def spec_l1Cur_among.f (s0_0 : List Int) (s0_1 : Int) (s0_2 : Int) (l1 : List Int) : Option (Int × Int × Int) := (spec_l1Cur_pick.f s0_0 s0_1 s0_2 (l1.length : Int)).bind fun bt311 => (if 0 ≤ bt311.1 then (if bt311.1 < (l1.length : Int) then (some (rd l1 bt311.1, bt311.2.1, bt311.2.2)) else (none)) else (none))
set_option maxHeartbeats 8000000 in
set_option maxRecDepth 100000 in
theorem spec_l1Cur_among.calls (g : Nat) (s0_0 : List Int) (s0_1 : Int) (s0_2 : Int) (A1 : Option Addr) (c1 : Nat) (l1 : List Int) (r1 : Int) (r2 : Int) (r3 : Int) (w0 w : World) (hI : IsS123 w0 w g s0_0 s0_1 s0_2) (hB : Below w0.heap.size w0 w) (hr1 : Kd.C (Kd.int .i64) w A1 l1.length l1) (hc1 : l1.length ≤ c1) (hf1 : ∀ ad, A1 = some ad → 0 < l1.length → ad.block ≠ g) (h : spec_l1Cur_among.f s0_0 s0_1 s0_2 l1 = some (r1, r2, r3)) :
  Calls Try.prog 132 #[.pointer (some ⟨g, 0, none⟩), .slice A1 l1.length c1] w fun e w' => e = .returned (.int .i64 r1) ∧ IsS123 w0 w' g s0_0 r2 r3 ∧ Below w0.heap.size w0 w' ∧ KeepBut w w' g none := by
 have HR1 := Aside0.mk hr1; have HC1 := Aside0.mk hc1; clear hr1 hc1; have HI0 := Aside0.mk hI
 have HK := Aside0.mk (KeepBut.refl w g none)
 have HL := Aside0.mk hB.size
 clear hI
 have HW0 := Aside0.mk hB.size
 have HB := Aside0.mk hB; clear hB
 have H : ((spec_l1Cur_pick.f s0_0 s0_1 s0_2 (l1.length : Int)).bind fun bt311 => (if 0 ≤ bt311.1 then (if bt311.1 < (l1.length : Int) then (some (rd l1 bt311.1, bt311.2.1, bt311.2.2)) else (none)) else (none))) = some (r1, r2, r3) := h
 clear h; replace H := bS H; obtain ⟨⟨t311, t312, t313⟩, A3, H⟩ := H
 replace H : (if 0 ≤ t311 then (if t311 < (l1.length : Int) then (some (rd l1 t311, t312, t313)) else (none)) else (none)) = some (r1, r2, r3) := H
 replace H := ifS H; obtain ⟨c4, H⟩ := H; have c4b0 := decide_eq_true c4; clear c4; replace H := ifS H; obtain ⟨c5, H⟩ := H; have c5b0 := decide_eq_true c5; clear c5
 simp only [Option.some.injEq, Prod.mk.injEq] at H
 obtain ⟨rfl, rfl, rfl⟩ := H
 go_enter Try.func132, Try.ntmps132
 go_wp2_with (first | ((with_reducible refine gate_callee (f := 113) rfl ?_); refine goesLa (some 9) rfl Try.func113 #[.pointer (some ⟨g, 0, none⟩), .int .i64 (l1.length : Int)] rfl ?_; (with_reducible refine (spec_l1Cur_pick.calls g s0_0 s0_1 s0_2 (l1.length : Int) t311 t312 t313 w0 _ ?side1 ?side2 A3.out).mono ?_); (case side1 => repeat (first | (with_reducible first | exact HI0.out | apply IsS123.alloc | apply IsS123.drewN | apply IsS123.drew | apply IsS123.set_1 | apply IsS123.set_2) | exact HI0.out)); (case side2 => repeat (first | (with_reducible first | exact HB.out | apply below_alloc | apply pw_below_drewN | apply below_drew1 | refine below_set ?_ (IsS123.ge HI0.out)) | exact HB.out)); rintro e w6 ⟨rfl, hi, hb, hk⟩; refine ⟨_, rfl, ?_⟩; replace HK := ak (KeepBut.trans (by repeat (first | (with_reducible first | exact HK.out | apply KeepBut.set_ | apply keep_drewN | apply keep_drew | apply keep_alloc) | exact HK.out)) hk (.inl rfl)); replace HB := ak (hb); replace HI0 := ak (hi); (try clear hb); (try clear hk); (try clear hi); have p314 : 0 ≤ (t311 : Int) := da; have q314 : t311 < (l1.length : Int) := da; obtain ⟨ad314, e314, hx314_0⟩ := Kd.at_int HR1.out t311 p314 q314; cases e314; replace hx314_0 := keep_cell HK.out hx314_0 (by first | (rw [add_block]; exact hf1 _ rfl (by omega)) | exact hf1 _ rfl (by omega) | exact hf1 ad314 rfl (by omega)); replace p314 := eq_true p314; replace q314 := eq_true q314))
 go_ret
 exact ⟨er2, by repeat (first | (with_reducible first | exact HI0.out | apply IsS123.alloc | apply IsS123.drewN | apply IsS123.drew | apply IsS123.set_1 | apply IsS123.set_2) | exact HI0.out), by repeat (first | (with_reducible first | exact HB.out | apply below_alloc | apply pw_below_drewN | apply below_drew1 | refine below_set ?_ (IsS123.ge HI0.out)) | exact HB.out), by repeat (first | (with_reducible first | exact HK.out | apply KeepBut.set_ | apply keep_drewN | apply keep_drew | apply keep_alloc) | exact HK.out)⟩

/-! ### spec_l1Cur_table: function 122 -/
mutual
def spec_l1Cur_table.l0 : Nat → Int → List Int → Int → Int → Int → List (List Int) → List Int → Option (Int × (List (List Int)) × List Int × Int × Int)
  | 0, _, _, _, _, _, _, _ => none
  | k + 1, x4, x1000, x1001, x1002, x320000, x320001, x320002 => if x4 < x320000 then (spec_l1Cur_table.l1 k x4 (wrap64 (x4 + 1)) x1000 x1001 x1002 x320000 x320001 x320002) else ((spec_l1Cur_pick.f x1000 x1001 x1002 30).bind fun bt335 => (if bt335.1 = 0 then ((spec_l1Cur_among.f x1000 bt335.2.1 bt335.2.2 (([0, 6, 7] : List Int))).bind fun bt341 => (some (bt341.1, x320001, x320002, bt341.2.1, bt341.2.2))) else (if bt335.1 = 1 then (if x320002.length < 17592186044416 then (some (x320000, x320001, (x320002 ++ [5]), bt335.2.1, bt335.2.2)) else (none)) else (if bt335.1 = 2 then (if x320001.length < 5864062014805 then (if x320002.length < 17592186044416 then (some (x320000, (x320001 ++ [(([1, 0] : List Int))]), (x320002 ++ [5]), bt335.2.1, bt335.2.2)) else (none)) else (none)) else (some (x320000, x320001, x320002, bt335.2.1, bt335.2.2))))))
def spec_l1Cur_table.l1 : Nat → Int → Int → List Int → Int → Int → Int → List (List Int) → List Int → Option (Int × (List (List Int)) × List Int × Int × Int)
  | 0, _, _, _, _, _, _, _, _ => none
  | k + 1, x4, x5, x1000, x1001, x1002, x320000, x320001, x320002 => if x5 < x320000 then ((spec_l1Cur_one.f x1000 x1001 x1002 2).bind fun bt320 => (if bt320.1 = true then (if x320001.length < 5864062014805 then ((spec_l1Cur_pick.f x1000 bt320.2.1 bt320.2.2 256).bind fun bt329 => (if x320002.length < 17592186044416 then (spec_l1Cur_table.l1 k x4 (wrap64 (x5 + 1)) x1000 bt329.2.1 bt329.2.2 x320000 (x320001 ++ [(([x4, x5] : List Int))]) (x320002 ++ [bt329.1])) else (none))) else (none)) else (spec_l1Cur_table.l1 k x4 (wrap64 (x5 + 1)) x1000 bt320.2.1 bt320.2.2 x320000 x320001 x320002))) else (spec_l1Cur_table.l0 k (wrap64 (x4 + 1)) x1000 x1001 x1002 x320000 x320001 x320002)
end
def spec_l1Cur_table.f (k : Nat) (s0_0 : List Int) (s0_1 : Int) (s0_2 : Int) : Option (Int × (List (List Int)) × List Int × Int × Int) := (spec_l1Cur_pick.f s0_0 s0_1 s0_2 6).bind fun bt316 => (spec_l1Cur_table.l0 k 0 s0_0 bt316.2.1 bt316.2.2 (wrap64 (1 + bt316.1)) ([] : List (List Int)) ([] : List Int))
theorem spec_l1Cur_table.mono_l : ∀ k, (∀ y0 y1 y2 y3 y4 y5 y6, LeO (spec_l1Cur_table.l0 k y0 y1 y2 y3 y4 y5 y6) (spec_l1Cur_table.l0 (k + 1) y0 y1 y2 y3 y4 y5 y6)) ∧ (∀ y0 y1 y2 y3 y4 y5 y6 y7, LeO (spec_l1Cur_table.l1 k y0 y1 y2 y3 y4 y5 y6 y7) (spec_l1Cur_table.l1 (k + 1) y0 y1 y2 y3 y4 y5 y6 y7))
 | 0 => ⟨fun _ _ _ _ _ _ _ r h => by simp [spec_l1Cur_table.l0] at h, fun _ _ _ _ _ _ _ _ r h => by simp [spec_l1Cur_table.l1] at h⟩
 | k + 1 => by
  obtain ⟨ih0, ih1⟩ := spec_l1Cur_table.mono_l k
  refine ⟨?_, ?_⟩
  ·intro y0 y1 y2 y3 y4 y5 y6
   unfold spec_l1Cur_table.l0
   repeat' (first | (with_reducible first | exact ih0 _ _ _ _ _ _ _ | exact ih1 _ _ _ _ _ _ _ _ | exact LeO.refl _ | exact LeO.none _ | refine LeO.ite ?_ ?_ | refine LeO.bind ?_ (fun _ => ?_)) | exact ih0 _ _ _ _ _ _ _ | exact ih1 _ _ _ _ _ _ _ _ | exact LeO.none _ | refine LeO.ite ?_ ?_ | refine LeO.bind ?_ (fun _ => ?_))
  ·intro y0 y1 y2 y3 y4 y5 y6 y7
   unfold spec_l1Cur_table.l1
   repeat' (first | (with_reducible first | exact ih0 _ _ _ _ _ _ _ | exact ih1 _ _ _ _ _ _ _ _ | exact LeO.refl _ | exact LeO.none _ | refine LeO.ite ?_ ?_ | refine LeO.bind ?_ (fun _ => ?_)) | exact ih0 _ _ _ _ _ _ _ | exact ih1 _ _ _ _ _ _ _ _ | exact LeO.none _ | refine LeO.ite ?_ ?_ | refine LeO.bind ?_ (fun _ => ?_))
theorem spec_l1Cur_table.mono : ∀ a0 a1 a2 k, LeO (spec_l1Cur_table.f k a0 a1 a2) (spec_l1Cur_table.f (k + 1) a0 a1 a2) := by
 intro a0 a1 a2 k
 obtain ⟨ih0, ih1⟩ := spec_l1Cur_table.mono_l k
 unfold spec_l1Cur_table.f
 repeat' (first | (with_reducible first | exact ih0 _ _ _ _ _ _ _ | exact ih1 _ _ _ _ _ _ _ _ | exact LeO.refl _ | exact LeO.none _ | refine LeO.ite ?_ ?_ | refine LeO.bind ?_ (fun _ => ?_)) | exact ih0 _ _ _ _ _ _ _ | exact ih1 _ _ _ _ _ _ _ _ | exact LeO.none _ | refine LeO.ite ?_ ?_ | refine LeO.bind ?_ (fun _ => ?_))
def spec_l1Cur_table.T10 : Bool × List (List Nat × List Nat) := (true, [([], []), ([0], [0]), ([], []), ([2], [2]), ([3], [3]), ([1, 4, 3], [1, 4]), ([0, 1, 2, 3, 4, 5], []), ([6, 5, 5, 0, 1, 2, 3, 4, 5], [5, 6])])
def spec_l1Cur_table.B10 : List Nat := [0, 1, 0, 4, 12, 31, 63, 127]
theorem spec_l1Cur_table.tab10 : rtab .any (opsOf Try.f122 10) = spec_l1Cur_table.T10 := by kernel_rfl
theorem spec_l1Cur_table.bits10 : waitsOk spec_l1Cur_table.T10.2 spec_l1Cur_table.B10 = true := by kernel_rfl
set_option maxHeartbeats 8000000 in
set_option maxRecDepth 100000 in
theorem spec_l1Cur_table.calls (k : Nat) (g : Nat) (s0_0 : List Int) (s0_1 : Int) (s0_2 : Int) (r1 : Int) (r2 : List (List Int)) (r3 : List Int) (r4 : Int) (r5 : Int) (w0 w : World) (hI : IsS123 w0 w g s0_0 s0_1 s0_2) (hB : Below w0.heap.size w0 w) (h : spec_l1Cur_table.f k s0_0 s0_1 s0_2 = some (r1, r2, r3, r4, r5)) :
  Calls Try.prog 122 #[.pointer (some ⟨g, 0, none⟩)] w fun e w' => ∃ v1_ v2_ : Value, e = .returned (.agg #[.int .i64 r1, v1_, v2_]) ∧ Kd.S (Kd.slice 3 (Kd.int .i64)) 22 w' w.heap.size (fun k_ => some k_ ≠ (v2_ : Value).ownBlock) v1_ r2 ∧ Kd.R (Kd.int .i64) 3 w' w.heap.size (fun _ => True) v2_ r3 ∧ IsS123 w0 w' g s0_0 r4 r5 ∧ Below w0.heap.size w0 w' ∧ KeepBut w w' g none := by
 have hu38 := Try.underlying38
 have HI0 := Aside0.mk hI
 have HK := Aside0.mk (KeepBut.refl w g none)
 have HL := Aside0.mk hB.size
 clear hI
 have HW0 := Aside0.mk hB.size
 have HB := Aside0.mk hB; clear hB
 have H : ((spec_l1Cur_pick.f s0_0 s0_1 s0_2 6).bind fun bt316 => (spec_l1Cur_table.l0 k 0 s0_0 bt316.2.1 bt316.2.2 (wrap64 (1 + bt316.1)) ([] : List (List Int)) ([] : List Int))) = some (r1, r2, r3, r4, r5) := h
 clear h; replace H := bS H; obtain ⟨⟨t316, t317, t318⟩, A2, H⟩ := H
 replace H : (spec_l1Cur_table.l0 k 0 s0_0 t317 t318 (wrap64 (1 + t316)) ([] : List (List Int)) ([] : List Int)) = some (r1, r2, r3, r4, r5) := H
 have H' := Aside0.mk H
 clear H
 go_enter Try.func122, Try.ntmps122
 go_wp2_with (first | ((with_reducible refine gate_dst (N := 2) rfl ?_); refine boxev 2 #[.int .i64 0, .slice none 0 0, .slice none 0 0] 38 ?_; intro gb315 hg w3 hbox hb; replace HB := ak (below_step (by repeat (first | (with_reducible first | exact HB.out | apply below_alloc | apply pw_below_drewN | apply below_drew1 | refine below_set ?_ (IsS123.ge HI0.out)) | exact HB.out)) hb); have BK315 := ak (hbox); have GW315 := ak ((by rw [hg]; exact (keep_size (w := w) (g := g) (row := none) (by repeat (first | (with_reducible first | exact HK.out | apply KeepBut.set_ | apply keep_drewN | apply keep_drew | apply keep_alloc) | exact HK.out))) : w.heap.size ≤ gb315)); have GE315 := ak ((Nat.le_trans HW0.out (by rw [hg]; exact (keep_size (w := w) (g := g) (row := none) (by repeat (first | (with_reducible first | exact HK.out | apply KeepBut.set_ | apply keep_drewN | apply keep_drew | apply keep_alloc) | exact HK.out))) : w.heap.size ≤ gb315) : w0.heap.size ≤ gb315)); replace HK := ak (KeepBut.trans (by repeat (first | (with_reducible first | exact HK.out | apply KeepBut.set_ | apply keep_drewN | apply keep_drew | apply keep_alloc) | exact HK.out)) (KeepBut.of_below hb g none) (.inl rfl)); have NB0_315 := ak ((by rw [hg]; exact Nat.ne_of_lt (IsS123.lt (show IsS123 w0 _ g s0_0 s0_1 s0_2 from by repeat (first | (with_reducible first | exact HI0.out | apply IsS123.alloc | apply IsS123.drewN | apply IsS123.drew | apply IsS123.set_1 | apply IsS123.set_2) | exact HI0.out))) : g ≠ gb315)); have NB315_0 := ak ((by rw [hg]; exact Nat.ne_of_gt (IsS123.lt (show IsS123 w0 _ g s0_0 s0_1 s0_2 from by repeat (first | (with_reducible first | exact HI0.out | apply IsS123.alloc | apply IsS123.drewN | apply IsS123.drew | apply IsS123.set_1 | apply IsS123.set_2) | exact HI0.out))) : gb315 ≠ g)); replace HI0 := ak (IsS123.below (by repeat (first | (with_reducible first | exact HI0.out | apply IsS123.alloc | apply IsS123.drewN | apply IsS123.drew | apply IsS123.set_1 | apply IsS123.set_2) | exact HI0.out)) hb); clear hb hbox hg) | ((with_reducible refine gate_callee (f := 113) rfl ?_); refine goesLa (some 7) rfl Try.func113 #[.pointer (some ⟨g, 0, none⟩), .int .i64 6] rfl ?_; (with_reducible refine (spec_l1Cur_pick.calls g s0_0 s0_1 s0_2 6 t316 t317 t318 w0 _ ?side1 ?side2 A2.out).mono ?_); (case side1 => repeat (first | (with_reducible first | exact HI0.out | apply IsS123.alloc | apply IsS123.drewN | apply IsS123.drew | apply IsS123.set_1 | apply IsS123.set_2 | refine IsS123.far ?_ NB0_315.out _) | exact HI0.out)); (case side2 => repeat (first | (with_reducible first | exact HB.out | apply below_alloc | apply pw_below_drewN | apply below_drew1 | refine below_set ?_ (IsS123.ge HI0.out) | refine below_set ?_ GE315.out) | exact HB.out)); rintro e w4 ⟨rfl, hi, hb, hk⟩; refine ⟨_, rfl, ?_⟩; replace BK315 := ak (KeepBut.blk hk (g' := gb315) (blkd BK315) NB315_0.out (by simp)); replace HK := ak (KeepBut.trans (by repeat (first | (with_reducible first | exact HK.out | apply KeepBut.set_ | apply keep_drewN | apply keep_drew | apply keep_alloc | refine keep_far ?_ GW315.out _) | exact HK.out)) hk (.inl rfl)); replace HB := ak (hb); replace HI0 := ak (hi); (try clear hb); (try clear hk); (try clear hi)) | ((with_reducible refine gate_dst (N := 3) rfl ?_); refine boxev 3 #[.int .i64 0, .slice none 0 0, .slice none 0 0] 38 ?_; intro gb319 hg w5 hbox hb; replace HB := ak (below_step (by repeat (first | (with_reducible first | exact HB.out | apply below_alloc | apply pw_below_drewN | apply below_drew1 | refine below_set ?_ (IsS123.ge HI0.out) | refine below_set ?_ GE315.out) | exact HB.out)) hb); have BK319 := ak (hbox); have GW319 := ak ((by rw [hg]; exact (keep_size (w := w) (g := g) (row := none) (by repeat (first | (with_reducible first | exact HK.out | apply KeepBut.set_ | apply keep_drewN | apply keep_drew | apply keep_alloc | refine keep_far ?_ GW315.out _) | exact HK.out))) : w.heap.size ≤ gb319)); have GE319 := ak ((Nat.le_trans HW0.out (by rw [hg]; exact (keep_size (w := w) (g := g) (row := none) (by repeat (first | (with_reducible first | exact HK.out | apply KeepBut.set_ | apply keep_drewN | apply keep_drew | apply keep_alloc | refine keep_far ?_ GW315.out _) | exact HK.out))) : w.heap.size ≤ gb319) : w0.heap.size ≤ gb319)); replace HK := ak (KeepBut.trans (by repeat (first | (with_reducible first | exact HK.out | apply KeepBut.set_ | apply keep_drewN | apply keep_drew | apply keep_alloc | refine keep_far ?_ GW315.out _) | exact HK.out)) (KeepBut.of_below hb g none) (.inl rfl)); have NB315_319 := ak ((by rw [hg]; exact Nat.ne_of_lt (blk_lt (blkd BK315)) : gb315 ≠ gb319)); have NB319_315 := ak ((by rw [hg]; exact Nat.ne_of_gt (blk_lt (blkd BK315)) : gb319 ≠ gb315)); replace BK315 := ak (blk_below (blkd BK315) hb); have NB0_319 := ak ((by rw [hg]; exact Nat.ne_of_lt (IsS123.lt (show IsS123 w0 _ g s0_0 t317 t318 from by repeat (first | (with_reducible first | exact HI0.out | apply IsS123.alloc | apply IsS123.drewN | apply IsS123.drew | apply IsS123.set_1 | apply IsS123.set_2 | refine IsS123.far ?_ NB0_315.out _) | exact HI0.out))) : g ≠ gb319)); have NB319_0 := ak ((by rw [hg]; exact Nat.ne_of_gt (IsS123.lt (show IsS123 w0 _ g s0_0 t317 t318 from by repeat (first | (with_reducible first | exact HI0.out | apply IsS123.alloc | apply IsS123.drewN | apply IsS123.drew | apply IsS123.set_1 | apply IsS123.set_2 | refine IsS123.far ?_ NB0_315.out _) | exact HI0.out))) : gb319 ≠ g)); replace HI0 := ak (IsS123.below (by repeat (first | (with_reducible first | exact HI0.out | apply IsS123.alloc | apply IsS123.drewN | apply IsS123.drew | apply IsS123.set_1 | apply IsS123.set_2 | refine IsS123.far ?_ NB0_315.out _) | exact HI0.out)) hb); clear hb hbox hg; have hnb6 := NB319_315.out; have hnc6 := NB315_319.out; have hnb7 := NB319_0.out; have hnc7 := NB0_319.out; obtain ⟨hcz8_0, hcz8_1, hcz8_2, hfz8_0, hfz8_1, hfz8_2⟩ := box3 BK319))
 go_loopg [4] k (fun kq v4 w' => ∃ (x4_1 : Int) (x1001_1 : Int) (x1002_1 : Int) (x320001_1 : List (List Int)) (x320002_1 : List Int) (u320001 : Value) (u320002 : Value), v4 = .int .i64 x4_1 ∧ Aside0 (spec_l1Cur_table.l0 kq x4_1 s0_0 x1001_1 x1002_1 (wrap64 (1 + t316)) x320001_1 x320002_1 = some (r1, r2, r3, r4, r5)) ∧ Aside0 (kq ≤ k) ∧ Aside0 (Kd.S (Kd.slice 3 (Kd.int .i64)) 22 w' w.heap.size (fun k_ => some k_ ≠ (u320002 : Value).ownBlock) u320001 x320001_1) ∧ Aside0 (Kd.R (Kd.int .i64) 3 w' w.heap.size (fun _ => True) u320002 x320002_1) ∧ Aside0 (w'.heap[gb315]? = some (.cells #[.int .i64 0, (.slice none 0 0), (.slice none 0 0)] 38 (0, 0))) ∧ Aside0 (w'.heap[gb319]? = some (.cells #[.int .i64 (wrap64 (1 + t316)), u320001, u320002] 38 (0, 0))) ∧ Aside0 (IsS123 w0 w' g s0_0 x1001_1 x1002_1) ∧ Aside0 (KeepBut w w' g none) ∧ Aside0 (Below w0.heap.size w0 w'))
 case atStart => exact ⟨(0), (t317), (t318), (([] : List (List Int))), (([] : List Int)), (.slice none 0 0), (.slice none 0 0), er, H', ⟨Nat.le_refl _⟩, ⟨by first | exact Kd.S_nil _ _ _ _ _ | exact Kd.N_nil _ _ _ _ _ | exact Kd.V_nil _ _ _ _ _ | exact Kd.Q_nil _ _ _ _ _ | exact Kd.R_nil _ _ _ _ _⟩, ⟨by first | exact Kd.R_nil _ _ _ _ _ | exact Kd.N_nil _ _ _ _ _ | exact Kd.V_nil _ _ _ _ _ | exact Kd.Q_nil _ _ _ _ _ | exact Kd.S_nil _ _ _ _ _⟩, ⟨by (with_reducible repeat (first | refine blk_drewN ?_ _ | refine blk_drew ?_ | refine blk_alloc ?_ _)); refine blk_far ?_ NB315_319.out _; (with_reducible repeat (first | refine blk_drewN ?_ _ | refine blk_drew ?_ | refine blk_alloc ?_ _)); refine blk_far ?_ NB315_319.out _; (with_reducible repeat (first | refine blk_drewN ?_ _ | refine blk_drew ?_ | refine blk_alloc ?_ _)); refine blk_far ?_ NB315_319.out _; (with_reducible repeat (first | refine blk_drewN ?_ _ | refine blk_drew ?_ | refine blk_alloc ?_ _)); exact BK315.out⟩, ⟨by (with_reducible repeat (first | refine blk_drewN ?_ _ | refine blk_drew ?_ | refine blk_alloc ?_ _)); refine blk_put (cs := #[.int .i64 (wrap64 (1 + t316)), .slice none 0 0, .slice none 0 0]) ?_ 2 _ rfl; (with_reducible repeat (first | refine blk_drewN ?_ _ | refine blk_drew ?_ | refine blk_alloc ?_ _)); refine blk_put (cs := #[.int .i64 (wrap64 (1 + t316)), .slice none 0 0, .slice none 0 0]) ?_ 1 _ rfl; (with_reducible repeat (first | refine blk_drewN ?_ _ | refine blk_drew ?_ | refine blk_alloc ?_ _)); refine blk_put (cs := #[.int .i64 0, .slice none 0 0, .slice none 0 0]) ?_ 0 _ rfl; (with_reducible repeat (first | refine blk_drewN ?_ _ | refine blk_drew ?_ | refine blk_alloc ?_ _)); exact BK319.out⟩, ⟨by repeat (first | (with_reducible first | exact HI0.out | apply IsS123.alloc | apply IsS123.drewN | apply IsS123.drew | apply IsS123.set_1 | apply IsS123.set_2 | refine IsS123.far ?_ NB0_315.out _ | refine IsS123.far ?_ NB0_319.out _) | exact HI0.out)⟩, ⟨by repeat (first | (with_reducible first | exact HK.out | apply KeepBut.set_ | apply keep_drewN | apply keep_drew | apply keep_alloc | refine keep_far ?_ GW315.out _ | refine keep_far ?_ GW319.out _) | exact HK.out)⟩, ⟨by repeat (first | (with_reducible first | exact HB.out | apply below_alloc | apply pw_below_drewN | apply below_drew1 | refine below_set ?_ (IsS123.ge HI0.out) | refine below_set ?_ GE315.out | refine below_set ?_ GE319.out) | exact HB.out)⟩⟩
 case round =>
  clear H'
  (try clear hcz8_0); (try clear hcz8_1); (try clear hcz8_2); (try clear hfz8_0); (try clear hfz8_1); (try clear hfz8_2)
  obtain ⟨x4_1, x1001_1, x1002_1, x320001_1, x320002_1, u320001, u320002, rfl, HA, HK1, HO_320001, HO_320002, BK315, BK319, HI0, HK, HB⟩ := hrel
  cases gk with
  | zero => exact absurd HA.out (by simp [spec_l1Cur_table.l0])
  | succ k1 =>
   have H := HA.out; clear HA
   simp only [spec_l1Cur_table.l0] at H
   by_cases c9 : x4_1 < (wrap64 (1 + t316))
   ·rw [if_pos c9] at H
    have c9b0 : decide (x4_1 < (wrap64 (1 + t316))) = true := decide_eq_true c9
    clear c9
    have H' := Aside0.mk H
    clear H; have hnb10 := NB319_315.out; have hnc10 := NB315_319.out; have hnb11 := NB319_0.out; have hnc11 := NB0_319.out; obtain ⟨hcz12_0, hcz12_1, hcz12_2, hfz12_0, hfz12_1, hfz12_2⟩ := box3 BK319; go_wp2
    go_loopg [5] k1 (fun kq v5 w' => ∃ (x5_2 : Int) (x1001_2 : Int) (x1002_2 : Int) (x320001_2 : List (List Int)) (x320002_2 : List Int) (u320001 : Value) (u320002 : Value), v5 = .int .i64 x5_2 ∧ Aside0 (spec_l1Cur_table.l1 kq x4_1 x5_2 s0_0 x1001_2 x1002_2 (wrap64 (1 + t316)) x320001_2 x320002_2 = some (r1, r2, r3, r4, r5)) ∧ Aside0 (kq ≤ k1) ∧ Aside0 (Kd.S (Kd.slice 3 (Kd.int .i64)) 22 w' w.heap.size (fun k_ => some k_ ≠ (u320002 : Value).ownBlock) u320001 x320001_2) ∧ Aside0 (Kd.R (Kd.int .i64) 3 w' w.heap.size (fun _ => True) u320002 x320002_2) ∧ Aside0 (w'.heap[gb315]? = some (.cells #[.int .i64 0, (.slice none 0 0), (.slice none 0 0)] 38 (0, 0))) ∧ Aside0 (w'.heap[gb319]? = some (.cells #[.int .i64 (wrap64 (1 + t316)), u320001, u320002] 38 (0, 0))) ∧ Aside0 (IsS123 w0 w' g s0_0 x1001_2 x1002_2) ∧ Aside0 (KeepBut w w' g none) ∧ Aside0 (Below w0.heap.size w0 w'))
    case atStart => exact ⟨(wrap64 (x4_1 + 1)), (x1001_1), (x1002_1), (x320001_1), (x320002_1), (u320001), (u320002), er, H', ⟨Nat.le_refl _⟩, ⟨sd HO_320001⟩, ⟨rdl HO_320002⟩, ⟨blkd BK315⟩, ⟨blkd BK319⟩, ⟨by repeat (first | (with_reducible first | exact HI0.out | apply IsS123.alloc | apply IsS123.drewN | apply IsS123.drew | apply IsS123.set_1 | apply IsS123.set_2 | refine IsS123.far ?_ NB0_315.out _ | refine IsS123.far ?_ NB0_319.out _) | exact HI0.out)⟩, ⟨by repeat (first | (with_reducible first | exact HK.out | apply KeepBut.set_ | apply keep_drewN | apply keep_drew | apply keep_alloc | refine keep_far ?_ GW315.out _ | refine keep_far ?_ GW319.out _) | exact HK.out)⟩, ⟨by repeat (first | (with_reducible first | exact HB.out | apply below_alloc | apply pw_below_drewN | apply below_drew1 | refine below_set ?_ (IsS123.ge HI0.out) | refine below_set ?_ GE315.out | refine below_set ?_ GE319.out) | exact HB.out)⟩⟩
    case round =>
     clear H'
     (try clear c9b0); (try clear hcz12_0); (try clear hcz12_1); (try clear hcz12_2); (try clear hfz12_0); (try clear hfz12_1); (try clear hfz12_2)
     obtain ⟨x5_2, x1001_2, x1002_2, x320001_2, x320002_2, u320001, u320002, rfl, HA, HK2, HO_320001, HO_320002, BK315, BK319, HI0, HK, HB⟩ := hrel
     cases gk with
     | zero => exact absurd HA.out (by simp [spec_l1Cur_table.l1])
     | succ k2 =>
      have H := HA.out; clear HA
      simp only [spec_l1Cur_table.l1] at H
      by_cases c13 : x5_2 < (wrap64 (1 + t316))
      ·rw [if_pos c13] at H
       have c13b0 : decide (x5_2 < (wrap64 (1 + t316))) = true := decide_eq_true c13
       clear c13; replace H := bS H; obtain ⟨⟨t320, t321, t322⟩, A14, H⟩ := H
       replace H : (if t320 = true then (if x320001_2.length < 5864062014805 then ((spec_l1Cur_pick.f s0_0 t321 t322 256).bind fun bt329 => (if x320002_2.length < 17592186044416 then (spec_l1Cur_table.l1 k2 x4_1 (wrap64 (x5_2 + 1)) s0_0 bt329.2.1 bt329.2.2 (wrap64 (1 + t316)) (x320001_2 ++ [(([x4_1, x5_2] : List Int))]) (x320002_2 ++ [bt329.1])) else (none))) else (none)) else (spec_l1Cur_table.l1 k2 x4_1 (wrap64 (x5_2 + 1)) s0_0 t321 t322 (wrap64 (1 + t316)) x320001_2 x320002_2)) = some (r1, r2, r3, r4, r5) := H
       by_cases c15 : t320 = true
       ·subst c15
        have H1 : (if x320001_2.length < 5864062014805 then ((spec_l1Cur_pick.f s0_0 t321 t322 256).bind fun bt329 => (if x320002_2.length < 17592186044416 then (spec_l1Cur_table.l1 k2 x4_1 (wrap64 (x5_2 + 1)) s0_0 bt329.2.1 bt329.2.2 (wrap64 (1 + t316)) (x320001_2 ++ [(([x4_1, x5_2] : List Int))]) (x320002_2 ++ [bt329.1])) else (none))) else (none)) = some (r1, r2, r3, r4, r5) := by rw [if_pos rfl] at H; exact H
        clear H
        have H := H1
        clear H1
        obtain ⟨y323, hy_⟩ : ∃ y_ : List Int, y_ = (([x4_1, x5_2] : List Int)) := ⟨_, rfl⟩
        replace H : (if x320001_2.length < 5864062014805 then ((spec_l1Cur_pick.f s0_0 t321 t322 256).bind fun bt329 => (if x320002_2.length < 17592186044416 then (spec_l1Cur_table.l1 k2 x4_1 (wrap64 (x5_2 + 1)) s0_0 bt329.2.1 bt329.2.2 (wrap64 (1 + t316)) (x320001_2 ++ [y323]) (x320002_2 ++ [bt329.1])) else (none))) else (none)) = some (r1, r2, r3, r4, r5) := yH
        have Ny323 := ak hy_; clear hy_; replace H := ifS H; obtain ⟨c16, H⟩ := H; have LMc16 := Aside0.mk c16; clear c16
        obtain ⟨y326, hy_⟩ : ∃ y_ : List (List Int), y_ = (x320001_2 ++ [y323]) := ⟨_, rfl⟩
        replace H : ((spec_l1Cur_pick.f s0_0 t321 t322 256).bind fun bt329 => (if x320002_2.length < 17592186044416 then (spec_l1Cur_table.l1 k2 x4_1 (wrap64 (x5_2 + 1)) s0_0 bt329.2.1 bt329.2.2 (wrap64 (1 + t316)) y326 (x320002_2 ++ [bt329.1])) else (none))) = some (r1, r2, r3, r4, r5) := yH
        have Ny326 := ak hy_; clear hy_; replace H := bS H; obtain ⟨⟨t329, t330, t331⟩, A17, H⟩ := H
        replace H : (if x320002_2.length < 17592186044416 then (spec_l1Cur_table.l1 k2 x4_1 (wrap64 (x5_2 + 1)) s0_0 t330 t331 (wrap64 (1 + t316)) y326 (x320002_2 ++ [t329])) else (none)) = some (r1, r2, r3, r4, r5) := H
        replace H := ifS H; obtain ⟨c18, H⟩ := H; have LMc18 := Aside0.mk c18; clear c18
        obtain ⟨y332, hy_⟩ : ∃ y_ : List Int, y_ = (x320002_2 ++ [t329]) := ⟨_, rfl⟩
        replace H : (spec_l1Cur_table.l1 k2 x4_1 (wrap64 (x5_2 + 1)) s0_0 t330 t331 (wrap64 (1 + t316)) y326 y332) = some (r1, r2, r3, r4, r5) := yH
        have Ny332 := ak hy_; clear hy_
        have H' := Aside0.mk H
        clear H; have hnb19 := NB319_315.out; have hnc19 := NB315_319.out; have hnb20 := NB319_0.out; have hnc20 := NB0_319.out; obtain ⟨hcz21_0, hcz21_1, hcz21_2, hfz21_0, hfz21_1, hfz21_2⟩ := box3 BK319
        try go_wp2_with (first | ((with_reducible refine gate_callee (f := 131) rfl ?_); refine goesLa (some 25) rfl Try.func131 #[.pointer (some ⟨g, 0, none⟩), .int .i64 2] rfl ?_; (with_reducible refine (spec_l1Cur_one.calls g s0_0 x1001_2 x1002_2 2 true t321 t322 w0 _ ?side1 ?side2 A14.out).mono ?_); (case side1 => repeat (first | (with_reducible first | exact HI0.out | apply IsS123.alloc | apply IsS123.drewN | apply IsS123.drew | apply IsS123.set_1 | apply IsS123.set_2 | refine IsS123.far ?_ NB0_315.out _ | refine IsS123.far ?_ NB0_319.out _) | exact HI0.out)); (case side2 => repeat (first | (with_reducible first | exact HB.out | apply below_alloc | apply pw_below_drewN | apply below_drew1 | refine below_set ?_ (IsS123.ge HI0.out) | refine below_set ?_ GE315.out | refine below_set ?_ GE319.out) | exact HB.out)); rintro e w22 ⟨rfl, hi, hb, hk⟩; refine ⟨_, rfl, ?_⟩; replace HO_320001 := ak (Kd.S_mono (Kd.S_keep (IsS123.apartS (show IsS123 w0 _ g s0_0 x1001_2 x1002_2 from by repeat (first | (with_reducible first | exact HI0.out | apply IsS123.alloc | apply IsS123.drewN | apply IsS123.drew | apply IsS123.set_1 | apply IsS123.set_2 | refine IsS123.far ?_ NB0_315.out _ | refine IsS123.far ?_ NB0_319.out _) | exact HI0.out)) (sd HO_320001) (by decide)) hk (fun _ h => h.2)) (fun _ h => h.1)); replace HO_320002 := ak (Kd.R_mono (Kd.R_keep (IsS123.apart (show IsS123 w0 _ g s0_0 x1001_2 x1002_2 from by repeat (first | (with_reducible first | exact HI0.out | apply IsS123.alloc | apply IsS123.drewN | apply IsS123.drew | apply IsS123.set_1 | apply IsS123.set_2 | refine IsS123.far ?_ NB0_315.out _ | refine IsS123.far ?_ NB0_319.out _) | exact HI0.out)) (rdl HO_320002) (by decide)) hk (fun _ h => h.2)) (fun _ h => h.1)); replace BK315 := ak (KeepBut.blk hk (g' := gb315) (blkd BK315) NB315_0.out (by simp)); replace BK319 := ak (KeepBut.blk hk (g' := gb319) (blkd BK319) NB319_0.out (by simp)); replace HK := ak (KeepBut.trans (by repeat (first | (with_reducible first | exact HK.out | apply KeepBut.set_ | apply keep_drewN | apply keep_drew | apply keep_alloc | refine keep_far ?_ GW315.out _ | refine keep_far ?_ GW319.out _) | exact HK.out)) hk (.inl rfl)); replace HB := ak (hb); replace HI0 := ak (hi); (try clear hb); (try clear hk); (try clear hi); obtain ⟨hcz23_0, hcz23_1, hcz23_2, hfz23_0, hfz23_1, hfz23_2⟩ := box3 BK319) | ((with_reducible refine gate_dst (N := 30) rfl ?_); refine Kd.R_lit (Kd.int .i64) _ 3 ?hg (N := 30) ?hd (xs := ([x4_1, x5_2] : List Int)) (inner := [.int .i64 x4_1, .int .i64 x5_2]) (ok := fun _ => True) (okp := fun _ => True) ?hr ?hp (fun _ hk => hk) trivial (Below.refl _ _) (Nat.le_refl _) (by simp) ?_; (case hd => rfl); (case hg => rfl); (case hr => first | (go_simp; done) | (go_simp; rfl)); (case hp => exact (Reps.one (show Kd.M (Kd.int .i64) _ _ _ x4_1 [.int .i64 x4_1] from rfl) (Reps.one (show Kd.M (Kd.int .i64) _ _ _ x5_2 [.int .i64 x5_2] from rfl) (Reps.none _ _)))); intro v324 w24 ho25 hb hg_ hnew_; clear hg_ hnew_; (first | rw [← Ny323.out] at ho25 | (simp only [Int.reduceToNat] at ho25; rw [← Ny323.out] at ho25)); replace HO_320001 := ak (Kd.S_elder' (sd HO_320001) (Kd.R_base ho25) hb); have HO325 := ak (Kd.R_lower (Kd.R_new' ho25 (Kd.R_lt (rdl HO_320002))) (keep_size (w := w) (g := g) (row := none) (by repeat (first | (with_reducible first | exact HK.out | apply KeepBut.set_ | apply keep_drewN | apply keep_drew | apply keep_alloc | refine keep_far ?_ GW315.out _ | refine keep_far ?_ GW319.out _) | exact HK.out)))); replace HO_320002 := ak (Kd.R_elder' (rdl HO_320002) (Kd.R_base ho25) hb); replace BK315 := ak (blk_below (blkd BK315) hb); replace BK319 := ak (blk_below (blkd BK319) hb); replace HK := ak (KeepBut.trans (by repeat (first | (with_reducible first | exact HK.out | apply KeepBut.set_ | apply keep_drewN | apply keep_drew | apply keep_alloc | refine keep_far ?_ GW315.out _ | refine keep_far ?_ GW319.out _) | exact HK.out)) (KeepBut.of_below hb g none) (.inl rfl)); replace HB := ak (below_step (by repeat (first | (with_reducible first | exact HB.out | apply below_alloc | apply pw_below_drewN | apply below_drew1 | refine below_set ?_ (IsS123.ge HI0.out) | refine below_set ?_ GE315.out | refine below_set ?_ GE319.out) | exact HB.out)) hb); replace HI0 := ak (IsS123.below (by repeat (first | (with_reducible first | exact HI0.out | apply IsS123.alloc | apply IsS123.drewN | apply IsS123.drew | apply IsS123.set_1 | apply IsS123.set_2 | refine IsS123.far ?_ NB0_315.out _ | refine IsS123.far ?_ NB0_319.out _) | exact HI0.out)) hb); clear hb ho25; obtain ⟨Ao27, co27, eo27⟩ := Kd.R_slice HO325.out; subst eo27) | ((with_reducible refine gate_builtin (b := .append) (xs := #[.tmp 27, .tmp 31]) rfl ?_); at_builtin; refine Kd.S_append (Kd.slice 3 (Kd.int .i64)) w.heap.size rfl (.tmp 27) (.tmp 31) 32 22 (.slice none 0 0) 24 rfl Try.underlying32 info22 rfl (by decide) (by omega) u320001 x320001_2 y323 [.slice Ao27 y323.length co27] (fun k_ => some k_ ≠ (u320002 : Value).ownBlock) (fun k_ => some k_ = (.slice Ao27 y323.length co27 : Value).ownBlock) rfl rfl ?aP (fun k_ hk_ => ((Kd.R_mono (ok' := fun k_ => ((fun k_ => some k_ ≠ (u320002 : Value).ownBlock)) k_ ∧ some k_ ≠ (u320001 : Value).ownBlock) (Kd.R_apart' (HO325.out) (Kd.S_typed HO_320001.out) (by decide)) (fun k_ hk => ⟨hk.1.2, hk.2⟩))).1 k_ hk_.symm) ?aF ?aO (Below.refl _ _) ?aS ?aL ?_; (case aP => exact Kd.M_row (Kd.R_mono (Kd.R_tight rfl (Kd.R_mono (ok' := fun k_ => ((fun k_ => some k_ ≠ (u320002 : Value).ownBlock)) k_ ∧ some k_ ≠ (u320001 : Value).ownBlock) (Kd.R_apart' (HO325.out) (Kd.S_typed HO_320001.out) (by decide)) (fun k_ hk => ⟨hk.1.2, hk.2⟩))) (fun _ h_ => h_))); (case aF => exact (fun k_ hk => Kd.fresh' (Kd.R_lt (rdl HO_320002)) k_ hk)); (case aO => exact (by (with_reducible repeat (first | apply Kd.S_alloc | apply Kd.S_drewN | apply Kd.S_drew)); exact Kd.S_mono HO_320001.out (fun k_ hk => ⟨hk.1, fun e_ => hk.2 e_⟩))); (case aS => exact (keep_size (w := w) (g := g) (row := none) (by repeat (first | (with_reducible first | exact HK.out | apply KeepBut.set_ | apply keep_drewN | apply keep_drew | apply keep_alloc | refine keep_far ?_ GW315.out _ | refine keep_far ?_ GW319.out _) | exact HK.out)))); (case aL => have := LMc16.out; omega); intro v327 w26 ho hb hg hat; rw [← Ny326.out] at ho; replace HO_320002 := ak (Kd.R_over' (rdl HO_320002) (Kd.S_typed (sd HO_320001)) (by decide) hg); replace BK315 := ak (blk_grown (blkd BK315) hg (Kd.S_ne HO_320001.out BK315.out (by decide))); replace BK319 := ak (blk_grown (blkd BK319) hg (Kd.S_ne HO_320001.out BK319.out (by decide))); replace HB := ak (below_weaken (by repeat (first | (with_reducible first | exact HB.out | apply below_alloc | apply pw_below_drewN | apply below_drew1 | refine below_set ?_ (IsS123.ge HI0.out) | refine below_set ?_ GE315.out | refine below_set ?_ GE319.out) | exact HB.out)) HL.out hb); replace HI0 := ak (IsS123.grown (by repeat (first | (with_reducible first | exact HI0.out | apply IsS123.alloc | apply IsS123.drewN | apply IsS123.drew | apply IsS123.set_1 | apply IsS123.set_2 | refine IsS123.far ?_ NB0_315.out _ | refine IsS123.far ?_ NB0_319.out _) | exact HI0.out)) hg (IsS123.own_neS HI0.out HO_320001.out (by decide))); replace HK := ak (KeepBut.trans (by repeat (first | (with_reducible first | exact HK.out | apply KeepBut.set_ | apply keep_drewN | apply keep_drew | apply keep_alloc | refine keep_far ?_ GW315.out _ | refine keep_far ?_ GW319.out _) | exact HK.out)) (KeepBut.of_grown hg g) (Kd.S_base2 HO_320001.out)); have HO328 := ak (ho); clear HO_320001 HO325; clear ho hb hg hat; obtain ⟨Ao28, co28, eo28⟩ := Kd.S_slice HO328.out; subst eo28; obtain ⟨hcz29_0, hcz29_1, hcz29_2, hfz29_0, hfz29_1, hfz29_2⟩ := box3 BK319))
        have n0_ : Aside0 (Kd.R (Kd.int .i64) 3 (w26.setCell ⟨gb319, 1, none⟩ (.slice Ao28 y326.length co28)) w.heap.size (fun _ => True) u320002 x320002_2) := ⟨by (with_reducible repeat (first | apply Kd.R_alloc | apply Kd.R_drewN | apply Kd.R_drew)); exact Kd.R_mono (Kd.R_far (p := ⟨gb319, 1, none⟩) (Kd.R_types HO_320002.out BK319.out (by decide)) (fun _ hk => hk.2) (.slice Ao28 y326.length co28)) (fun _ hk => trivial)⟩
        have n1_ : Aside0 (Kd.S (Kd.slice 3 (Kd.int .i64)) 22 (w26.setCell ⟨gb319, 1, none⟩ (.slice Ao28 y326.length co28)) w.heap.size (fun k_ => some k_ ≠ (u320002 : Value).ownBlock) (.slice Ao28 y326.length co28) y326) := ⟨by (with_reducible repeat (first | apply Kd.S_alloc | apply Kd.S_drewN | apply Kd.S_drew)); exact Kd.S_mono (Kd.S_far (p := ⟨gb319, 1, none⟩) (Kd.S_types HO328.out BK319.out (by decide)) (fun _ hk => hk.2) (.slice Ao28 y326.length co28)) (fun _ hk => hk.1)⟩
        have n2_ : Aside0 ((w26.setCell ⟨gb319, 1, none⟩ (.slice Ao28 y326.length co28)).heap[gb315]? = some (.cells #[.int .i64 0, .slice none 0 0, .slice none 0 0] 38 (0, 0))) := ⟨by (with_reducible repeat (first | refine blk_drewN ?_ _ | refine blk_drew ?_ | refine blk_alloc ?_ _)); refine blk_far ?_ NB315_319.out _; (with_reducible repeat (first | refine blk_drewN ?_ _ | refine blk_drew ?_ | refine blk_alloc ?_ _)); exact BK315.out⟩
        have n3_ : Aside0 ((w26.setCell ⟨gb319, 1, none⟩ (.slice Ao28 y326.length co28)).heap[gb319]? = some (.cells #[.int .i64 (wrap64 (1 + t316)), .slice Ao28 y326.length co28, u320002] 38 (0, 0))) := ⟨by (with_reducible repeat (first | refine blk_drewN ?_ _ | refine blk_drew ?_ | refine blk_alloc ?_ _)); refine blk_put (cs := #[.int .i64 (wrap64 (1 + t316)), u320001, u320002]) ?_ 1 _ rfl; (with_reducible repeat (first | refine blk_drewN ?_ _ | refine blk_drew ?_ | refine blk_alloc ?_ _)); exact BK319.out⟩
        have n4_ : Aside0 (IsS123 w0 (w26.setCell ⟨gb319, 1, none⟩ (.slice Ao28 y326.length co28)) g s0_0 t321 t322) := ⟨by repeat (first | (with_reducible first | exact HI0.out | apply IsS123.alloc | apply IsS123.drewN | apply IsS123.drew | apply IsS123.set_1 | apply IsS123.set_2 | refine IsS123.far ?_ NB0_315.out _ | refine IsS123.far ?_ NB0_319.out _) | exact HI0.out)⟩
        have n5_ : Aside0 (KeepBut w (w26.setCell ⟨gb319, 1, none⟩ (.slice Ao28 y326.length co28)) g none) := ⟨by repeat (first | (with_reducible first | exact HK.out | apply KeepBut.set_ | apply keep_drewN | apply keep_drew | apply keep_alloc | refine keep_far ?_ GW315.out _ | refine keep_far ?_ GW319.out _) | exact HK.out)⟩
        have n6_ : Aside0 (Below w0.heap.size w0 (w26.setCell ⟨gb319, 1, none⟩ (.slice Ao28 y326.length co28))) := ⟨by repeat (first | (with_reducible first | exact HB.out | apply below_alloc | apply pw_below_drewN | apply below_drew1 | refine below_set ?_ (IsS123.ge HI0.out) | refine below_set ?_ GE315.out | refine below_set ?_ GE319.out) | exact HB.out)⟩
        (try clear HO_320002); (try clear HO328); (try clear BK315); (try clear BK319); (try clear HI0); (try clear HK); (try clear HB)
        generalize (w26.setCell ⟨gb319, 1, none⟩ (.slice Ao28 y326.length co28)) = w30 at n0_ n1_ n2_ n3_ n4_ n5_ n6_ ⊢
        have HO_320002 := n0_
        have HO328 := n1_
        have BK315 := n2_
        have BK319 := n3_
        have HI0 := n4_
        have HK := n5_
        have HB := n6_
        clear n0_ n1_ n2_ n3_ n4_ n5_ n6_
        replace HO_320002 := ak (Kd.R_drew HO_320002.out)
        replace HO328 := ak (Kd.S_drew HO328.out)
        replace BK315 := ak (blk_drew BK315.out)
        replace BK319 := ak (blk_drew BK319.out)
        replace HI0 := ak (IsS123.drew HI0.out)
        replace HK := ak (keep_drew HK.out)
        replace HB := ak (below_drew1 HB.out)
        refine start_ (n := 8) (S := fun w' => w'.cell? ⟨gb319, 0, none⟩ = some (.int .i64 (wrap64 (1 + t316))) ∧ w'.cell? ⟨gb319, 1, none⟩ = some (.slice Ao28 y326.length co28) ∧ w'.cell? ⟨gb319, 2, none⟩ = some (u320002)) (ds := [7]) (bl 8 0) (by kernel_rfl) rfl rfl ⟨bq BK319 0, bq BK319 1, bq BK319 2⟩ (fun hHeld => ?_); refine with_tabW spec_l1Cur_table.tab10 spec_l1Cur_table.bits10 (fun HT_ HW_ => ?_)
        generalize w30.drew = w31 at HO_320002 HO328 BK315 BK319 HI0 HK HB hHeld ⊢
        refine pureA 0 (some 34) 8 1 HT_ ?_
        refine pureA 2 (some 36) 8 5 HT_ ?_
        refine takeA 1 (some 35) 8 7 HT_ HW_ hHeld ?_ (hy := by rintro w' ⟨s0, s1, s2⟩; go_simp; with_reducible rfl)
        refine oneA 3 (some 37) 8 15 HT_ (fun K hK => ?_)
        refine goes_ Try.func113 (by kernel_rfl) rfl #[.pointer (some ⟨g, 0, none⟩), .int .i64 256] (by rfl) rfl rfl (by (try simp only [List.map_toArray, List.map_cons, List.map_nil]); first | done | rfl | (simp only [List.length_drop, List.length_take]; rfl)) ?_
        with_reducible refine (spec_l1Cur_pick.calls g s0_0 t321 t322 256 t329 t330 t331 w0 _ ?side1 ?side2 A17.out).mono ?_
        (case side1 => repeat (first | (with_reducible first | exact HI0.out | apply IsS123.alloc | apply IsS123.drewN | apply IsS123.drew | apply IsS123.set_1 | apply IsS123.set_2 | refine IsS123.far ?_ NB0_315.out _ | refine IsS123.far ?_ NB0_319.out _) | exact HI0.out))
        (case side2 => repeat (first | (with_reducible first | exact HB.out | apply below_alloc | apply pw_below_drewN | apply below_drew1 | refine below_set ?_ (IsS123.ge HI0.out) | refine below_set ?_ GE315.out | refine below_set ?_ GE319.out) | exact HB.out))
        rintro e w32 ⟨rfl, hi, hb, hk⟩
        refine ⟨_, rfl, ?_⟩
        replace HO_320002 := ak (Kd.R_mono (Kd.R_keep (IsS123.apart (show IsS123 w0 _ g s0_0 t321 t322 from by repeat (first | (with_reducible first | exact HI0.out | apply IsS123.alloc | apply IsS123.drewN | apply IsS123.drew | apply IsS123.set_1 | apply IsS123.set_2 | refine IsS123.far ?_ NB0_315.out _ | refine IsS123.far ?_ NB0_319.out _) | exact HI0.out)) (rdl HO_320002) (by decide)) hk (fun _ h => h.2)) (fun _ h => h.1))
        replace BK315 := ak (KeepBut.blk hk (g' := gb315) (blkd BK315) NB315_0.out (by simp))
        replace BK319 := ak (KeepBut.blk hk (g' := gb319) (blkd BK319) NB319_0.out (by simp))
        replace HO328 := ak (Kd.S_mono (Kd.S_keep (IsS123.apartS (show IsS123 w0 _ g s0_0 t321 t322 from by repeat (first | (with_reducible first | exact HI0.out | apply IsS123.alloc | apply IsS123.drewN | apply IsS123.drew | apply IsS123.set_1 | apply IsS123.set_2 | refine IsS123.far ?_ NB0_315.out _ | refine IsS123.far ?_ NB0_319.out _) | exact HI0.out)) (sd HO328) (by decide)) hk (fun _ h => h.2)) (fun _ h => h.1))
        replace HK := ak (KeepBut.trans (by repeat (first | (with_reducible first | exact HK.out | apply KeepBut.set_ | apply keep_drewN | apply keep_drew | apply keep_alloc | refine keep_far ?_ GW315.out _ | refine keep_far ?_ GW319.out _) | exact HK.out)) hk (.inl rfl))
        replace HB := ak (hb)
        replace HI0 := ak (hi)
        (try clear hb); (try clear hb2); (try clear hk); (try clear hi)
        refine hK.out _ _ ⟨bq BK319 0, bq BK319 1, bq BK319 2⟩ (fun hHeld => ?_)
        clear hK K
        refine norm_ (a' := ?_) ?_ ?_
        rotate_left
        ·show Act.put _ (some 37) _ = _
         simp only [Act.put, List.setIfInBounds_toArray, List.set_cons_zero, List.set_cons_succ, i64_w, i32_w]
         rfl
        refine oneA 4 (some 38) 8 31 HT_ (fun K hK => ?_)
        refine value_ (w1 := ?_) (v := ?_) (by rfl) rfl ?_ ?_
        rotate_left 2
        ·go_simp
         constructor
         ·rfl
         ·rfl
        refine hK.out _ _ ⟨(blk_cell (blk_alloc BK319.out _) 0).trans rfl, (blk_cell (blk_alloc BK319.out _) 1).trans rfl, (blk_cell (blk_alloc BK319.out _) 2).trans rfl⟩ (fun hHeld => ?_)
        clear hK K
        refine norm_ (a' := ?_) ?_ ?_
        rotate_left
        ·show Act.put _ (some 38) _ = _
         simp only [Act.put, List.setIfInBounds_toArray, List.set_cons_zero, List.set_cons_succ, i64_w, i32_w]
         rfl
        refine oneA 5 (some 39) 8 63 HT_ (fun K hK => ?_)
        refine Kd.R_append_step (Kd.int .i64) w.heap.size (by rfl) (.tmp 35) (.tmp 38) 22 3 (.int .i64 0) 8 rfl Try.underlying22 info3 rfl (by decide) (by omega) u320002 x320002_2 t329 [.int .i64 t329] (fun _ => True) (fun _ => False) rfl rfl ?aP (fun _ hk => hk.elim) ?aF ?aO (Below.refl _ _) ?aS ?aL ?_
        (case aP => exact rfl)
        (case aF => exact (fun _ _ => trivial))
        (case aO => exact (rdl HO_320002))
        (case aS => exact (keep_size (w := w) (g := g) (row := none) (by repeat (first | (with_reducible first | exact HK.out | apply KeepBut.set_ | apply keep_drewN | apply keep_drew | apply keep_alloc | refine keep_far ?_ GW315.out _ | refine keep_far ?_ GW319.out _) | exact HK.out))))
        (case aL => have := LMc18.out; omega)
        intro v333 w33 ho hb hg hat
        rw [← Ny332.out] at ho
        replace BK315 := ak (blk_grown (blkd BK315) hg (Kd.R_ne HO_320002.out BK315.out (by decide)))
        replace BK319 := ak (blk_grown (blkd BK319) hg (Kd.R_ne HO_320002.out BK319.out (by decide)))
        replace HO328 := ak (Kd.S_after (ok := (fun _ => True)) (by (with_reducible repeat (first | apply Kd.S_alloc | apply Kd.S_drewN | apply Kd.S_drew)); exact Kd.S_mono HO328.out (fun _ hk => ⟨trivial, hk⟩)) hg hat)
        replace HB := ak (below_weaken (by repeat (first | (with_reducible first | exact HB.out | apply below_alloc | apply pw_below_drewN | apply below_drew1 | refine below_set ?_ (IsS123.ge HI0.out) | refine below_set ?_ GE315.out | refine below_set ?_ GE319.out) | exact HB.out)) HL.out hb)
        replace HI0 := ak (IsS123.grown (by repeat (first | (with_reducible first | exact HI0.out | apply IsS123.alloc | apply IsS123.drewN | apply IsS123.drew | apply IsS123.set_1 | apply IsS123.set_2 | refine IsS123.far ?_ NB0_315.out _ | refine IsS123.far ?_ NB0_319.out _) | exact HI0.out)) hg (IsS123.own_ne HI0.out HO_320002.out (by decide)))
        replace HK := ak (KeepBut.trans (by repeat (first | (with_reducible first | exact HK.out | apply KeepBut.set_ | apply keep_drewN | apply keep_drew | apply keep_alloc | refine keep_far ?_ GW315.out _ | refine keep_far ?_ GW319.out _) | exact HK.out)) (KeepBut.of_grown hg g) (Kd.R_base2 HO_320002.out))
        have HO334 := ak (ho); clear HO_320002; clear ho hb hg hat
        obtain ⟨Ao34, co34, eo34⟩ := Kd.R_slice HO334.out
        (first | subst eo34 | (injection eo34 with f1_ f2_ f3_; have f4_ := f1_.symm; have f5_ := f3_.symm; clear f1_ f2_ f3_; subst f4_; subst f5_))
        refine hK.out _ _ ⟨bq BK319 0, bq BK319 1, bq BK319 2⟩ (fun hHeld => ?_)
        clear hK K
        refine norm_ (a' := ?_) ?_ ?_
        rotate_left
        ·show Act.put _ (some 39) _ = _
         simp only [Act.put, List.setIfInBounds_toArray, List.set_cons_zero, List.set_cons_succ, i64_w, i32_w]
         rfl
        refine pureA 6 (some 40) 8 127 HT_ ?_
        refine last_ (i := 7) (N := none) (bl 8 255) rfl rfl (one_of HT_.out (by kernel_rfl)) (by decide) (fun K hK => ?_)
        have hs35 : w33.cell? ⟨gb319, 2, none⟩ = some (u320002) := bq BK319 2
        have hfs35 := blk_frozen BK319.out 2
        have hns35_0 := NB315_319.out; have hms35_0 := NB319_315.out
        refine skip_ (w1 := ?_) (by rfl) rfl ?_ ?_
        rotate_left
        ·go_simp
         rfl
        refine hK.out _ _ ?_
        clear hK K
        refine done_ (done_of HT_.out (by kernel_rfl)) ?_
        try go_wp2
        go_roundg k2
        case measure => have := HK1.out; have := HK2.out; omega
        case rel => exact ⟨(wrap64 (x5_2 + 1)), (t330), (t331), (y326), (y332), (.slice Ao28 y326.length co28), (.slice Ao34 y332.length co34), er, H', ⟨by have := HK1.out; have := HK2.out; omega⟩, ⟨by (with_reducible repeat (first | apply Kd.S_alloc | apply Kd.S_drewN | apply Kd.S_drew)); exact Kd.S_mono (Kd.S_far (p := ⟨gb319, 2, none⟩) (Kd.S_types HO328.out BK319.out (by decide)) (fun _ hk => hk.2) (.slice Ao34 y332.length co34)) (fun _ hk => hk.1.2)⟩, ⟨by (with_reducible repeat (first | apply Kd.R_alloc | apply Kd.R_drewN | apply Kd.R_drew)); exact Kd.R_mono (Kd.R_far (p := ⟨gb319, 2, none⟩) (Kd.R_types HO334.out BK319.out (by decide)) (fun _ hk => hk.2) (.slice Ao34 y332.length co34)) (fun _ hk => trivial)⟩, ⟨by (with_reducible repeat (first | refine blk_drewN ?_ _ | refine blk_drew ?_ | refine blk_alloc ?_ _)); refine blk_far ?_ NB315_319.out _; (with_reducible repeat (first | refine blk_drewN ?_ _ | refine blk_drew ?_ | refine blk_alloc ?_ _)); exact BK315.out⟩, ⟨by (with_reducible repeat (first | refine blk_drewN ?_ _ | refine blk_drew ?_ | refine blk_alloc ?_ _)); refine blk_put (cs := #[.int .i64 (wrap64 (1 + t316)), .slice Ao28 y326.length co28, u320002]) ?_ 2 _ rfl; (with_reducible repeat (first | refine blk_drewN ?_ _ | refine blk_drew ?_ | refine blk_alloc ?_ _)); exact BK319.out⟩, ⟨by repeat (first | (with_reducible first | exact HI0.out | apply IsS123.alloc | apply IsS123.drewN | apply IsS123.drew | apply IsS123.set_1 | apply IsS123.set_2 | refine IsS123.far ?_ NB0_315.out _ | refine IsS123.far ?_ NB0_319.out _) | exact HI0.out)⟩, ⟨by repeat (first | (with_reducible first | exact HK.out | apply KeepBut.set_ | apply keep_drewN | apply keep_drew | apply keep_alloc | refine keep_far ?_ GW315.out _ | refine keep_far ?_ GW319.out _) | exact HK.out)⟩, ⟨by repeat (first | (with_reducible first | exact HB.out | apply below_alloc | apply pw_below_drewN | apply below_drew1 | refine below_set ?_ (IsS123.ge HI0.out) | refine below_set ?_ GE315.out | refine below_set ?_ GE319.out) | exact HB.out)⟩⟩
       ·replace c15 := Bool.eq_false_iff.mpr c15
        subst c15
        have H1 : (spec_l1Cur_table.l1 k2 x4_1 (wrap64 (x5_2 + 1)) s0_0 t321 t322 (wrap64 (1 + t316)) x320001_2 x320002_2) = some (r1, r2, r3, r4, r5) := by rw [if_neg (show ¬ (false = true) by decide)] at H; exact H
        clear H
        have H := H1
        clear H1
        have H' := Aside0.mk H
        clear H; have hnb36 := NB319_315.out; have hnc36 := NB315_319.out; have hnb37 := NB319_0.out; have hnc37 := NB0_319.out; obtain ⟨hcz38_0, hcz38_1, hcz38_2, hfz38_0, hfz38_1, hfz38_2⟩ := box3 BK319
        go_wp2_with (first | ((with_reducible refine gate_callee (f := 131) rfl ?_); refine goesLa (some 25) rfl Try.func131 #[.pointer (some ⟨g, 0, none⟩), .int .i64 2] rfl ?_; (with_reducible refine (spec_l1Cur_one.calls g s0_0 x1001_2 x1002_2 2 false t321 t322 w0 _ ?side1 ?side2 A14.out).mono ?_); (case side1 => repeat (first | (with_reducible first | exact HI0.out | apply IsS123.alloc | apply IsS123.drewN | apply IsS123.drew | apply IsS123.set_1 | apply IsS123.set_2 | refine IsS123.far ?_ NB0_315.out _ | refine IsS123.far ?_ NB0_319.out _) | exact HI0.out)); (case side2 => repeat (first | (with_reducible first | exact HB.out | apply below_alloc | apply pw_below_drewN | apply below_drew1 | refine below_set ?_ (IsS123.ge HI0.out) | refine below_set ?_ GE315.out | refine below_set ?_ GE319.out) | exact HB.out)); rintro e w39 ⟨rfl, hi, hb, hk⟩; refine ⟨_, rfl, ?_⟩; replace HO_320001 := ak (Kd.S_mono (Kd.S_keep (IsS123.apartS (show IsS123 w0 _ g s0_0 x1001_2 x1002_2 from by repeat (first | (with_reducible first | exact HI0.out | apply IsS123.alloc | apply IsS123.drewN | apply IsS123.drew | apply IsS123.set_1 | apply IsS123.set_2 | refine IsS123.far ?_ NB0_315.out _ | refine IsS123.far ?_ NB0_319.out _) | exact HI0.out)) (sd HO_320001) (by decide)) hk (fun _ h => h.2)) (fun _ h => h.1)); replace HO_320002 := ak (Kd.R_mono (Kd.R_keep (IsS123.apart (show IsS123 w0 _ g s0_0 x1001_2 x1002_2 from by repeat (first | (with_reducible first | exact HI0.out | apply IsS123.alloc | apply IsS123.drewN | apply IsS123.drew | apply IsS123.set_1 | apply IsS123.set_2 | refine IsS123.far ?_ NB0_315.out _ | refine IsS123.far ?_ NB0_319.out _) | exact HI0.out)) (rdl HO_320002) (by decide)) hk (fun _ h => h.2)) (fun _ h => h.1)); replace BK315 := ak (KeepBut.blk hk (g' := gb315) (blkd BK315) NB315_0.out (by simp)); replace BK319 := ak (KeepBut.blk hk (g' := gb319) (blkd BK319) NB319_0.out (by simp)); replace HK := ak (KeepBut.trans (by repeat (first | (with_reducible first | exact HK.out | apply KeepBut.set_ | apply keep_drewN | apply keep_drew | apply keep_alloc | refine keep_far ?_ GW315.out _ | refine keep_far ?_ GW319.out _) | exact HK.out)) hk (.inl rfl)); replace HB := ak (hb); replace HI0 := ak (hi); (try clear hb); (try clear hk); (try clear hi)))
        go_roundg k2
        case measure => have := HK1.out; have := HK2.out; omega
        case rel => exact ⟨(wrap64 (x5_2 + 1)), (t321), (t322), (x320001_2), (x320002_2), (u320001), (u320002), er, H', ⟨by have := HK1.out; have := HK2.out; omega⟩, ⟨sd HO_320001⟩, ⟨rdl HO_320002⟩, ⟨blkd BK315⟩, ⟨blkd BK319⟩, ⟨by repeat (first | (with_reducible first | exact HI0.out | apply IsS123.alloc | apply IsS123.drewN | apply IsS123.drew | apply IsS123.set_1 | apply IsS123.set_2 | refine IsS123.far ?_ NB0_315.out _ | refine IsS123.far ?_ NB0_319.out _) | exact HI0.out)⟩, ⟨by repeat (first | (with_reducible first | exact HK.out | apply KeepBut.set_ | apply keep_drewN | apply keep_drew | apply keep_alloc | refine keep_far ?_ GW315.out _ | refine keep_far ?_ GW319.out _) | exact HK.out)⟩, ⟨by repeat (first | (with_reducible first | exact HB.out | apply below_alloc | apply pw_below_drewN | apply below_drew1 | refine below_set ?_ (IsS123.ge HI0.out) | refine below_set ?_ GE315.out | refine below_set ?_ GE319.out) | exact HB.out)⟩⟩
      ·rw [if_neg c13] at H
       have c13b0 : decide (x5_2 < (wrap64 (1 + t316))) = false := decide_eq_false c13
       clear c13
       have H' := Aside0.mk H
       clear H; have hnb40 := NB319_315.out; have hnc40 := NB315_319.out; have hnb41 := NB319_0.out; have hnc41 := NB0_319.out; obtain ⟨hcz42_0, hcz42_1, hcz42_2, hfz42_0, hfz42_1, hfz42_2⟩ := box3 BK319; go_wp2
       go_roundg k2
       case measure => have := HK1.out; have := HK2.out; omega
       case rel => exact ⟨(wrap64 (x4_1 + 1)), (x1001_2), (x1002_2), (x320001_2), (x320002_2), (u320001), (u320002), er, H', ⟨by have := HK1.out; have := HK2.out; omega⟩, ⟨sd HO_320001⟩, ⟨rdl HO_320002⟩, ⟨blkd BK315⟩, ⟨blkd BK319⟩, ⟨by repeat (first | (with_reducible first | exact HI0.out | apply IsS123.alloc | apply IsS123.drewN | apply IsS123.drew | apply IsS123.set_1 | apply IsS123.set_2 | refine IsS123.far ?_ NB0_315.out _ | refine IsS123.far ?_ NB0_319.out _) | exact HI0.out)⟩, ⟨by repeat (first | (with_reducible first | exact HK.out | apply KeepBut.set_ | apply keep_drewN | apply keep_drew | apply keep_alloc | refine keep_far ?_ GW315.out _ | refine keep_far ?_ GW319.out _) | exact HK.out)⟩, ⟨by repeat (first | (with_reducible first | exact HB.out | apply below_alloc | apply pw_below_drewN | apply below_drew1 | refine below_set ?_ (IsS123.ge HI0.out) | refine below_set ?_ GE315.out | refine below_set ?_ GE319.out) | exact HB.out)⟩⟩
   ·rw [if_neg c9] at H
    have c9b0 : decide (x4_1 < (wrap64 (1 + t316))) = false := decide_eq_false c9
    clear c9; replace H := bS H; obtain ⟨⟨t335, t336, t337⟩, A43, H⟩ := H
    replace H : (if t335 = 0 then ((spec_l1Cur_among.f s0_0 t336 t337 (([0, 6, 7] : List Int))).bind fun bt341 => (some (bt341.1, x320001_1, x320002_1, bt341.2.1, bt341.2.2))) else (if t335 = 1 then (if x320002_1.length < 17592186044416 then (some ((wrap64 (1 + t316)), x320001_1, (x320002_1 ++ [5]), t336, t337)) else (none)) else (if t335 = 2 then (if x320001_1.length < 5864062014805 then (if x320002_1.length < 17592186044416 then (some ((wrap64 (1 + t316)), (x320001_1 ++ [(([1, 0] : List Int))]), (x320002_1 ++ [5]), t336, t337)) else (none)) else (none)) else (some ((wrap64 (1 + t316)), x320001_1, x320002_1, t336, t337))))) = some (r1, r2, r3, r4, r5) := H
    by_cases c44 : t335 = 0
    ·rw [if_pos c44] at H
     have c44b0 : (t335 == 0) = true := beq_iff_eq.mpr c44
     have c44b1 : (t335 != 0) = false := bne_eq_false_iff_eq.mpr c44
     clear c44
     obtain ⟨y338, hy_⟩ : ∃ y_ : List Int, y_ = (([0, 6, 7] : List Int)) := ⟨_, rfl⟩
     replace H : ((spec_l1Cur_among.f s0_0 t336 t337 y338).bind fun bt341 => (some (bt341.1, x320001_1, x320002_1, bt341.2.1, bt341.2.2))) = some (r1, r2, r3, r4, r5) := yH
     have Ny338 := ak hy_; clear hy_; replace H := bS H; obtain ⟨⟨t341, t342, t343⟩, A45, H⟩ := H
     replace H : (some (t341, x320001_1, x320002_1, t342, t343)) = some (r1, r2, r3, r4, r5) := H
     simp only [Option.some.injEq, Prod.mk.injEq] at H
     obtain ⟨rfl, rfl, rfl, rfl, rfl⟩ := H; have hnb46 := NB319_315.out; have hnc46 := NB315_319.out; have hnb47 := NB319_0.out; have hnc47 := NB0_319.out; obtain ⟨hcz48_0, hcz48_1, hcz48_2, hfz48_0, hfz48_1, hfz48_2⟩ := box3 BK319
     go_wp2_with (first | ((with_reducible refine gate_callee (f := 113) rfl ?_); refine goesLa (some 42) rfl Try.func113 #[.pointer (some ⟨g, 0, none⟩), .int .i64 30] rfl ?_; (with_reducible refine (spec_l1Cur_pick.calls g s0_0 x1001_1 x1002_1 30 t335 t336 t337 w0 _ ?side1 ?side2 A43.out).mono ?_); (case side1 => repeat (first | (with_reducible first | exact HI0.out | apply IsS123.alloc | apply IsS123.drewN | apply IsS123.drew | apply IsS123.set_1 | apply IsS123.set_2 | refine IsS123.far ?_ NB0_315.out _ | refine IsS123.far ?_ NB0_319.out _) | exact HI0.out)); (case side2 => repeat (first | (with_reducible first | exact HB.out | apply below_alloc | apply pw_below_drewN | apply below_drew1 | refine below_set ?_ (IsS123.ge HI0.out) | refine below_set ?_ GE315.out | refine below_set ?_ GE319.out) | exact HB.out)); rintro e w49 ⟨rfl, hi, hb, hk⟩; refine ⟨_, rfl, ?_⟩; replace HO_320001 := ak (Kd.S_mono (Kd.S_keep (IsS123.apartS (show IsS123 w0 _ g s0_0 x1001_1 x1002_1 from by repeat (first | (with_reducible first | exact HI0.out | apply IsS123.alloc | apply IsS123.drewN | apply IsS123.drew | apply IsS123.set_1 | apply IsS123.set_2 | refine IsS123.far ?_ NB0_315.out _ | refine IsS123.far ?_ NB0_319.out _) | exact HI0.out)) (sd HO_320001) (by decide)) hk (fun _ h => h.2)) (fun _ h => h.1)); replace HO_320002 := ak (Kd.R_mono (Kd.R_keep (IsS123.apart (show IsS123 w0 _ g s0_0 x1001_1 x1002_1 from by repeat (first | (with_reducible first | exact HI0.out | apply IsS123.alloc | apply IsS123.drewN | apply IsS123.drew | apply IsS123.set_1 | apply IsS123.set_2 | refine IsS123.far ?_ NB0_315.out _ | refine IsS123.far ?_ NB0_319.out _) | exact HI0.out)) (rdl HO_320002) (by decide)) hk (fun _ h => h.2)) (fun _ h => h.1)); replace BK315 := ak (KeepBut.blk hk (g' := gb315) (blkd BK315) NB315_0.out (by simp)); replace BK319 := ak (KeepBut.blk hk (g' := gb319) (blkd BK319) NB319_0.out (by simp)); replace HK := ak (KeepBut.trans (by repeat (first | (with_reducible first | exact HK.out | apply KeepBut.set_ | apply keep_drewN | apply keep_drew | apply keep_alloc | refine keep_far ?_ GW315.out _ | refine keep_far ?_ GW319.out _) | exact HK.out)) hk (.inl rfl)); replace HB := ak (hb); replace HI0 := ak (hi); (try clear hb); (try clear hk); (try clear hi)) | ((with_reducible refine gate_dst (N := 46) rfl ?_); refine Kd.R_lit (Kd.int .i64) _ 3 ?hg (N := 46) ?hd (xs := ([0, 6, 7] : List Int)) (inner := [.int .i64 0, .int .i64 6, .int .i64 7]) (ok := fun _ => True) (okp := fun _ => True) ?hr ?hp (fun _ hk => hk) trivial (Below.refl _ _) (Nat.le_refl _) (by simp) ?_; (case hd => rfl); (case hg => rfl); (case hr => first | (go_simp; done) | (go_simp; rfl)); (case hp => exact (Reps.one (show Kd.M (Kd.int .i64) _ _ _ 0 [.int .i64 0] from rfl) (Reps.one (show Kd.M (Kd.int .i64) _ _ _ 6 [.int .i64 6] from rfl) (Reps.one (show Kd.M (Kd.int .i64) _ _ _ 7 [.int .i64 7] from rfl) (Reps.none _ _))))); intro v339 w50 ho51 hb hg_ hnew_; clear hg_ hnew_; (first | rw [← Ny338.out] at ho51 | (simp only [Int.reduceToNat] at ho51; rw [← Ny338.out] at ho51)); replace HO_320001 := ak (Kd.S_elder' (sd HO_320001) (Kd.R_base ho51) hb); have HO340 := ak (Kd.R_lower (Kd.R_new' ho51 (Kd.R_lt (rdl HO_320002))) (keep_size (w := w) (g := g) (row := none) (by repeat (first | (with_reducible first | exact HK.out | apply KeepBut.set_ | apply keep_drewN | apply keep_drew | apply keep_alloc | refine keep_far ?_ GW315.out _ | refine keep_far ?_ GW319.out _) | exact HK.out)))); replace HO_320002 := ak (Kd.R_elder' (rdl HO_320002) (Kd.R_base ho51) hb); replace BK315 := ak (blk_below (blkd BK315) hb); replace BK319 := ak (blk_below (blkd BK319) hb); replace HK := ak (KeepBut.trans (by repeat (first | (with_reducible first | exact HK.out | apply KeepBut.set_ | apply keep_drewN | apply keep_drew | apply keep_alloc | refine keep_far ?_ GW315.out _ | refine keep_far ?_ GW319.out _) | exact HK.out)) (KeepBut.of_below hb g none) (.inl rfl)); replace HB := ak (below_step (by repeat (first | (with_reducible first | exact HB.out | apply below_alloc | apply pw_below_drewN | apply below_drew1 | refine below_set ?_ (IsS123.ge HI0.out) | refine below_set ?_ GE315.out | refine below_set ?_ GE319.out) | exact HB.out)) hb); replace HI0 := ak (IsS123.below (by repeat (first | (with_reducible first | exact HI0.out | apply IsS123.alloc | apply IsS123.drewN | apply IsS123.drew | apply IsS123.set_1 | apply IsS123.set_2 | refine IsS123.far ?_ NB0_315.out _ | refine IsS123.far ?_ NB0_319.out _) | exact HI0.out)) hb); clear hb ho51; obtain ⟨Ao52, co52, eo52⟩ := Kd.R_slice HO340.out; subst eo52) | ((with_reducible refine gate_callee (f := 132) rfl ?_); refine goesLa (some 47) rfl Try.func132 #[.pointer (some ⟨g, 0, none⟩), .slice Ao52 y338.length co52] rfl ?_; (with_reducible refine (spec_l1Cur_among.calls g s0_0 t336 t337 _ _ y338 t341 t342 t343 w0 _ ?side1 ?side2 ?side3 ?side4 ?side5 A45.out).mono ?_); (case side1 => repeat (first | (with_reducible first | exact HI0.out | apply IsS123.alloc | apply IsS123.drewN | apply IsS123.drew | apply IsS123.set_1 | apply IsS123.set_2 | refine IsS123.far ?_ NB0_315.out _ | refine IsS123.far ?_ NB0_319.out _) | exact HI0.out)); (case side2 => repeat (first | (with_reducible first | exact HB.out | apply below_alloc | apply pw_below_drewN | apply below_drew1 | refine below_set ?_ (IsS123.ge HI0.out) | refine below_set ?_ GE315.out | refine below_set ?_ GE319.out) | exact HB.out)); (case side3 => exact cd (Kd.R_reads' HO340.out).2.2); (case side4 => exact (Kd.R_reads' HO340.out).2.1); (case side5 => exact far_slice (IsS123.own_ne HI0.out HO340.out (by decide))); rintro e w53 ⟨rfl, hi, hb, hk⟩; refine ⟨_, rfl, ?_⟩; replace HO_320001 := ak (Kd.S_mono (Kd.S_keep (IsS123.apartS (show IsS123 w0 _ g s0_0 t336 t337 from by repeat (first | (with_reducible first | exact HI0.out | apply IsS123.alloc | apply IsS123.drewN | apply IsS123.drew | apply IsS123.set_1 | apply IsS123.set_2 | refine IsS123.far ?_ NB0_315.out _ | refine IsS123.far ?_ NB0_319.out _) | exact HI0.out)) (sd HO_320001) (by decide)) hk (fun _ h => h.2)) (fun _ h => h.1)); replace HO_320002 := ak (Kd.R_mono (Kd.R_keep (IsS123.apart (show IsS123 w0 _ g s0_0 t336 t337 from by repeat (first | (with_reducible first | exact HI0.out | apply IsS123.alloc | apply IsS123.drewN | apply IsS123.drew | apply IsS123.set_1 | apply IsS123.set_2 | refine IsS123.far ?_ NB0_315.out _ | refine IsS123.far ?_ NB0_319.out _) | exact HI0.out)) (rdl HO_320002) (by decide)) hk (fun _ h => h.2)) (fun _ h => h.1)); replace BK315 := ak (KeepBut.blk hk (g' := gb315) (blkd BK315) NB315_0.out (by simp)); replace BK319 := ak (KeepBut.blk hk (g' := gb319) (blkd BK319) NB319_0.out (by simp)); replace HO340 := ak (Kd.R_mono (Kd.R_keep (IsS123.apart (show IsS123 w0 _ g s0_0 t336 t337 from by repeat (first | (with_reducible first | exact HI0.out | apply IsS123.alloc | apply IsS123.drewN | apply IsS123.drew | apply IsS123.set_1 | apply IsS123.set_2 | refine IsS123.far ?_ NB0_315.out _ | refine IsS123.far ?_ NB0_319.out _) | exact HI0.out)) (rdl HO340) (by decide)) hk (fun _ h => h.2)) (fun _ h => h.1)); replace HK := ak (KeepBut.trans (by repeat (first | (with_reducible first | exact HK.out | apply KeepBut.set_ | apply keep_drewN | apply keep_drew | apply keep_alloc | refine keep_far ?_ GW315.out _ | refine keep_far ?_ GW319.out _) | exact HK.out)) hk (.inl rfl)); replace HB := ak (hb); replace HI0 := ak (hi); (try clear hb); (try clear hk); (try clear hi); obtain ⟨hcz54_0, hcz54_1, hcz54_2, hfz54_0, hfz54_1, hfz54_2⟩ := box3 BK319; have hnb55 := NB315_0.out; have hnc55 := NB0_315.out; obtain ⟨hcz56_0, hcz56_1, hcz56_2, hfz56_0, hfz56_1, hfz56_2⟩ := box3 BK315; obtain ⟨Ao57, co57, eo57⟩ := Kd.S_slice HO_320001.out; subst eo57; obtain ⟨Ao58, co58, eo58⟩ := Kd.R_slice HO_320002.out; subst eo58))
     refine bodyPost_ret (results_cell_row rfl _ _ gb315 38 #[.int .i64 t341, .slice Ao57 x320001_1.length co57, .slice Ao58 x320002_1.length co58] (0, 0) _ rfl (by (with_reducible repeat (first | refine blk_drewN ?_ _ | refine blk_drew ?_ | refine blk_alloc ?_ _)); refine blk_put (cs := #[.int .i64 t341, .slice Ao57 x320001_1.length co57, .slice none 0 0]) ?_ 2 _ rfl; (with_reducible repeat (first | refine blk_drewN ?_ _ | refine blk_drew ?_ | refine blk_alloc ?_ _)); refine blk_put (cs := #[.int .i64 t341, .slice none 0 0, .slice none 0 0]) ?_ 1 _ rfl; (with_reducible repeat (first | refine blk_drewN ?_ _ | refine blk_drew ?_ | refine blk_alloc ?_ _)); refine blk_put (cs := #[.int .i64 0, .slice none 0 0, .slice none 0 0]) ?_ 0 _ rfl; (with_reducible repeat (first | refine blk_drewN ?_ _ | refine blk_drew ?_ | refine blk_alloc ?_ _)); refine blk_far ?_ NB315_319.out _; (with_reducible repeat (first | refine blk_drewN ?_ _ | refine blk_drew ?_ | refine blk_alloc ?_ _)); exact BK315.out) Try.underlying38 rfl (by kernel_rfl)) rfl ?_
     exact ⟨_, _, er2, by (with_reducible repeat (first | apply Kd.S_alloc | apply Kd.S_drewN | apply Kd.S_drew)); exact Kd.S_mono (Kd.S_far (p := ⟨gb315, 2, none⟩) (Kd.S_far (p := ⟨gb315, 1, none⟩) (Kd.S_far (p := ⟨gb315, 0, none⟩) (Kd.S_far (p := ⟨gb319, 0, none⟩) (Kd.S_types (Kd.S_types HO_320001.out BK319.out (by decide)) BK315.out (by decide)) (fun _ hk => hk.1.2) (.int .i64 t341)) (fun _ hk => hk.2) (.int .i64 t341)) (fun _ hk => hk.2) (.slice Ao57 x320001_1.length co57)) (fun _ hk => hk.2) (.slice Ao58 x320002_1.length co58)) (fun _ hk => hk.1.1.1), by (with_reducible repeat (first | apply Kd.R_alloc | apply Kd.R_drewN | apply Kd.R_drew)); exact Kd.R_mono (Kd.R_far (p := ⟨gb315, 2, none⟩) (Kd.R_far (p := ⟨gb315, 1, none⟩) (Kd.R_far (p := ⟨gb315, 0, none⟩) (Kd.R_far (p := ⟨gb319, 0, none⟩) (Kd.R_types (Kd.R_types HO_320002.out BK319.out (by decide)) BK315.out (by decide)) (fun _ hk => hk.1.2) (.int .i64 t341)) (fun _ hk => hk.2) (.int .i64 t341)) (fun _ hk => hk.2) (.slice Ao57 x320001_1.length co57)) (fun _ hk => hk.2) (.slice Ao58 x320002_1.length co58)) (fun _ hk => trivial), by repeat (first | (with_reducible first | exact HI0.out | apply IsS123.alloc | apply IsS123.drewN | apply IsS123.drew | apply IsS123.set_1 | apply IsS123.set_2 | refine IsS123.far ?_ NB0_315.out _ | refine IsS123.far ?_ NB0_319.out _) | exact HI0.out), by repeat (first | (with_reducible first | exact HB.out | apply below_alloc | apply pw_below_drewN | apply below_drew1 | refine below_set ?_ (IsS123.ge HI0.out) | refine below_set ?_ GE315.out | refine below_set ?_ GE319.out) | exact HB.out), by repeat (first | (with_reducible first | exact HK.out | apply KeepBut.set_ | apply keep_drewN | apply keep_drew | apply keep_alloc | refine keep_far ?_ GW315.out _ | refine keep_far ?_ GW319.out _) | exact HK.out)⟩
    ·rw [if_neg c44] at H
     have c44b0 : (t335 == 0) = false := beq_eq_false_iff_ne.mpr c44
     have c44b1 : (t335 != 0) = true := bne_iff_ne.mpr c44
     by_cases c59 : t335 = 1
     ·rw [if_pos c59] at H
      have c59b0 : (t335 == 1) = true := beq_iff_eq.mpr c59
      have c59b1 : (t335 != 1) = false := bne_eq_false_iff_eq.mpr c59
      clear c59; replace H := ifS H; obtain ⟨c60, H⟩ := H; have LMc60 := Aside0.mk c60; clear c60
      obtain ⟨y344, hy_⟩ : ∃ y_ : List Int, y_ = (x320002_1 ++ [5]) := ⟨_, rfl⟩
      replace H : (some ((wrap64 (1 + t316)), x320001_1, y344, t336, t337)) = some (r1, r2, r3, r4, r5) := yH
      have Ny344 := ak hy_; clear hy_
      simp only [Option.some.injEq, Prod.mk.injEq] at H
      obtain ⟨rfl, rfl, rfl, rfl, rfl⟩ := H; have hnb61 := NB319_315.out; have hnc61 := NB315_319.out; have hnb62 := NB319_0.out; have hnc62 := NB0_319.out; obtain ⟨hcz63_0, hcz63_1, hcz63_2, hfz63_0, hfz63_1, hfz63_2⟩ := box3 BK319
      go_wp2_with (first | ((with_reducible refine gate_callee (f := 113) rfl ?_); refine goesLa (some 42) rfl Try.func113 #[.pointer (some ⟨g, 0, none⟩), .int .i64 30] rfl ?_; (with_reducible refine (spec_l1Cur_pick.calls g s0_0 x1001_1 x1002_1 30 t335 t336 t337 w0 _ ?side1 ?side2 A43.out).mono ?_); (case side1 => repeat (first | (with_reducible first | exact HI0.out | apply IsS123.alloc | apply IsS123.drewN | apply IsS123.drew | apply IsS123.set_1 | apply IsS123.set_2 | refine IsS123.far ?_ NB0_315.out _ | refine IsS123.far ?_ NB0_319.out _) | exact HI0.out)); (case side2 => repeat (first | (with_reducible first | exact HB.out | apply below_alloc | apply pw_below_drewN | apply below_drew1 | refine below_set ?_ (IsS123.ge HI0.out) | refine below_set ?_ GE315.out | refine below_set ?_ GE319.out) | exact HB.out)); rintro e w64 ⟨rfl, hi, hb, hk⟩; refine ⟨_, rfl, ?_⟩; replace HO_320001 := ak (Kd.S_mono (Kd.S_keep (IsS123.apartS (show IsS123 w0 _ g s0_0 x1001_1 x1002_1 from by repeat (first | (with_reducible first | exact HI0.out | apply IsS123.alloc | apply IsS123.drewN | apply IsS123.drew | apply IsS123.set_1 | apply IsS123.set_2 | refine IsS123.far ?_ NB0_315.out _ | refine IsS123.far ?_ NB0_319.out _) | exact HI0.out)) (sd HO_320001) (by decide)) hk (fun _ h => h.2)) (fun _ h => h.1)); replace HO_320002 := ak (Kd.R_mono (Kd.R_keep (IsS123.apart (show IsS123 w0 _ g s0_0 x1001_1 x1002_1 from by repeat (first | (with_reducible first | exact HI0.out | apply IsS123.alloc | apply IsS123.drewN | apply IsS123.drew | apply IsS123.set_1 | apply IsS123.set_2 | refine IsS123.far ?_ NB0_315.out _ | refine IsS123.far ?_ NB0_319.out _) | exact HI0.out)) (rdl HO_320002) (by decide)) hk (fun _ h => h.2)) (fun _ h => h.1)); replace BK315 := ak (KeepBut.blk hk (g' := gb315) (blkd BK315) NB315_0.out (by simp)); replace BK319 := ak (KeepBut.blk hk (g' := gb319) (blkd BK319) NB319_0.out (by simp)); replace HK := ak (KeepBut.trans (by repeat (first | (with_reducible first | exact HK.out | apply KeepBut.set_ | apply keep_drewN | apply keep_drew | apply keep_alloc | refine keep_far ?_ GW315.out _ | refine keep_far ?_ GW319.out _) | exact HK.out)) hk (.inl rfl)); replace HB := ak (hb); replace HI0 := ak (hi); (try clear hb); (try clear hk); (try clear hi); obtain ⟨hcz65_0, hcz65_1, hcz65_2, hfz65_0, hfz65_1, hfz65_2⟩ := box3 BK319) | ((with_reducible refine gate_builtin (b := .append) (xs := #[.tmp 52, .tmp 53]) rfl ?_); at_builtin; refine Kd.R_append (Kd.int .i64) w.heap.size rfl (.tmp 52) (.tmp 53) 22 3 (.int .i64 0) 8 rfl Try.underlying22 info3 rfl (by decide) (by omega) u320002 x320002_1 5 [.int .i64 5] (fun _ => True) (fun _ => False) rfl rfl ?aP (fun _ hk => hk.elim) ?aF ?aO (Below.refl _ _) ?aS ?aL ?_; (case aP => exact rfl); (case aF => exact (fun _ _ => trivial)); (case aO => exact (rdl HO_320002)); (case aS => exact (keep_size (w := w) (g := g) (row := none) (by repeat (first | (with_reducible first | exact HK.out | apply KeepBut.set_ | apply keep_drewN | apply keep_drew | apply keep_alloc | refine keep_far ?_ GW315.out _ | refine keep_far ?_ GW319.out _) | exact HK.out)))); (case aL => have := LMc60.out; omega); intro v345 w66 ho hb hg hat; rw [← Ny344.out] at ho; replace HO_320001 := ak (Kd.S_after (ok := (fun _ => True)) (by (with_reducible repeat (first | apply Kd.S_alloc | apply Kd.S_drewN | apply Kd.S_drew)); exact Kd.S_mono HO_320001.out (fun _ hk => ⟨trivial, hk⟩)) hg hat); replace BK315 := ak (blk_grown (blkd BK315) hg (Kd.R_ne HO_320002.out BK315.out (by decide))); replace BK319 := ak (blk_grown (blkd BK319) hg (Kd.R_ne HO_320002.out BK319.out (by decide))); replace HB := ak (below_weaken (by repeat (first | (with_reducible first | exact HB.out | apply below_alloc | apply pw_below_drewN | apply below_drew1 | refine below_set ?_ (IsS123.ge HI0.out) | refine below_set ?_ GE315.out | refine below_set ?_ GE319.out) | exact HB.out)) HL.out hb); replace HI0 := ak (IsS123.grown (by repeat (first | (with_reducible first | exact HI0.out | apply IsS123.alloc | apply IsS123.drewN | apply IsS123.drew | apply IsS123.set_1 | apply IsS123.set_2 | refine IsS123.far ?_ NB0_315.out _ | refine IsS123.far ?_ NB0_319.out _) | exact HI0.out)) hg (IsS123.own_ne HI0.out HO_320002.out (by decide))); replace HK := ak (KeepBut.trans (by repeat (first | (with_reducible first | exact HK.out | apply KeepBut.set_ | apply keep_drewN | apply keep_drew | apply keep_alloc | refine keep_far ?_ GW315.out _ | refine keep_far ?_ GW319.out _) | exact HK.out)) (KeepBut.of_grown hg g) (Kd.R_base2 HO_320002.out)); have HO346 := ak (ho); clear HO_320002; clear ho hb hg hat; obtain ⟨Ao67, co67, eo67⟩ := Kd.R_slice HO346.out; subst eo67; obtain ⟨hcz68_0, hcz68_1, hcz68_2, hfz68_0, hfz68_1, hfz68_2⟩ := box3 BK319; have hnb69 := NB315_0.out; have hnc69 := NB0_315.out; obtain ⟨hcz70_0, hcz70_1, hcz70_2, hfz70_0, hfz70_1, hfz70_2⟩ := box3 BK315; obtain ⟨Ao71, co71, eo71⟩ := Kd.S_slice HO_320001.out; subst eo71))
      refine bodyPost_ret (results_cell_row rfl _ _ gb315 38 #[.int .i64 (wrap64 (1 + t316)), .slice Ao71 x320001_1.length co71, .slice Ao67 y344.length co67] (0, 0) _ rfl (by (with_reducible repeat (first | refine blk_drewN ?_ _ | refine blk_drew ?_ | refine blk_alloc ?_ _)); refine blk_put (cs := #[.int .i64 (wrap64 (1 + t316)), .slice Ao71 x320001_1.length co71, .slice none 0 0]) ?_ 2 _ rfl; (with_reducible repeat (first | refine blk_drewN ?_ _ | refine blk_drew ?_ | refine blk_alloc ?_ _)); refine blk_put (cs := #[.int .i64 (wrap64 (1 + t316)), .slice none 0 0, .slice none 0 0]) ?_ 1 _ rfl; (with_reducible repeat (first | refine blk_drewN ?_ _ | refine blk_drew ?_ | refine blk_alloc ?_ _)); refine blk_put (cs := #[.int .i64 0, .slice none 0 0, .slice none 0 0]) ?_ 0 _ rfl; (with_reducible repeat (first | refine blk_drewN ?_ _ | refine blk_drew ?_ | refine blk_alloc ?_ _)); refine blk_far ?_ NB315_319.out _; (with_reducible repeat (first | refine blk_drewN ?_ _ | refine blk_drew ?_ | refine blk_alloc ?_ _)); exact BK315.out) Try.underlying38 rfl (by kernel_rfl)) rfl ?_
      exact ⟨_, _, er2, by (with_reducible repeat (first | apply Kd.S_alloc | apply Kd.S_drewN | apply Kd.S_drew)); exact Kd.S_mono (Kd.S_far (p := ⟨gb315, 2, none⟩) (Kd.S_far (p := ⟨gb315, 1, none⟩) (Kd.S_far (p := ⟨gb315, 0, none⟩) (Kd.S_far (p := ⟨gb319, 2, none⟩) (Kd.S_types (Kd.S_types HO_320001.out BK319.out (by decide)) BK315.out (by decide)) (fun _ hk => hk.1.2) (.slice Ao67 y344.length co67)) (fun _ hk => hk.2) (.int .i64 (wrap64 (1 + t316)))) (fun _ hk => hk.2) (.slice Ao71 x320001_1.length co71)) (fun _ hk => hk.2) (.slice Ao67 y344.length co67)) (fun _ hk => hk.1.1.2), by (with_reducible repeat (first | apply Kd.R_alloc | apply Kd.R_drewN | apply Kd.R_drew)); exact Kd.R_mono (Kd.R_far (p := ⟨gb315, 2, none⟩) (Kd.R_far (p := ⟨gb315, 1, none⟩) (Kd.R_far (p := ⟨gb315, 0, none⟩) (Kd.R_far (p := ⟨gb319, 2, none⟩) (Kd.R_types (Kd.R_types HO346.out BK319.out (by decide)) BK315.out (by decide)) (fun _ hk => hk.1.2) (.slice Ao67 y344.length co67)) (fun _ hk => hk.2) (.int .i64 (wrap64 (1 + t316)))) (fun _ hk => hk.2) (.slice Ao71 x320001_1.length co71)) (fun _ hk => hk.2) (.slice Ao67 y344.length co67)) (fun _ hk => trivial), by repeat (first | (with_reducible first | exact HI0.out | apply IsS123.alloc | apply IsS123.drewN | apply IsS123.drew | apply IsS123.set_1 | apply IsS123.set_2 | refine IsS123.far ?_ NB0_315.out _ | refine IsS123.far ?_ NB0_319.out _) | exact HI0.out), by repeat (first | (with_reducible first | exact HB.out | apply below_alloc | apply pw_below_drewN | apply below_drew1 | refine below_set ?_ (IsS123.ge HI0.out) | refine below_set ?_ GE315.out | refine below_set ?_ GE319.out) | exact HB.out), by repeat (first | (with_reducible first | exact HK.out | apply KeepBut.set_ | apply keep_drewN | apply keep_drew | apply keep_alloc | refine keep_far ?_ GW315.out _ | refine keep_far ?_ GW319.out _) | exact HK.out)⟩
     ·rw [if_neg c59] at H
      have c59b0 : (t335 == 1) = false := beq_eq_false_iff_ne.mpr c59
      have c59b1 : (t335 != 1) = true := bne_iff_ne.mpr c59
      by_cases c72 : t335 = 2
      ·rw [if_pos c72] at H
       have c72b0 : (t335 == 2) = true := beq_iff_eq.mpr c72
       have c72b1 : (t335 != 2) = false := bne_eq_false_iff_eq.mpr c72
       clear c72
       obtain ⟨y347, hy_⟩ : ∃ y_ : List Int, y_ = (([1, 0] : List Int)) := ⟨_, rfl⟩
       replace H : (if x320001_1.length < 5864062014805 then (if x320002_1.length < 17592186044416 then (some ((wrap64 (1 + t316)), (x320001_1 ++ [y347]), (x320002_1 ++ [5]), t336, t337)) else (none)) else (none)) = some (r1, r2, r3, r4, r5) := yH
       have Ny347 := ak hy_; clear hy_; replace H := ifS H; obtain ⟨c73, H⟩ := H; have LMc73 := Aside0.mk c73; clear c73
       obtain ⟨y350, hy_⟩ : ∃ y_ : List (List Int), y_ = (x320001_1 ++ [y347]) := ⟨_, rfl⟩
       replace H : (if x320002_1.length < 17592186044416 then (some ((wrap64 (1 + t316)), y350, (x320002_1 ++ [5]), t336, t337)) else (none)) = some (r1, r2, r3, r4, r5) := yH
       have Ny350 := ak hy_; clear hy_; replace H := ifS H; obtain ⟨c74, H⟩ := H; have LMc74 := Aside0.mk c74; clear c74
       obtain ⟨y353, hy_⟩ : ∃ y_ : List Int, y_ = (x320002_1 ++ [5]) := ⟨_, rfl⟩
       replace H : (some ((wrap64 (1 + t316)), y350, y353, t336, t337)) = some (r1, r2, r3, r4, r5) := yH
       have Ny353 := ak hy_; clear hy_
       simp only [Option.some.injEq, Prod.mk.injEq] at H
       obtain ⟨rfl, rfl, rfl, rfl, rfl⟩ := H; have hnb75 := NB319_315.out; have hnc75 := NB315_319.out; have hnb76 := NB319_0.out; have hnc76 := NB0_319.out; obtain ⟨hcz77_0, hcz77_1, hcz77_2, hfz77_0, hfz77_1, hfz77_2⟩ := box3 BK319
       go_wp2_with (first | ((with_reducible refine gate_callee (f := 113) rfl ?_); refine goesLa (some 42) rfl Try.func113 #[.pointer (some ⟨g, 0, none⟩), .int .i64 30] rfl ?_; (with_reducible refine (spec_l1Cur_pick.calls g s0_0 x1001_1 x1002_1 30 t335 t336 t337 w0 _ ?side1 ?side2 A43.out).mono ?_); (case side1 => repeat (first | (with_reducible first | exact HI0.out | apply IsS123.alloc | apply IsS123.drewN | apply IsS123.drew | apply IsS123.set_1 | apply IsS123.set_2 | refine IsS123.far ?_ NB0_315.out _ | refine IsS123.far ?_ NB0_319.out _) | exact HI0.out)); (case side2 => repeat (first | (with_reducible first | exact HB.out | apply below_alloc | apply pw_below_drewN | apply below_drew1 | refine below_set ?_ (IsS123.ge HI0.out) | refine below_set ?_ GE315.out | refine below_set ?_ GE319.out) | exact HB.out)); rintro e w78 ⟨rfl, hi, hb, hk⟩; refine ⟨_, rfl, ?_⟩; replace HO_320001 := ak (Kd.S_mono (Kd.S_keep (IsS123.apartS (show IsS123 w0 _ g s0_0 x1001_1 x1002_1 from by repeat (first | (with_reducible first | exact HI0.out | apply IsS123.alloc | apply IsS123.drewN | apply IsS123.drew | apply IsS123.set_1 | apply IsS123.set_2 | refine IsS123.far ?_ NB0_315.out _ | refine IsS123.far ?_ NB0_319.out _) | exact HI0.out)) (sd HO_320001) (by decide)) hk (fun _ h => h.2)) (fun _ h => h.1)); replace HO_320002 := ak (Kd.R_mono (Kd.R_keep (IsS123.apart (show IsS123 w0 _ g s0_0 x1001_1 x1002_1 from by repeat (first | (with_reducible first | exact HI0.out | apply IsS123.alloc | apply IsS123.drewN | apply IsS123.drew | apply IsS123.set_1 | apply IsS123.set_2 | refine IsS123.far ?_ NB0_315.out _ | refine IsS123.far ?_ NB0_319.out _) | exact HI0.out)) (rdl HO_320002) (by decide)) hk (fun _ h => h.2)) (fun _ h => h.1)); replace BK315 := ak (KeepBut.blk hk (g' := gb315) (blkd BK315) NB315_0.out (by simp)); replace BK319 := ak (KeepBut.blk hk (g' := gb319) (blkd BK319) NB319_0.out (by simp)); replace HK := ak (KeepBut.trans (by repeat (first | (with_reducible first | exact HK.out | apply KeepBut.set_ | apply keep_drewN | apply keep_drew | apply keep_alloc | refine keep_far ?_ GW315.out _ | refine keep_far ?_ GW319.out _) | exact HK.out)) hk (.inl rfl)); replace HB := ak (hb); replace HI0 := ak (hi); (try clear hb); (try clear hk); (try clear hi); obtain ⟨hcz79_0, hcz79_1, hcz79_2, hfz79_0, hfz79_1, hfz79_2⟩ := box3 BK319) | ((with_reducible refine gate_dst (N := 60) rfl ?_); refine Kd.R_lit (Kd.int .i64) _ 3 ?hg (N := 60) ?hd (xs := ([1, 0] : List Int)) (inner := [.int .i64 1, .int .i64 0]) (ok := fun _ => True) (okp := fun _ => True) ?hr ?hp (fun _ hk => hk) trivial (Below.refl _ _) (Nat.le_refl _) (by simp) ?_; (case hd => rfl); (case hg => rfl); (case hr => first | (go_simp; done) | (go_simp; rfl)); (case hp => exact (Reps.one (show Kd.M (Kd.int .i64) _ _ _ 1 [.int .i64 1] from rfl) (Reps.one (show Kd.M (Kd.int .i64) _ _ _ 0 [.int .i64 0] from rfl) (Reps.none _ _)))); intro v348 w80 ho81 hb hg_ hnew_; clear hg_ hnew_; (first | rw [← Ny347.out] at ho81 | (simp only [Int.reduceToNat] at ho81; rw [← Ny347.out] at ho81)); replace HO_320001 := ak (Kd.S_elder' (sd HO_320001) (Kd.R_base ho81) hb); have HO349 := ak (Kd.R_lower (Kd.R_new' ho81 (Kd.R_lt (rdl HO_320002))) (keep_size (w := w) (g := g) (row := none) (by repeat (first | (with_reducible first | exact HK.out | apply KeepBut.set_ | apply keep_drewN | apply keep_drew | apply keep_alloc | refine keep_far ?_ GW315.out _ | refine keep_far ?_ GW319.out _) | exact HK.out)))); replace HO_320002 := ak (Kd.R_elder' (rdl HO_320002) (Kd.R_base ho81) hb); replace BK315 := ak (blk_below (blkd BK315) hb); replace BK319 := ak (blk_below (blkd BK319) hb); replace HK := ak (KeepBut.trans (by repeat (first | (with_reducible first | exact HK.out | apply KeepBut.set_ | apply keep_drewN | apply keep_drew | apply keep_alloc | refine keep_far ?_ GW315.out _ | refine keep_far ?_ GW319.out _) | exact HK.out)) (KeepBut.of_below hb g none) (.inl rfl)); replace HB := ak (below_step (by repeat (first | (with_reducible first | exact HB.out | apply below_alloc | apply pw_below_drewN | apply below_drew1 | refine below_set ?_ (IsS123.ge HI0.out) | refine below_set ?_ GE315.out | refine below_set ?_ GE319.out) | exact HB.out)) hb); replace HI0 := ak (IsS123.below (by repeat (first | (with_reducible first | exact HI0.out | apply IsS123.alloc | apply IsS123.drewN | apply IsS123.drew | apply IsS123.set_1 | apply IsS123.set_2 | refine IsS123.far ?_ NB0_315.out _ | refine IsS123.far ?_ NB0_319.out _) | exact HI0.out)) hb); clear hb ho81; obtain ⟨Ao83, co83, eo83⟩ := Kd.R_slice HO349.out; subst eo83) | ((with_reducible refine gate_builtin (b := .append) (xs := #[.tmp 59, .tmp 61]) rfl ?_); at_builtin; refine Kd.S_append (Kd.slice 3 (Kd.int .i64)) w.heap.size rfl (.tmp 59) (.tmp 61) 32 22 (.slice none 0 0) 24 rfl Try.underlying32 info22 rfl (by decide) (by omega) u320001 x320001_1 y347 [.slice Ao83 y347.length co83] (fun k_ => some k_ ≠ (u320002 : Value).ownBlock) (fun k_ => some k_ = (.slice Ao83 y347.length co83 : Value).ownBlock) rfl rfl ?aP (fun k_ hk_ => ((Kd.R_mono (ok' := fun k_ => ((fun k_ => some k_ ≠ (u320002 : Value).ownBlock)) k_ ∧ some k_ ≠ (u320001 : Value).ownBlock) (Kd.R_apart' (HO349.out) (Kd.S_typed HO_320001.out) (by decide)) (fun k_ hk => ⟨hk.1.2, hk.2⟩))).1 k_ hk_.symm) ?aF ?aO (Below.refl _ _) ?aS ?aL ?_; (case aP => exact Kd.M_row (Kd.R_mono (Kd.R_tight rfl (Kd.R_mono (ok' := fun k_ => ((fun k_ => some k_ ≠ (u320002 : Value).ownBlock)) k_ ∧ some k_ ≠ (u320001 : Value).ownBlock) (Kd.R_apart' (HO349.out) (Kd.S_typed HO_320001.out) (by decide)) (fun k_ hk => ⟨hk.1.2, hk.2⟩))) (fun _ h_ => h_))); (case aF => exact (fun k_ hk => Kd.fresh' (Kd.R_lt (rdl HO_320002)) k_ hk)); (case aO => exact (by (with_reducible repeat (first | apply Kd.S_alloc | apply Kd.S_drewN | apply Kd.S_drew)); exact Kd.S_mono HO_320001.out (fun k_ hk => ⟨hk.1, fun e_ => hk.2 e_⟩))); (case aS => exact (keep_size (w := w) (g := g) (row := none) (by repeat (first | (with_reducible first | exact HK.out | apply KeepBut.set_ | apply keep_drewN | apply keep_drew | apply keep_alloc | refine keep_far ?_ GW315.out _ | refine keep_far ?_ GW319.out _) | exact HK.out)))); (case aL => have := LMc73.out; omega); intro v351 w82 ho hb hg hat; rw [← Ny350.out] at ho; replace HO_320002 := ak (Kd.R_over' (rdl HO_320002) (Kd.S_typed (sd HO_320001)) (by decide) hg); replace BK315 := ak (blk_grown (blkd BK315) hg (Kd.S_ne HO_320001.out BK315.out (by decide))); replace BK319 := ak (blk_grown (blkd BK319) hg (Kd.S_ne HO_320001.out BK319.out (by decide))); replace HB := ak (below_weaken (by repeat (first | (with_reducible first | exact HB.out | apply below_alloc | apply pw_below_drewN | apply below_drew1 | refine below_set ?_ (IsS123.ge HI0.out) | refine below_set ?_ GE315.out | refine below_set ?_ GE319.out) | exact HB.out)) HL.out hb); replace HI0 := ak (IsS123.grown (by repeat (first | (with_reducible first | exact HI0.out | apply IsS123.alloc | apply IsS123.drewN | apply IsS123.drew | apply IsS123.set_1 | apply IsS123.set_2 | refine IsS123.far ?_ NB0_315.out _ | refine IsS123.far ?_ NB0_319.out _) | exact HI0.out)) hg (IsS123.own_neS HI0.out HO_320001.out (by decide))); replace HK := ak (KeepBut.trans (by repeat (first | (with_reducible first | exact HK.out | apply KeepBut.set_ | apply keep_drewN | apply keep_drew | apply keep_alloc | refine keep_far ?_ GW315.out _ | refine keep_far ?_ GW319.out _) | exact HK.out)) (KeepBut.of_grown hg g) (Kd.S_base2 HO_320001.out)); have HO352 := ak (ho); clear HO_320001 HO349; clear ho hb hg hat; obtain ⟨Ao84, co84, eo84⟩ := Kd.S_slice HO352.out; subst eo84; obtain ⟨hcz85_0, hcz85_1, hcz85_2, hfz85_0, hfz85_1, hfz85_2⟩ := box3 BK319) | ((with_reducible refine gate_builtin (b := .append) (xs := #[.tmp 65, .tmp 66]) rfl ?_); at_builtin; refine Kd.R_append (Kd.int .i64) w.heap.size rfl (.tmp 65) (.tmp 66) 22 3 (.int .i64 0) 8 rfl Try.underlying22 info3 rfl (by decide) (by omega) u320002 x320002_1 5 [.int .i64 5] (fun _ => True) (fun _ => False) rfl (by first | (go_simp; done) | (go_simp; rfl)) ?aP (fun _ hk => hk.elim) ?aF ?aO (Below.refl _ _) ?aS ?aL ?_; (case aP => exact rfl); (case aF => exact (fun _ _ => trivial)); (case aO => exact (by (with_reducible repeat (first | apply Kd.R_alloc | apply Kd.R_drewN | apply Kd.R_drew)); exact Kd.R_mono (Kd.R_far (p := ⟨gb319, 1, none⟩) (Kd.R_types HO_320002.out BK319.out (by decide)) (fun _ hk => hk.2) (.slice Ao84 y350.length co84)) (fun _ hk => trivial))); (case aS => exact (keep_size (w := w) (g := g) (row := none) (by repeat (first | (with_reducible first | exact HK.out | apply KeepBut.set_ | apply keep_drewN | apply keep_drew | apply keep_alloc | refine keep_far ?_ GW315.out _ | refine keep_far ?_ GW319.out _) | exact HK.out)))); (case aL => have := LMc74.out; omega); intro v354 w86 ho hb hg hat; rw [← Ny353.out] at ho; replace BK315 := ak (blk_grown (g := gb315) (o := .cells #[.int .i64 0, .slice none 0 0, .slice none 0 0] 38 (0, 0)) (by (with_reducible repeat (first | refine blk_drewN ?_ _ | refine blk_drew ?_ | refine blk_alloc ?_ _)); refine blk_far ?_ NB315_319.out _; (with_reducible repeat (first | refine blk_drewN ?_ _ | refine blk_drew ?_ | refine blk_alloc ?_ _)); exact BK315.out) hg (Kd.R_ne HO_320002.out BK315.out (by decide))); replace HO352 := ak (Kd.S_after (ok := (fun _ => True)) (by (with_reducible repeat (first | apply Kd.S_alloc | apply Kd.S_drewN | apply Kd.S_drew)); exact Kd.S_mono (Kd.S_far (p := ⟨gb319, 1, none⟩) (Kd.S_types HO352.out BK319.out (by decide)) (fun _ hk => hk.2) (.slice Ao84 y350.length co84)) (fun _ hk => ⟨trivial, hk.1⟩)) hg hat); replace BK319 := ak (blk_grown (g := gb319) (o := .cells #[.int .i64 (wrap64 (1 + t316)), .slice Ao84 y350.length co84, u320002] 38 (0, 0)) (by (with_reducible repeat (first | refine blk_drewN ?_ _ | refine blk_drew ?_ | refine blk_alloc ?_ _)); refine blk_put (cs := #[.int .i64 (wrap64 (1 + t316)), u320001, u320002]) ?_ 1 _ rfl; (with_reducible repeat (first | refine blk_drewN ?_ _ | refine blk_drew ?_ | refine blk_alloc ?_ _)); exact BK319.out) hg (Kd.R_ne HO_320002.out BK319.out (by decide))); replace HB := ak (below_weaken (by repeat (first | (with_reducible first | exact HB.out | apply below_alloc | apply pw_below_drewN | apply below_drew1 | refine below_set ?_ (IsS123.ge HI0.out) | refine below_set ?_ GE315.out | refine below_set ?_ GE319.out) | exact HB.out)) HL.out hb); replace HI0 := ak (IsS123.grown (show IsS123 w0 _ g s0_0 t336 t337 from by repeat (first | (with_reducible first | exact HI0.out | apply IsS123.alloc | apply IsS123.drewN | apply IsS123.drew | apply IsS123.set_1 | apply IsS123.set_2 | refine IsS123.far ?_ NB0_315.out _ | refine IsS123.far ?_ NB0_319.out _) | exact HI0.out)) hg (IsS123.own_ne HI0.out HO_320002.out (by decide))); replace HK := ak (KeepBut.trans (by repeat (first | (with_reducible first | exact HK.out | apply KeepBut.set_ | apply keep_drewN | apply keep_drew | apply keep_alloc | refine keep_far ?_ GW315.out _ | refine keep_far ?_ GW319.out _) | exact HK.out)) (KeepBut.of_grown hg g) (Kd.R_base2 HO_320002.out)); have HO355 := ak (ho); clear HO_320002; clear ho hb hg hat; obtain ⟨Ao87, co87, eo87⟩ := Kd.R_slice HO355.out; subst eo87; obtain ⟨hcz88_0, hcz88_1, hcz88_2, hfz88_0, hfz88_1, hfz88_2⟩ := box3 BK319; have hnb89 := NB315_0.out; have hnc89 := NB0_315.out; obtain ⟨hcz90_0, hcz90_1, hcz90_2, hfz90_0, hfz90_1, hfz90_2⟩ := box3 BK315))
       refine bodyPost_ret (results_cell_row rfl _ _ gb315 38 #[.int .i64 (wrap64 (1 + t316)), .slice Ao84 y350.length co84, .slice Ao87 y353.length co87] (0, 0) _ rfl (by (with_reducible repeat (first | refine blk_drewN ?_ _ | refine blk_drew ?_ | refine blk_alloc ?_ _)); refine blk_put (cs := #[.int .i64 (wrap64 (1 + t316)), .slice Ao84 y350.length co84, .slice none 0 0]) ?_ 2 _ rfl; (with_reducible repeat (first | refine blk_drewN ?_ _ | refine blk_drew ?_ | refine blk_alloc ?_ _)); refine blk_put (cs := #[.int .i64 (wrap64 (1 + t316)), .slice none 0 0, .slice none 0 0]) ?_ 1 _ rfl; (with_reducible repeat (first | refine blk_drewN ?_ _ | refine blk_drew ?_ | refine blk_alloc ?_ _)); refine blk_put (cs := #[.int .i64 0, .slice none 0 0, .slice none 0 0]) ?_ 0 _ rfl; (with_reducible repeat (first | refine blk_drewN ?_ _ | refine blk_drew ?_ | refine blk_alloc ?_ _)); refine blk_far ?_ NB315_319.out _; (with_reducible repeat (first | refine blk_drewN ?_ _ | refine blk_drew ?_ | refine blk_alloc ?_ _)); exact BK315.out) Try.underlying38 rfl (by kernel_rfl)) rfl ?_
       exact ⟨_, _, er2, by (with_reducible repeat (first | apply Kd.S_alloc | apply Kd.S_drewN | apply Kd.S_drew)); exact Kd.S_mono (Kd.S_far (p := ⟨gb315, 2, none⟩) (Kd.S_far (p := ⟨gb315, 1, none⟩) (Kd.S_far (p := ⟨gb315, 0, none⟩) (Kd.S_far (p := ⟨gb319, 2, none⟩) (Kd.S_types (Kd.S_types HO352.out BK319.out (by decide)) BK315.out (by decide)) (fun _ hk => hk.1.2) (.slice Ao87 y353.length co87)) (fun _ hk => hk.2) (.int .i64 (wrap64 (1 + t316)))) (fun _ hk => hk.2) (.slice Ao84 y350.length co84)) (fun _ hk => hk.2) (.slice Ao87 y353.length co87)) (fun _ hk => hk.1.1.2), by (with_reducible repeat (first | apply Kd.R_alloc | apply Kd.R_drewN | apply Kd.R_drew)); exact Kd.R_mono (Kd.R_far (p := ⟨gb315, 2, none⟩) (Kd.R_far (p := ⟨gb315, 1, none⟩) (Kd.R_far (p := ⟨gb315, 0, none⟩) (Kd.R_far (p := ⟨gb319, 2, none⟩) (Kd.R_types (Kd.R_types HO355.out BK319.out (by decide)) BK315.out (by decide)) (fun _ hk => hk.1.2) (.slice Ao87 y353.length co87)) (fun _ hk => hk.2) (.int .i64 (wrap64 (1 + t316)))) (fun _ hk => hk.2) (.slice Ao84 y350.length co84)) (fun _ hk => hk.2) (.slice Ao87 y353.length co87)) (fun _ hk => trivial), by repeat (first | (with_reducible first | exact HI0.out | apply IsS123.alloc | apply IsS123.drewN | apply IsS123.drew | apply IsS123.set_1 | apply IsS123.set_2 | refine IsS123.far ?_ NB0_315.out _ | refine IsS123.far ?_ NB0_319.out _) | exact HI0.out), by repeat (first | (with_reducible first | exact HB.out | apply below_alloc | apply pw_below_drewN | apply below_drew1 | refine below_set ?_ (IsS123.ge HI0.out) | refine below_set ?_ GE315.out | refine below_set ?_ GE319.out) | exact HB.out), by repeat (first | (with_reducible first | exact HK.out | apply KeepBut.set_ | apply keep_drewN | apply keep_drew | apply keep_alloc | refine keep_far ?_ GW315.out _ | refine keep_far ?_ GW319.out _) | exact HK.out)⟩
      ·rw [if_neg c72] at H
       have c72b0 : (t335 == 2) = false := beq_eq_false_iff_ne.mpr c72
       have c72b1 : (t335 != 2) = true := bne_iff_ne.mpr c72
       simp only [Option.some.injEq, Prod.mk.injEq] at H
       obtain ⟨rfl, rfl, rfl, rfl, rfl⟩ := H; have hnb91 := NB319_315.out; have hnc91 := NB315_319.out; have hnb92 := NB319_0.out; have hnc92 := NB0_319.out; obtain ⟨hcz93_0, hcz93_1, hcz93_2, hfz93_0, hfz93_1, hfz93_2⟩ := box3 BK319
       go_wp2_with (first | ((with_reducible refine gate_callee (f := 113) rfl ?_); refine goesLa (some 42) rfl Try.func113 #[.pointer (some ⟨g, 0, none⟩), .int .i64 30] rfl ?_; (with_reducible refine (spec_l1Cur_pick.calls g s0_0 x1001_1 x1002_1 30 t335 t336 t337 w0 _ ?side1 ?side2 A43.out).mono ?_); (case side1 => repeat (first | (with_reducible first | exact HI0.out | apply IsS123.alloc | apply IsS123.drewN | apply IsS123.drew | apply IsS123.set_1 | apply IsS123.set_2 | refine IsS123.far ?_ NB0_315.out _ | refine IsS123.far ?_ NB0_319.out _) | exact HI0.out)); (case side2 => repeat (first | (with_reducible first | exact HB.out | apply below_alloc | apply pw_below_drewN | apply below_drew1 | refine below_set ?_ (IsS123.ge HI0.out) | refine below_set ?_ GE315.out | refine below_set ?_ GE319.out) | exact HB.out)); rintro e w94 ⟨rfl, hi, hb, hk⟩; refine ⟨_, rfl, ?_⟩; replace HO_320001 := ak (Kd.S_mono (Kd.S_keep (IsS123.apartS (show IsS123 w0 _ g s0_0 x1001_1 x1002_1 from by repeat (first | (with_reducible first | exact HI0.out | apply IsS123.alloc | apply IsS123.drewN | apply IsS123.drew | apply IsS123.set_1 | apply IsS123.set_2 | refine IsS123.far ?_ NB0_315.out _ | refine IsS123.far ?_ NB0_319.out _) | exact HI0.out)) (sd HO_320001) (by decide)) hk (fun _ h => h.2)) (fun _ h => h.1)); replace HO_320002 := ak (Kd.R_mono (Kd.R_keep (IsS123.apart (show IsS123 w0 _ g s0_0 x1001_1 x1002_1 from by repeat (first | (with_reducible first | exact HI0.out | apply IsS123.alloc | apply IsS123.drewN | apply IsS123.drew | apply IsS123.set_1 | apply IsS123.set_2 | refine IsS123.far ?_ NB0_315.out _ | refine IsS123.far ?_ NB0_319.out _) | exact HI0.out)) (rdl HO_320002) (by decide)) hk (fun _ h => h.2)) (fun _ h => h.1)); replace BK315 := ak (KeepBut.blk hk (g' := gb315) (blkd BK315) NB315_0.out (by simp)); replace BK319 := ak (KeepBut.blk hk (g' := gb319) (blkd BK319) NB319_0.out (by simp)); replace HK := ak (KeepBut.trans (by repeat (first | (with_reducible first | exact HK.out | apply KeepBut.set_ | apply keep_drewN | apply keep_drew | apply keep_alloc | refine keep_far ?_ GW315.out _ | refine keep_far ?_ GW319.out _) | exact HK.out)) hk (.inl rfl)); replace HB := ak (hb); replace HI0 := ak (hi); (try clear hb); (try clear hk); (try clear hi); obtain ⟨hcz95_0, hcz95_1, hcz95_2, hfz95_0, hfz95_1, hfz95_2⟩ := box3 BK319; have hnb96 := NB315_0.out; have hnc96 := NB0_315.out; obtain ⟨hcz97_0, hcz97_1, hcz97_2, hfz97_0, hfz97_1, hfz97_2⟩ := box3 BK315; obtain ⟨Ao98, co98, eo98⟩ := Kd.S_slice HO_320001.out; subst eo98; obtain ⟨Ao99, co99, eo99⟩ := Kd.R_slice HO_320002.out; subst eo99))
       refine bodyPost_ret (results_cell_row rfl _ _ gb315 38 #[.int .i64 (wrap64 (1 + t316)), .slice Ao98 x320001_1.length co98, .slice Ao99 x320002_1.length co99] (0, 0) _ rfl (by (with_reducible repeat (first | refine blk_drewN ?_ _ | refine blk_drew ?_ | refine blk_alloc ?_ _)); refine blk_put (cs := #[.int .i64 (wrap64 (1 + t316)), .slice Ao98 x320001_1.length co98, .slice none 0 0]) ?_ 2 _ rfl; (with_reducible repeat (first | refine blk_drewN ?_ _ | refine blk_drew ?_ | refine blk_alloc ?_ _)); refine blk_put (cs := #[.int .i64 (wrap64 (1 + t316)), .slice none 0 0, .slice none 0 0]) ?_ 1 _ rfl; (with_reducible repeat (first | refine blk_drewN ?_ _ | refine blk_drew ?_ | refine blk_alloc ?_ _)); refine blk_put (cs := #[.int .i64 0, .slice none 0 0, .slice none 0 0]) ?_ 0 _ rfl; (with_reducible repeat (first | refine blk_drewN ?_ _ | refine blk_drew ?_ | refine blk_alloc ?_ _)); exact BK315.out) Try.underlying38 rfl (by kernel_rfl)) rfl ?_
       exact ⟨_, _, er2, by (with_reducible repeat (first | apply Kd.S_alloc | apply Kd.S_drewN | apply Kd.S_drew)); exact Kd.S_mono (Kd.S_far (p := ⟨gb315, 2, none⟩) (Kd.S_far (p := ⟨gb315, 1, none⟩) (Kd.S_far (p := ⟨gb315, 0, none⟩) (Kd.S_types HO_320001.out BK315.out (by decide)) (fun _ hk => hk.2) (.int .i64 (wrap64 (1 + t316)))) (fun _ hk => hk.2) (.slice Ao98 x320001_1.length co98)) (fun _ hk => hk.2) (.slice Ao99 x320002_1.length co99)) (fun _ hk => hk.1), by (with_reducible repeat (first | apply Kd.R_alloc | apply Kd.R_drewN | apply Kd.R_drew)); exact Kd.R_mono (Kd.R_far (p := ⟨gb315, 2, none⟩) (Kd.R_far (p := ⟨gb315, 1, none⟩) (Kd.R_far (p := ⟨gb315, 0, none⟩) (Kd.R_types HO_320002.out BK315.out (by decide)) (fun _ hk => hk.2) (.int .i64 (wrap64 (1 + t316)))) (fun _ hk => hk.2) (.slice Ao98 x320001_1.length co98)) (fun _ hk => hk.2) (.slice Ao99 x320002_1.length co99)) (fun _ hk => trivial), by repeat (first | (with_reducible first | exact HI0.out | apply IsS123.alloc | apply IsS123.drewN | apply IsS123.drew | apply IsS123.set_1 | apply IsS123.set_2 | refine IsS123.far ?_ NB0_315.out _ | refine IsS123.far ?_ NB0_319.out _) | exact HI0.out), by repeat (first | (with_reducible first | exact HB.out | apply below_alloc | apply pw_below_drewN | apply below_drew1 | refine below_set ?_ (IsS123.ge HI0.out) | refine below_set ?_ GE315.out | refine below_set ?_ GE319.out) | exact HB.out), by repeat (first | (with_reducible first | exact HK.out | apply KeepBut.set_ | apply keep_drewN | apply keep_drew | apply keep_alloc | refine keep_far ?_ GW315.out _ | refine keep_far ?_ GW319.out _) | exact HK.out)⟩

/-! ### spec_DrawTogetherSay: function 67 -/
def spec_DrawTogetherSay.l0 : Nat → List Int → Int → List Int → Int → Int → Int → List (List Int) → List Int → Option (Int × (List (List Int)) × List Int × List Int)
  | 0, _, _, _, _, _, _, _, _ => none
  | k + 1, x6, x7, x358000, x358001, x358002, x368000, x368001, x368002 => if x7 < x368000 then ((spec_l1Cur_pick.f x358000 x358001 x358002 256).bind fun bt371 => (if x6.length < 17592186044416 then (spec_DrawTogetherSay.l0 k (x6 ++ [bt371.1]) (wrap64 (x7 + 1)) x358000 bt371.2.1 bt371.2.2 x368000 x368001 x368002) else (none))) else (some (x368000, x368001, x368002, x6))
def spec_DrawTogetherSay.f (k : Nat) (l0 : List Int) : Option (Int × (List (List Int)) × List Int × List Int) := (spec_l1Cur_table.f k l0 0 0).bind fun bt358 => ((spec_l1Cur_pick.f l0 bt358.2.2.2.1 bt358.2.2.2.2 9).bind fun bt368 => (spec_DrawTogetherSay.l0 k ([] : List Int) (wrap64 (Int.tdiv bt368.1 8)) l0 bt368.2.1 bt368.2.2 bt358.1 bt358.2.1 bt358.2.2.1))
theorem spec_DrawTogetherSay.mono_l : ∀ k, (∀ y0 y1 y2 y3 y4 y5 y6 y7, LeO (spec_DrawTogetherSay.l0 k y0 y1 y2 y3 y4 y5 y6 y7) (spec_DrawTogetherSay.l0 (k + 1) y0 y1 y2 y3 y4 y5 y6 y7))
 | 0 => fun _ _ _ _ _ _ _ _ r h => by simp [spec_DrawTogetherSay.l0] at h
 | k + 1 => by
  have ih0 := spec_DrawTogetherSay.mono_l k
  ·intro y0 y1 y2 y3 y4 y5 y6 y7
   unfold spec_DrawTogetherSay.l0
   repeat' (first | (with_reducible first | exact ih0 _ _ _ _ _ _ _ _ | exact spec_l1Cur_table.mono _ _ _ _ | exact LeO.refl _ | exact LeO.none _ | refine LeO.ite ?_ ?_ | refine LeO.bind ?_ (fun _ => ?_)) | exact ih0 _ _ _ _ _ _ _ _ | exact spec_l1Cur_table.mono _ _ _ _ | exact LeO.none _ | refine LeO.ite ?_ ?_ | refine LeO.bind ?_ (fun _ => ?_))
theorem spec_DrawTogetherSay.mono : ∀ a0 k, LeO (spec_DrawTogetherSay.f k a0) (spec_DrawTogetherSay.f (k + 1) a0) := by
 intro a0 k
 have ih0 := spec_DrawTogetherSay.mono_l k
 unfold spec_DrawTogetherSay.f
 repeat' (first | (with_reducible first | exact ih0 _ _ _ _ _ _ _ _ | exact spec_l1Cur_table.mono _ _ _ _ | exact LeO.refl _ | exact LeO.none _ | refine LeO.ite ?_ ?_ | refine LeO.bind ?_ (fun _ => ?_)) | exact ih0 _ _ _ _ _ _ _ _ | exact spec_l1Cur_table.mono _ _ _ _ | exact LeO.none _ | refine LeO.ite ?_ ?_ | refine LeO.bind ?_ (fun _ => ?_))
set_option maxHeartbeats 8000000 in
set_option maxRecDepth 100000 in
theorem spec_DrawTogetherSay.calls (k : Nat) (A0 : Option Addr) (c0 : Nat) (l0 : List Int) (r1 : Int) (r2 : List (List Int)) (r3 : List Int) (r4 : List Int) (w : World) (hr0 : Kd.C (Kd.int .u8) w A0 l0.length l0) (hc0 : l0.length ≤ c0) (h : spec_DrawTogetherSay.f k l0 = some (r1, r2, r3, r4)) :
  Calls Try.prog 67 #[.slice A0 l0.length c0] w fun e w' => ∃ v1_ v2_ v3_ : Value, e = .returned (.tuple #[.agg #[.int .i64 r1, v1_, v2_], v3_]) ∧ Kd.S (Kd.slice 3 (Kd.int .i64)) 22 w' w.heap.size (fun k_ => some k_ ≠ (v2_ : Value).ownBlock ∧ some k_ ≠ (v3_ : Value).ownBlock) v1_ r2 ∧ Kd.R (Kd.int .i64) 3 w' w.heap.size (fun k_ => some k_ ≠ (v3_ : Value).ownBlock) v2_ r3 ∧ Kd.R (Kd.int .i64) 3 w' w.heap.size (fun k_ => some k_ ≠ (v2_ : Value).ownBlock) v3_ r4 ∧ Below w.heap.size w w' := by
 have hu38 := Try.underlying38
 have hu123 := Try.underlying123
 have HR0 := Aside0.mk hr0; have HC0 := Aside0.mk hc0; clear hr0 hc0
 have HB := Aside0.mk (Below.refl w.heap.size w)
 have H : ((spec_l1Cur_table.f k l0 0 0).bind fun bt358 => ((spec_l1Cur_pick.f l0 bt358.2.2.2.1 bt358.2.2.2.2 9).bind fun bt368 => (spec_DrawTogetherSay.l0 k ([] : List Int) (wrap64 (Int.tdiv bt368.1 8)) l0 bt368.2.1 bt368.2.2 bt358.1 bt358.2.1 bt358.2.2.1))) = some (r1, r2, r3, r4) := h
 clear h; replace H := bS H; obtain ⟨⟨t358, t359, t362, t365, t366⟩, A2, H⟩ := H
 replace H : ((spec_l1Cur_pick.f l0 t365 t366 9).bind fun bt368 => (spec_DrawTogetherSay.l0 k ([] : List Int) (wrap64 (Int.tdiv bt368.1 8)) l0 bt368.2.1 bt368.2.2 t358 t359 t362)) = some (r1, r2, r3, r4) := H
 replace H := bS H; obtain ⟨⟨t368, t369, t370⟩, A3, H⟩ := H
 replace H : (spec_DrawTogetherSay.l0 k ([] : List Int) (wrap64 (Int.tdiv t368 8)) l0 t369 t370 t358 t359 t362) = some (r1, r2, r3, r4) := H
 have H' := Aside0.mk H
 clear H
 go_enter Try.func67, Try.ntmps67
 go_wp2_with (first | ((with_reducible refine gate_dst (N := 2) rfl ?_); refine boxev 2 #[.int .i64 0, .slice none 0 0, .slice none 0 0] 38 ?_; intro gb356 hg w4 hbox hb; have BK356 := ak (hbox); have GW356 := ak (hgl hg (belowd HB)); have GE356 := ak (hgl hg (belowd HB)); replace HB := ak (below_step (belowd HB) hb); clear hb hbox hg) | ((with_reducible refine gate_dst (N := 10) rfl ?_); refine boxev 10 #[.slice A0 l0.length c0, .int .i64 0, .int .u64 0] 123 ?_; intro gb357 hg w5 hbox hb; have HI357 := ak ((show IsS123 w w5 gb357 l0 0 0 from IsS123.of_blk hbox (by rw [hg]; exact (below_size (belowg1 HB GE356))) HR0.out)); replace HB := ak (below_step (belowg1 HB GE356) hb); have NB356_357 := ak ((by rw [hg]; exact Nat.ne_of_lt (blk_lt (blkd BK356)) : gb356 ≠ gb357)); have NB357_356 := ak ((by rw [hg]; exact Nat.ne_of_gt (blk_lt (blkd BK356)) : gb357 ≠ gb356)); replace BK356 := ak (blk_below (blkd BK356) hb); clear hb hbox hg) | ((with_reducible refine gate_callee (f := 122) rfl ?_); refine goesLa (some 12) rfl Try.func122 #[.pointer (some ⟨gb357, 0, none⟩)] rfl ?_; (with_reducible refine (spec_l1Cur_table.calls k gb357 l0 0 0 t358 t359 t362 t365 t366 w _ ?side1 ?side2 A2.out).mono ?_); (case side1 => repeat (first | (with_reducible first | exact HI357.out | apply IsS123.alloc | apply IsS123.drewN | apply IsS123.drew | apply IsS123.set_1 | apply IsS123.set_2 | refine IsS123.far ?_ NB357_356.out _) | exact HI357.out)); (case side2 => repeat (first | (with_reducible first | exact HB.out | apply below_alloc | apply pw_below_drewN | apply below_drew1 | refine below_set ?_ (IsS123.ge HI357.out) | refine below_set ?_ GE356.out) | exact HB.out)); rintro e w6 ⟨v360, v363, rfl, ho0, ho1, hi, hb, hk⟩; refine ⟨_, rfl, ?_⟩; replace BK356 := ak (KeepBut.blk hk (g' := gb356) (blkd BK356) NB356_357.out (by simp)); have HO361 := ak (Kd.S_lower ho0 (below_size (by repeat (first | (with_reducible first | exact HB.out | apply below_alloc | apply pw_below_drewN | apply below_drew1 | refine below_set ?_ (IsS123.ge HI357.out) | refine below_set ?_ GE356.out) | exact HB.out)))); have HO364 := ak (Kd.R_lower ho1 (below_size (by repeat (first | (with_reducible first | exact HB.out | apply below_alloc | apply pw_below_drewN | apply below_drew1 | refine below_set ?_ (IsS123.ge HI357.out) | refine below_set ?_ GE356.out) | exact HB.out)))); replace HB := ak (hb); replace HI357 := ak (hi); (try clear hb); (try clear hk); (try clear hi); (try clear ho0); (try clear ho1)) | ((with_reducible refine gate_dst (N := 5) rfl ?_); refine boxev 5 #[.int .i64 0, .slice none 0 0, .slice none 0 0] 38 ?_; intro gb367 hg w7 hbox hb; replace HO361 := ak (Kd.S_below (sd HO361) hb); replace HO364 := ak (Kd.R_below (rdl HO364) hb); have BK367 := ak (hbox); have GW367 := ak ((by rw [hg]; exact (below_size (by repeat (first | (with_reducible first | exact HB.out | apply below_alloc | apply pw_below_drewN | apply below_drew1 | refine below_set ?_ (IsS123.ge HI357.out) | refine below_set ?_ GE356.out) | exact HB.out))) : w.heap.size ≤ gb367)); have GE367 := ak ((by rw [hg]; exact (below_size (by repeat (first | (with_reducible first | exact HB.out | apply below_alloc | apply pw_below_drewN | apply below_drew1 | refine below_set ?_ (IsS123.ge HI357.out) | refine below_set ?_ GE356.out) | exact HB.out))) : w.heap.size ≤ gb367)); replace HB := ak (below_step (by repeat (first | (with_reducible first | exact HB.out | apply below_alloc | apply pw_below_drewN | apply below_drew1 | refine below_set ?_ (IsS123.ge HI357.out) | refine below_set ?_ GE356.out) | exact HB.out)) hb); have NB356_367 := ak ((by rw [hg]; exact Nat.ne_of_lt (blk_lt (blkd BK356)) : gb356 ≠ gb367)); have NB367_356 := ak ((by rw [hg]; exact Nat.ne_of_gt (blk_lt (blkd BK356)) : gb367 ≠ gb356)); replace BK356 := ak (blk_below (blkd BK356) hb); have NB357_367 := ak ((by rw [hg]; exact Nat.ne_of_lt (IsS123.lt (show IsS123 w _ gb357 l0 t365 t366 from by repeat (first | (with_reducible first | exact HI357.out | apply IsS123.alloc | apply IsS123.drewN | apply IsS123.drew | apply IsS123.set_1 | apply IsS123.set_2 | refine IsS123.far ?_ NB357_356.out _) | exact HI357.out))) : gb357 ≠ gb367)); have NB367_357 := ak ((by rw [hg]; exact Nat.ne_of_gt (IsS123.lt (show IsS123 w _ gb357 l0 t365 t366 from by repeat (first | (with_reducible first | exact HI357.out | apply IsS123.alloc | apply IsS123.drewN | apply IsS123.drew | apply IsS123.set_1 | apply IsS123.set_2 | refine IsS123.far ?_ NB357_356.out _) | exact HI357.out))) : gb367 ≠ gb357)); replace HI357 := ak (IsS123.below (by repeat (first | (with_reducible first | exact HI357.out | apply IsS123.alloc | apply IsS123.drewN | apply IsS123.drew | apply IsS123.set_1 | apply IsS123.set_2 | refine IsS123.far ?_ NB357_356.out _) | exact HI357.out)) hb); clear hb hbox hg; have hnb8 := NB367_356.out; have hnc8 := NB356_367.out; have hnb9 := NB367_357.out; have hnc9 := NB357_367.out; obtain ⟨hcz10_0, hcz10_1, hcz10_2, hfz10_0, hfz10_1, hfz10_2⟩ := box3 BK367; obtain ⟨Ao11, co11, eo11⟩ := Kd.S_slice HO361.out; subst eo11; obtain ⟨Ao12, co12, eo12⟩ := Kd.R_slice HO364.out; subst eo12) | ((with_reducible refine gate_callee (f := 113) rfl ?_); refine goesLa (some 14) rfl Try.func113 #[.pointer (some ⟨gb357, 0, none⟩), .int .i64 9] rfl ?_; (with_reducible refine (spec_l1Cur_pick.calls gb357 l0 t365 t366 9 t368 t369 t370 w _ ?side1 ?side2 A3.out).mono ?_); (case side1 => repeat (first | (with_reducible first | exact HI357.out | apply IsS123.alloc | apply IsS123.drewN | apply IsS123.drew | apply IsS123.set_1 | apply IsS123.set_2 | refine IsS123.far ?_ NB357_356.out _ | refine IsS123.far ?_ NB357_367.out _) | exact HI357.out)); (case side2 => repeat (first | (with_reducible first | exact HB.out | apply below_alloc | apply pw_below_drewN | apply below_drew1 | refine below_set ?_ (IsS123.ge HI357.out) | refine below_set ?_ GE356.out | refine below_set ?_ GE367.out) | exact HB.out)); rintro e w13 ⟨rfl, hi, hb, hk⟩; refine ⟨_, rfl, ?_⟩; replace BK356 := ak (KeepBut.blk hk (g' := gb356) (o := .cells #[.int .i64 0, .slice none 0 0, .slice none 0 0] 38 (0, 0)) (by (with_reducible repeat (first | refine blk_drewN ?_ _ | refine blk_drew ?_ | refine blk_alloc ?_ _)); refine blk_far ?_ NB356_367.out _; (with_reducible repeat (first | refine blk_drewN ?_ _ | refine blk_drew ?_ | refine blk_alloc ?_ _)); refine blk_far ?_ NB356_367.out _; (with_reducible repeat (first | refine blk_drewN ?_ _ | refine blk_drew ?_ | refine blk_alloc ?_ _)); refine blk_far ?_ NB356_367.out _; (with_reducible repeat (first | refine blk_drewN ?_ _ | refine blk_drew ?_ | refine blk_alloc ?_ _)); exact BK356.out) NB356_357.out (by simp)); replace HO361 := ak (Kd.S_mono (Kd.S_keep (IsS123.apartS (show IsS123 w _ gb357 l0 t365 t366 from by repeat (first | (with_reducible first | exact HI357.out | apply IsS123.alloc | apply IsS123.drewN | apply IsS123.drew | apply IsS123.set_1 | apply IsS123.set_2 | refine IsS123.far ?_ NB357_356.out _ | refine IsS123.far ?_ NB357_367.out _) | exact HI357.out)) (by (with_reducible repeat (first | apply Kd.S_alloc | apply Kd.S_drewN | apply Kd.S_drew)); exact (Kd.S_mono (Kd.S_far (p := ⟨gb367, 2, none⟩) (Kd.S_far (p := ⟨gb367, 1, none⟩) (Kd.S_far (p := ⟨gb367, 0, none⟩) (Kd.S_types HO361.out BK367.out (by decide)) (fun _ hk => hk.2) (.int .i64 t358)) (fun _ hk => hk.2) (.slice Ao11 t359.length co11)) (fun _ hk => hk.2) (.slice Ao12 t362.length co12)) (fun _ h_ => h_.1))) (by decide)) hk (fun _ h => h.2)) (fun _ h => h.1)); replace HO364 := ak (Kd.R_mono (Kd.R_keep (IsS123.apart (show IsS123 w _ gb357 l0 t365 t366 from by repeat (first | (with_reducible first | exact HI357.out | apply IsS123.alloc | apply IsS123.drewN | apply IsS123.drew | apply IsS123.set_1 | apply IsS123.set_2 | refine IsS123.far ?_ NB357_356.out _ | refine IsS123.far ?_ NB357_367.out _) | exact HI357.out)) (by (with_reducible repeat (first | apply Kd.R_alloc | apply Kd.R_drewN | apply Kd.R_drew)); exact (Kd.R_mono (Kd.R_far (p := ⟨gb367, 2, none⟩) (Kd.R_far (p := ⟨gb367, 1, none⟩) (Kd.R_far (p := ⟨gb367, 0, none⟩) (Kd.R_types HO364.out BK367.out (by decide)) (fun _ hk => hk.2) (.int .i64 t358)) (fun _ hk => hk.2) (.slice Ao11 t359.length co11)) (fun _ hk => hk.2) (.slice Ao12 t362.length co12)) (fun _ h_ => h_.1))) (by decide)) hk (fun _ h => h.2)) (fun _ h => h.1)); replace BK367 := ak (KeepBut.blk hk (g' := gb367) (o := .cells #[.int .i64 t358, .slice Ao11 t359.length co11, .slice Ao12 t362.length co12] 38 (0, 0)) (by (with_reducible repeat (first | refine blk_drewN ?_ _ | refine blk_drew ?_ | refine blk_alloc ?_ _)); refine blk_put (cs := #[.int .i64 t358, .slice Ao11 t359.length co11, .slice none 0 0]) ?_ 2 _ rfl; (with_reducible repeat (first | refine blk_drewN ?_ _ | refine blk_drew ?_ | refine blk_alloc ?_ _)); refine blk_put (cs := #[.int .i64 t358, .slice none 0 0, .slice none 0 0]) ?_ 1 _ rfl; (with_reducible repeat (first | refine blk_drewN ?_ _ | refine blk_drew ?_ | refine blk_alloc ?_ _)); refine blk_put (cs := #[.int .i64 0, .slice none 0 0, .slice none 0 0]) ?_ 0 _ rfl; (with_reducible repeat (first | refine blk_drewN ?_ _ | refine blk_drew ?_ | refine blk_alloc ?_ _)); exact BK367.out) NB367_357.out (by simp)); replace HB := ak (hb); replace HI357 := ak (hi); (try clear hb); (try clear hk); (try clear hi)))
 go_loopg [6, 7] k (fun kq v6 v7 w' => ∃ (x6_1 : List Int) (x7_1 : Int) (x358001_1 : Int) (x358002_1 : Int), v7 = .int .i64 x7_1 ∧ Aside0 (spec_DrawTogetherSay.l0 kq x6_1 x7_1 l0 x358001_1 x358002_1 t358 t359 t362 = some (r1, r2, r3, r4)) ∧ Aside0 (kq ≤ k) ∧ Aside0 (Kd.R (Kd.int .i64) 3 w' w.heap.size (fun k_ => some k_ ≠ ((.slice Ao12 t362.length co12) : Value).ownBlock) v6 x6_1) ∧ Aside0 (Kd.S (Kd.slice 3 (Kd.int .i64)) 22 w' w.heap.size (fun k_ => some k_ ≠ (v6 : Value).ownBlock ∧ some k_ ≠ ((.slice Ao12 t362.length co12) : Value).ownBlock) (.slice Ao11 t359.length co11) t359) ∧ Aside0 (Kd.R (Kd.int .i64) 3 w' w.heap.size (fun k_ => some k_ ≠ (v6 : Value).ownBlock) (.slice Ao12 t362.length co12) t362) ∧ Aside0 (w'.heap[gb356]? = some (.cells #[.int .i64 0, (.slice none 0 0), (.slice none 0 0)] 38 (0, 0))) ∧ Aside0 (w'.heap[gb367]? = some (.cells #[.int .i64 t358, (.slice Ao11 t359.length co11), (.slice Ao12 t362.length co12)] 38 (0, 0))) ∧ Aside0 (IsS123 w w' gb357 l0 x358001_1 x358002_1) ∧ Aside0 (Below w.heap.size w w'))
 case atStart => exact ⟨(([] : List Int)), (wrap64 (Int.tdiv t368 8)), (t369), (t370), er, H', ⟨Nat.le_refl _⟩, ⟨by first | exact Kd.R_nil _ _ _ _ _ | exact Kd.N_nil _ _ _ _ _ | exact Kd.V_nil _ _ _ _ _ | exact Kd.Q_nil _ _ _ _ _ | exact Kd.S_nil _ _ _ _ _⟩, ⟨by (with_reducible repeat (first | apply Kd.S_alloc | apply Kd.S_drewN | apply Kd.S_drew)); exact Kd.S_mono HO361.out (fun _ hk => ⟨(by simp [Value.ownBlock]), hk⟩)⟩, ⟨by (with_reducible repeat (first | apply Kd.R_alloc | apply Kd.R_drewN | apply Kd.R_drew)); exact Kd.R_mono HO364.out (fun _ hk => (by simp [Value.ownBlock]))⟩, ⟨blkd BK356⟩, ⟨blkd BK367⟩, ⟨by repeat (first | (with_reducible first | exact HI357.out | apply IsS123.alloc | apply IsS123.drewN | apply IsS123.drew | apply IsS123.set_1 | apply IsS123.set_2 | refine IsS123.far ?_ NB357_356.out _ | refine IsS123.far ?_ NB357_367.out _) | exact HI357.out)⟩, ⟨by repeat (first | (with_reducible first | exact HB.out | apply below_alloc | apply pw_below_drewN | apply below_drew1 | refine below_set ?_ (IsS123.ge HI357.out) | refine below_set ?_ GE356.out | refine below_set ?_ GE367.out) | exact HB.out)⟩⟩
 case round =>
  clear H'
  (try clear hcz10_0); (try clear hcz10_1); (try clear hcz10_2); (try clear hfz10_0); (try clear hfz10_1); (try clear hfz10_2)
  obtain ⟨x6_1, x7_1, x358001_1, x358002_1, rfl, HA, HK1, HO_6, HO_368001, HO_368002, BK356, BK367, HI357, HB⟩ := hrel
  cases gk with
  | zero => exact absurd HA.out (by simp [spec_DrawTogetherSay.l0])
  | succ k1 =>
   have H := HA.out; clear HA
   simp only [spec_DrawTogetherSay.l0] at H
   by_cases c14 : x7_1 < t358
   ·rw [if_pos c14] at H
    have c14b0 : decide (x7_1 < t358) = true := decide_eq_true c14
    clear c14; replace H := bS H; obtain ⟨⟨t371, t372, t373⟩, A15, H⟩ := H
    replace H : (if x6_1.length < 17592186044416 then (spec_DrawTogetherSay.l0 k1 (x6_1 ++ [t371]) (wrap64 (x7_1 + 1)) l0 t372 t373 t358 t359 t362) else (none)) = some (r1, r2, r3, r4) := H
    replace H := ifS H; obtain ⟨c16, H⟩ := H; have LMc16 := Aside0.mk c16; clear c16
    obtain ⟨y374, hy_⟩ : ∃ y_ : List Int, y_ = (x6_1 ++ [t371]) := ⟨_, rfl⟩
    replace H : (spec_DrawTogetherSay.l0 k1 y374 (wrap64 (x7_1 + 1)) l0 t372 t373 t358 t359 t362) = some (r1, r2, r3, r4) := yH
    have Ny374 := ak hy_; clear hy_
    have H' := Aside0.mk H
    clear H; have hnb17 := NB367_356.out; have hnc17 := NB356_367.out; have hnb18 := NB367_357.out; have hnc18 := NB357_367.out; obtain ⟨hcz19_0, hcz19_1, hcz19_2, hfz19_0, hfz19_1, hfz19_2⟩ := box3 BK367
    go_wp2_with (first | ((with_reducible refine gate_callee (f := 113) rfl ?_); refine goesLa (some 24) rfl Try.func113 #[.pointer (some ⟨gb357, 0, none⟩), .int .i64 256] rfl ?_; (with_reducible refine (spec_l1Cur_pick.calls gb357 l0 x358001_1 x358002_1 256 t371 t372 t373 w _ ?side1 ?side2 A15.out).mono ?_); (case side1 => repeat (first | (with_reducible first | exact HI357.out | apply IsS123.alloc | apply IsS123.drewN | apply IsS123.drew | apply IsS123.set_1 | apply IsS123.set_2 | refine IsS123.far ?_ NB357_356.out _ | refine IsS123.far ?_ NB357_367.out _) | exact HI357.out)); (case side2 => repeat (first | (with_reducible first | exact HB.out | apply below_alloc | apply pw_below_drewN | apply below_drew1 | refine below_set ?_ (IsS123.ge HI357.out) | refine below_set ?_ GE356.out | refine below_set ?_ GE367.out) | exact HB.out)); rintro e w20 ⟨rfl, hi, hb, hk⟩; refine ⟨_, rfl, ?_⟩; replace HO_6 := ak (Kd.R_mono (Kd.R_keep (IsS123.apart (show IsS123 w _ gb357 l0 x358001_1 x358002_1 from by repeat (first | (with_reducible first | exact HI357.out | apply IsS123.alloc | apply IsS123.drewN | apply IsS123.drew | apply IsS123.set_1 | apply IsS123.set_2 | refine IsS123.far ?_ NB357_356.out _ | refine IsS123.far ?_ NB357_367.out _) | exact HI357.out)) (rdl HO_6) (by decide)) hk (fun _ h => h.2)) (fun _ h => h.1)); replace HO_368001 := ak (Kd.S_mono (Kd.S_keep (IsS123.apartS (show IsS123 w _ gb357 l0 x358001_1 x358002_1 from by repeat (first | (with_reducible first | exact HI357.out | apply IsS123.alloc | apply IsS123.drewN | apply IsS123.drew | apply IsS123.set_1 | apply IsS123.set_2 | refine IsS123.far ?_ NB357_356.out _ | refine IsS123.far ?_ NB357_367.out _) | exact HI357.out)) (sd HO_368001) (by decide)) hk (fun _ h => h.2)) (fun _ h => h.1)); replace HO_368002 := ak (Kd.R_mono (Kd.R_keep (IsS123.apart (show IsS123 w _ gb357 l0 x358001_1 x358002_1 from by repeat (first | (with_reducible first | exact HI357.out | apply IsS123.alloc | apply IsS123.drewN | apply IsS123.drew | apply IsS123.set_1 | apply IsS123.set_2 | refine IsS123.far ?_ NB357_356.out _ | refine IsS123.far ?_ NB357_367.out _) | exact HI357.out)) (rdl HO_368002) (by decide)) hk (fun _ h => h.2)) (fun _ h => h.1)); replace BK356 := ak (KeepBut.blk hk (g' := gb356) (blkd BK356) NB356_357.out (by simp)); replace BK367 := ak (KeepBut.blk hk (g' := gb367) (blkd BK367) NB367_357.out (by simp)); replace HB := ak (hb); replace HI357 := ak (hi); (try clear hb); (try clear hk); (try clear hi)) | ((with_reducible refine gate_builtin (b := .append) (xs := #[.tmp 22, .tmp 25]) rfl ?_); at_builtin; refine Kd.R_append (Kd.int .i64) (w0 := w) w.heap.size rfl (.tmp 22) (.tmp 25) 22 3 (.int .i64 0) 8 rfl Try.underlying22 info3 rfl (by decide) (by omega) u6 x6_1 t371 [.int .i64 t371] (fun k_ => some k_ ≠ (.slice Ao12 t362.length co12 : Value).ownBlock) (fun _ => False) rfl rfl ?aP (fun _ hk => hk.elim) ?aF ?aO ?aB ?aS ?aL ?_; (case aP => exact rfl); (case aB => exact (by repeat (first | (with_reducible first | exact HB.out | apply below_alloc | apply pw_below_drewN | apply below_drew1 | refine below_set ?_ (IsS123.ge HI357.out) | refine below_set ?_ GE356.out | refine below_set ?_ GE367.out) | exact HB.out))); (case aF => exact (fun k_ hk => Kd.fresh' (Kd.R_lt (rdl HO_368002)) k_ hk)); (case aO => exact (rdl HO_6)); (case aS => exact (below_size (by repeat (first | (with_reducible first | exact HB.out | apply below_alloc | apply pw_below_drewN | apply below_drew1 | refine below_set ?_ (IsS123.ge HI357.out) | refine below_set ?_ GE356.out | refine below_set ?_ GE367.out) | exact HB.out)))); (case aL => have := LMc16.out; omega); intro v375 w21 ho hb hg hat; rw [← Ny374.out] at ho; replace HO_368001 := ak (Kd.S_after (ok := (fun k_ => some k_ ≠ (.slice Ao12 t362.length co12 : Value).ownBlock)) (by (with_reducible repeat (first | apply Kd.S_alloc | apply Kd.S_drewN | apply Kd.S_drew)); exact Kd.S_mono HO_368001.out (fun _ hk => ⟨hk.2, hk.1⟩)) hg hat); replace HO_368002 := ak (Kd.R_after (ok := (fun _ => True)) (by (with_reducible repeat (first | apply Kd.R_alloc | apply Kd.R_drewN | apply Kd.R_drew)); exact Kd.R_mono HO_368002.out (fun _ hk => ⟨trivial, hk⟩)) hg hat); replace BK356 := ak (blk_grown (blkd BK356) hg (Kd.R_ne HO_6.out BK356.out (by decide))); replace BK367 := ak (blk_grown (blkd BK367) hg (Kd.R_ne HO_6.out BK367.out (by decide))); replace HI357 := ak (IsS123.grown (by repeat (first | (with_reducible first | exact HI357.out | apply IsS123.alloc | apply IsS123.drewN | apply IsS123.drew | apply IsS123.set_1 | apply IsS123.set_2 | refine IsS123.far ?_ NB357_356.out _ | refine IsS123.far ?_ NB357_367.out _) | exact HI357.out)) hg (IsS123.own_ne HI357.out HO_6.out (by decide))); replace HB := ak (hb); have HO376 := ak (ho); clear HO_6; clear ho hb hg hat))
    go_roundg k1
    case measure => have := HK1.out; omega
    case rel => exact ⟨(y374), (wrap64 (x7_1 + 1)), (t372), (t373), er, H', ⟨by have := HK1.out; omega⟩, ⟨rdl HO376⟩, ⟨by (with_reducible repeat (first | apply Kd.S_alloc | apply Kd.S_drewN | apply Kd.S_drew)); exact Kd.S_mono HO_368001.out (fun _ hk => ⟨hk.2, hk.1⟩)⟩, ⟨by (with_reducible repeat (first | apply Kd.R_alloc | apply Kd.R_drewN | apply Kd.R_drew)); exact Kd.R_mono HO_368002.out (fun _ hk => hk.2)⟩, ⟨blkd BK356⟩, ⟨blkd BK367⟩, ⟨by repeat (first | (with_reducible first | exact HI357.out | apply IsS123.alloc | apply IsS123.drewN | apply IsS123.drew | apply IsS123.set_1 | apply IsS123.set_2 | refine IsS123.far ?_ NB357_356.out _ | refine IsS123.far ?_ NB357_367.out _) | exact HI357.out)⟩, ⟨by repeat (first | (with_reducible first | exact HB.out | apply below_alloc | apply pw_below_drewN | apply below_drew1 | refine below_set ?_ (IsS123.ge HI357.out) | refine below_set ?_ GE356.out | refine below_set ?_ GE367.out) | exact HB.out)⟩⟩
   ·rw [if_neg c14] at H
    have c14b0 : decide (x7_1 < t358) = false := decide_eq_false c14
    clear c14
    simp only [Option.some.injEq, Prod.mk.injEq] at H
    obtain ⟨rfl, rfl, rfl, rfl⟩ := H; have hnb22 := NB367_356.out; have hnc22 := NB356_367.out; have hnb23 := NB367_357.out; have hnc23 := NB357_367.out; obtain ⟨hcz24_0, hcz24_1, hcz24_2, hfz24_0, hfz24_1, hfz24_2⟩ := box3 BK367; have hnb25 := NB356_357.out; have hnc25 := NB357_356.out; obtain ⟨hcz26_0, hcz26_1, hcz26_2, hfz26_0, hfz26_1, hfz26_2⟩ := box3 BK356; go_wp2
    refine bodyPost_ret (results_ct rfl _ _ gb356 38 #[.int .i64 t358, .slice Ao11 t359.length co11, .slice Ao12 t362.length co12] (0, 0) _ rfl (by (with_reducible repeat (first | refine blk_drewN ?_ _ | refine blk_drew ?_ | refine blk_alloc ?_ _)); refine blk_put (cs := #[.int .i64 t358, .slice Ao11 t359.length co11, .slice none 0 0]) ?_ 2 _ rfl; (with_reducible repeat (first | refine blk_drewN ?_ _ | refine blk_drew ?_ | refine blk_alloc ?_ _)); refine blk_put (cs := #[.int .i64 t358, .slice none 0 0, .slice none 0 0]) ?_ 1 _ rfl; (with_reducible repeat (first | refine blk_drewN ?_ _ | refine blk_drew ?_ | refine blk_alloc ?_ _)); refine blk_put (cs := #[.int .i64 0, .slice none 0 0, .slice none 0 0]) ?_ 0 _ rfl; (with_reducible repeat (first | refine blk_drewN ?_ _ | refine blk_drew ?_ | refine blk_alloc ?_ _)); exact BK356.out) Try.underlying38 rfl (by kernel_rfl)) rfl ?_
    exact ⟨_, _, _, er2, by (with_reducible repeat (first | apply Kd.S_alloc | apply Kd.S_drewN | apply Kd.S_drew)); exact Kd.S_mono (Kd.S_far (p := ⟨gb356, 2, none⟩) (Kd.S_far (p := ⟨gb356, 1, none⟩) (Kd.S_far (p := ⟨gb356, 0, none⟩) (Kd.S_types HO_368001.out BK356.out (by decide)) (fun _ hk => hk.2) (.int .i64 t358)) (fun _ hk => hk.2) (.slice Ao11 t359.length co11)) (fun _ hk => hk.2) (.slice Ao12 t362.length co12)) (fun _ hk => ⟨hk.1.2, hk.1.1⟩), by (with_reducible repeat (first | apply Kd.R_alloc | apply Kd.R_drewN | apply Kd.R_drew)); exact Kd.R_mono (Kd.R_far (p := ⟨gb356, 2, none⟩) (Kd.R_far (p := ⟨gb356, 1, none⟩) (Kd.R_far (p := ⟨gb356, 0, none⟩) (Kd.R_types HO_368002.out BK356.out (by decide)) (fun _ hk => hk.2) (.int .i64 t358)) (fun _ hk => hk.2) (.slice Ao11 t359.length co11)) (fun _ hk => hk.2) (.slice Ao12 t362.length co12)) (fun _ hk => hk.1), by (with_reducible repeat (first | apply Kd.R_alloc | apply Kd.R_drewN | apply Kd.R_drew)); exact Kd.R_mono (Kd.R_far (p := ⟨gb356, 2, none⟩) (Kd.R_far (p := ⟨gb356, 1, none⟩) (Kd.R_far (p := ⟨gb356, 0, none⟩) (Kd.R_types HO_6.out BK356.out (by decide)) (fun _ hk => hk.2) (.int .i64 t358)) (fun _ hk => hk.2) (.slice Ao11 t359.length co11)) (fun _ hk => hk.2) (.slice Ao12 t362.length co12)) (fun _ hk => hk.1), by repeat (first | (with_reducible first | exact HB.out | apply below_alloc | apply pw_below_drewN | apply below_drew1 | refine below_set ?_ (IsS123.ge HI357.out) | refine below_set ?_ GE356.out | refine below_set ?_ GE367.out) | exact HB.out)⟩

/-! ### slices_Index_int_int: function 156 -/
def slices_Index_int_int.l0 : Nat → List Int → Int → Int → Int → Option (Int)
  | 0, _, _, _, _ => none
  | k + 1, x0, x1, x7, x8 => if x8 < x7 then (if 0 ≤ x8 then (if x8 < (x0.length : Int) then (if x1 = (rd x0 x8) then (some x8) else (slices_Index_int_int.l0 k x0 x1 x7 (wrap64 (x8 + 1)))) else (none)) else (none)) else (some (-1))
def slices_Index_int_int.f (k : Nat) (l0 : List Int) (a1 : Int) : Option (Int) := slices_Index_int_int.l0 k l0 a1 (l0.length : Int) 0
theorem slices_Index_int_int.mono_l : ∀ k, (∀ y0 y1 y2 y3, LeO (slices_Index_int_int.l0 k y0 y1 y2 y3) (slices_Index_int_int.l0 (k + 1) y0 y1 y2 y3))
 | 0 => fun _ _ _ _ r h => by simp [slices_Index_int_int.l0] at h
 | k + 1 => by
  have ih0 := slices_Index_int_int.mono_l k
  ·intro y0 y1 y2 y3
   unfold slices_Index_int_int.l0
   repeat' (first | (with_reducible first | exact ih0 _ _ _ _ | exact LeO.refl _ | exact LeO.none _ | refine LeO.ite ?_ ?_ | refine LeO.bind ?_ (fun _ => ?_)) | exact ih0 _ _ _ _ | exact LeO.none _ | refine LeO.ite ?_ ?_ | refine LeO.bind ?_ (fun _ => ?_))
theorem slices_Index_int_int.mono : ∀ a0 a1 k, LeO (slices_Index_int_int.f k a0 a1) (slices_Index_int_int.f (k + 1) a0 a1) := by
 intro a0 a1 k
 have ih0 := slices_Index_int_int.mono_l k
 unfold slices_Index_int_int.f
 repeat' (first | (with_reducible first | exact ih0 _ _ _ _ | exact LeO.refl _ | exact LeO.none _ | refine LeO.ite ?_ ?_ | refine LeO.bind ?_ (fun _ => ?_)) | exact ih0 _ _ _ _ | exact LeO.none _ | refine LeO.ite ?_ ?_ | refine LeO.bind ?_ (fun _ => ?_))
set_option maxHeartbeats 8000000 in
set_option maxRecDepth 100000 in
theorem slices_Index_int_int.calls (k : Nat) (A0 : Option Addr) (c0 : Nat) (l0 : List Int) (a1 : Int) (r : Int) (w : World) (hr0 : Kd.C (Kd.int .i64) w A0 l0.length l0) (hc0 : l0.length ≤ c0) (h : slices_Index_int_int.f k l0 a1 = some r) :
  Calls Try.prog 156 #[.slice A0 l0.length c0, .int .i64 a1] w fun e w' => e = .returned (.int .i64 r) ∧ Drawn0 w w' := by
 have HR0 := Aside0.mk hr0; have HC0 := Aside0.mk hc0; clear hr0 hc0
 have H : (slices_Index_int_int.l0 k l0 a1 (l0.length : Int) 0) = some r := h
 clear h
 have H' := Aside0.mk H
 clear H
 go_enter Try.func156, Try.ntmps156
 go_wp2
 go_loopg [8] k (fun kq v8 w' => ∃ (x8_1 : Int), v8 = .int .i64 x8_1 ∧ Aside0 (slices_Index_int_int.l0 kq l0 a1 (l0.length : Int) x8_1 = some r) ∧ Aside0 (kq ≤ k) ∧ Drawn0 w w')
 case atStart => exact ⟨(0), er, H', ⟨Nat.le_refl _⟩, drw⟩
 case round =>
  clear H'
  obtain ⟨x8_1, rfl, HA, HK1, ⟨m1, rfl⟩⟩ := hrel
  cases gk with
  | zero => exact absurd HA.out (by simp [slices_Index_int_int.l0])
  | succ k1 =>
   have H := HA.out; clear HA
   simp only [slices_Index_int_int.l0] at H
   by_cases c3 : x8_1 < (l0.length : Int)
   ·rw [if_pos c3] at H
    have c3b0 : decide (x8_1 < (l0.length : Int)) = true := decide_eq_true c3
    clear c3; replace H := ifS H; obtain ⟨c4, H⟩ := H; have c4b0 := decide_eq_true c4; clear c4; replace H := ifS H; obtain ⟨c5, H⟩ := H; have c5b0 := decide_eq_true c5; clear c5
    by_cases c6 : a1 = (rd l0 x8_1)
    ·rw [if_pos c6] at H
     have c6b0 : (a1 == (rd l0 x8_1)) = true := beq_iff_eq.mpr c6
     have c6b1 : (a1 != (rd l0 x8_1)) = false := bne_eq_false_iff_eq.mpr c6
     clear c6
     obtain rfl := Option.some.inj H
     have p377 : 0 ≤ (x8_1 : Int) := da
     have q377 : x8_1 < (l0.length : Int) := da
     obtain ⟨ad377, e377, hx377_0⟩ := Kd.at_int HR0.out x8_1 p377 q377
     cases e377
     replace p377 := eq_true p377; replace q377 := eq_true q377; go_wp2
     go_ret
     exact ⟨er, drw⟩
    ·rw [if_neg c6] at H
     have c6b0 : (a1 == (rd l0 x8_1)) = false := beq_eq_false_iff_ne.mpr c6
     have c6b1 : (a1 != (rd l0 x8_1)) = true := bne_iff_ne.mpr c6
     have H' := Aside0.mk H
     clear H
     have p377 : 0 ≤ (x8_1 : Int) := da
     have q377 : x8_1 < (l0.length : Int) := da
     obtain ⟨ad377, e377, hx377_0⟩ := Kd.at_int HR0.out x8_1 p377 q377
     cases e377
     replace p377 := eq_true p377; replace q377 := eq_true q377; go_wp2
     go_roundg k1
     case measure => have := HK1.out; omega
     case rel => exact ⟨(wrap64 (x8_1 + 1)), er, H', ⟨by have := HK1.out; omega⟩, drw⟩
   ·rw [if_neg c3] at H
    have c3b0 : decide (x8_1 < (l0.length : Int)) = false := decide_eq_false c3
    clear c3
    obtain rfl := Option.some.inj H
    go_wp2
    go_ret
    exact ⟨er, drw⟩

/-! ### slices_Contains_int_int: function 148 -/
def slices_Contains_int_int.f (k : Nat) (l0 : List Int) (a1 : Int) : Option (Bool) := (slices_Index_int_int.f k l0 a1).bind fun t378 => (some (decide (t378 ≥ 0)))
theorem slices_Contains_int_int.mono : ∀ a0 a1 k, LeO (slices_Contains_int_int.f k a0 a1) (slices_Contains_int_int.f (k + 1) a0 a1) := by
 intro a0 a1 k
 unfold slices_Contains_int_int.f
 repeat' (first | (with_reducible first | exact slices_Index_int_int.mono _ _ _ | exact LeO.refl _ | exact LeO.none _ | refine LeO.ite ?_ ?_ | refine LeO.bind ?_ (fun _ => ?_)) | exact slices_Index_int_int.mono _ _ _ | exact LeO.none _ | refine LeO.ite ?_ ?_ | refine LeO.bind ?_ (fun _ => ?_))
set_option maxHeartbeats 8000000 in
set_option maxRecDepth 100000 in
theorem slices_Contains_int_int.calls (k : Nat) (A0 : Option Addr) (c0 : Nat) (l0 : List Int) (a1 : Int) (r : Bool) (w : World) (hr0 : Kd.C (Kd.int .i64) w A0 l0.length l0) (hc0 : l0.length ≤ c0) (h : slices_Contains_int_int.f k l0 a1 = some r) :
  Calls Try.prog 148 #[.slice A0 l0.length c0, .int .i64 a1] w fun e w' => e = .returned (.bool r) ∧ Drawn0 w w' := by
 have HR0 := Aside0.mk hr0; have HC0 := Aside0.mk hc0; clear hr0 hc0
 have H : ((slices_Index_int_int.f k l0 a1).bind fun t378 => (some (decide (t378 ≥ 0)))) = some r := h
 clear h; replace H := bS H; obtain ⟨t378, A3, H⟩ := H
 replace H : (some (decide (t378 ≥ 0))) = some r := H
 obtain rfl := Option.some.inj H
 go_enter Try.func148, Try.ntmps148
 go_wp2_with (first | ((with_reducible refine gate_callee (f := 156) rfl ?_); refine goesLa (some 7) rfl Try.func156 #[.slice A0 l0.length c0, .int .i64 a1] rfl ?_; (with_reducible refine (slices_Index_int_int.calls k _ _ l0 a1 t378 _ ?side1 ?side2 A3.out).mono ?_); (case side1 => exact cd HR0.out); (case side2 => exact HC0.out); rintro e w' ⟨rfl, ⟨nd, rfl⟩⟩; refine ⟨_, rfl, ?_⟩))
 go_ret
 exact ⟨er, drw⟩

/-! ### impl_Table_coins: function 129 -/
def impl_Table_coins.l0 : Nat → Int → Int → List (List Int) → Int → Int → Int → List (List Int) → List Int → Option (Int)
  | 0, _, _, _, _, _, _, _, _ => none
  | k + 1, x1, x5, x9, x10, x11, x380000, x380001, x380002 => if x11 < x10 then (if 0 ≤ x11 then (if x11 < (x9.length : Int) then ((slices_Contains_int_int.f k (rd_L1 x9 x11) x1).bind fun t381 => (if t381 = true then (if x11 < (x380002.length : Int) then (impl_Table_coins.l0 k x1 (Go.bits .xor .i64 x5 (rd x380002 x11)) x9 x10 (wrap64 (x11 + 1)) x380000 x380001 x380002) else (none)) else (impl_Table_coins.l0 k x1 x5 x9 x10 (wrap64 (x11 + 1)) x380000 x380001 x380002))) else (none)) else (none)) else (some x5)
def impl_Table_coins.f (k : Nat) (a0_0 : Int) (l0_1 : List (List Int)) (l0_2 : List Int) (a1 : Int) : Option (Int) := impl_Table_coins.l0 k a1 0 l0_1 (l0_1.length : Int) 0 a0_0 l0_1 l0_2
theorem impl_Table_coins.mono_l : ∀ k, (∀ y0 y1 y2 y3 y4 y5 y6 y7, LeO (impl_Table_coins.l0 k y0 y1 y2 y3 y4 y5 y6 y7) (impl_Table_coins.l0 (k + 1) y0 y1 y2 y3 y4 y5 y6 y7))
 | 0 => fun _ _ _ _ _ _ _ _ r h => by simp [impl_Table_coins.l0] at h
 | k + 1 => by
  have ih0 := impl_Table_coins.mono_l k
  ·intro y0 y1 y2 y3 y4 y5 y6 y7
   unfold impl_Table_coins.l0
   repeat' (first | (with_reducible first | exact ih0 _ _ _ _ _ _ _ _ | exact slices_Contains_int_int.mono _ _ _ | exact LeO.refl _ | exact LeO.none _ | refine LeO.ite ?_ ?_ | refine LeO.bind ?_ (fun _ => ?_)) | exact ih0 _ _ _ _ _ _ _ _ | exact slices_Contains_int_int.mono _ _ _ | exact LeO.none _ | refine LeO.ite ?_ ?_ | refine LeO.bind ?_ (fun _ => ?_))
theorem impl_Table_coins.mono : ∀ a0 a1 a2 a3 k, LeO (impl_Table_coins.f k a0 a1 a2 a3) (impl_Table_coins.f (k + 1) a0 a1 a2 a3) := by
 intro a0 a1 a2 a3 k
 have ih0 := impl_Table_coins.mono_l k
 unfold impl_Table_coins.f
 repeat' (first | (with_reducible first | exact ih0 _ _ _ _ _ _ _ _ | exact slices_Contains_int_int.mono _ _ _ | exact LeO.refl _ | exact LeO.none _ | refine LeO.ite ?_ ?_ | refine LeO.bind ?_ (fun _ => ?_)) | exact ih0 _ _ _ _ _ _ _ _ | exact slices_Contains_int_int.mono _ _ _ | exact LeO.none _ | refine LeO.ite ?_ ?_ | refine LeO.bind ?_ (fun _ => ?_))
set_option maxHeartbeats 8000000 in
set_option maxRecDepth 100000 in
theorem impl_Table_coins.calls (k : Nat) (a0_0 : Int) (A0_1 : Option Addr) (c0_1 : Nat) (l0_1 : List (List Int)) (A0_2 : Option Addr) (c0_2 : Nat) (l0_2 : List Int) (a1 : Int) (r : Int) (w : World) (hr0_1 : Kd.C (Kd.slice 3 (Kd.int .i64)) w A0_1 l0_1.length l0_1) (hc0_1 : l0_1.length ≤ c0_1) (hr0_2 : Kd.C (Kd.int .i64) w A0_2 l0_2.length l0_2) (hc0_2 : l0_2.length ≤ c0_2) (h : impl_Table_coins.f k a0_0 l0_1 l0_2 a1 = some r) :
  Calls Try.prog 129 #[.agg #[.int .i64 a0_0, .slice A0_1 l0_1.length c0_1, .slice A0_2 l0_2.length c0_2], .int .i64 a1] w fun e w' => e = .returned (.int .i64 r) ∧ Below w.heap.size w w' := by
 have hu38 := Try.underlying38
 have HR0_1 := Aside0.mk hr0_1; have HC0_1 := Aside0.mk hc0_1; clear hr0_1 hc0_1; have HR0_2 := Aside0.mk hr0_2; have HC0_2 := Aside0.mk hc0_2; clear hr0_2 hc0_2
 have HB := Aside0.mk (Below.refl w.heap.size w)
 have H : (impl_Table_coins.l0 k a1 0 l0_1 (l0_1.length : Int) 0 a0_0 l0_1 l0_2) = some r := h
 clear h
 have H' := Aside0.mk H
 clear H
 go_enter Try.func129, Try.ntmps129
 go_wp2_with (first | ((with_reducible refine gate_dst (N := 2) rfl ?_); refine boxev 2 #[.int .i64 a0_0, .slice A0_1 l0_1.length c0_1, .slice A0_2 l0_2.length c0_2] 38 ?_; intro gb379 hg w3 hbox hb; have BK379 := ak (hbox); have GW379 := ak (hgl hg (belowd HB)); have GE379 := ak (hgl hg (belowd HB)); replace HB := ak (below_step (belowd HB) hb); clear hb hbox hg; obtain ⟨hcz4_0, hcz4_1, hcz4_2, hfz4_0, hfz4_1, hfz4_2⟩ := box3 BK379))
 go_loopg [5, 11] k (fun kq v5 v11 w' => ∃ (x5_1 : Int) (x11_1 : Int), v5 = .int .i64 x5_1 ∧ v11 = .int .i64 x11_1 ∧ Aside0 (impl_Table_coins.l0 kq a1 x5_1 l0_1 (l0_1.length : Int) x11_1 a0_0 l0_1 l0_2 = some r) ∧ Aside0 (kq ≤ k) ∧ Aside0 (w'.heap[gb379]? = some (.cells #[.int .i64 a0_0, (.slice A0_1 l0_1.length c0_1), (.slice A0_2 l0_2.length c0_2)] 38 (0, 0))) ∧ Aside0 (Below w.heap.size w w'))
 case atStart => exact ⟨(0), (0), er, er, H', ⟨Nat.le_refl _⟩, ⟨blkd BK379⟩, ⟨belowg1 HB GE379⟩⟩
 case round =>
  clear H'
  (try clear hcz4_0); (try clear hcz4_1); (try clear hcz4_2); (try clear hfz4_0); (try clear hfz4_1); (try clear hfz4_2)
  obtain ⟨x5_1, x11_1, rfl, rfl, HA, HK1, BK379, HB⟩ := hrel
  cases gk with
  | zero => exact absurd HA.out (by simp [impl_Table_coins.l0])
  | succ k1 =>
   have H := HA.out; clear HA
   simp only [impl_Table_coins.l0] at H
   by_cases c5 : x11_1 < (l0_1.length : Int)
   ·rw [if_pos c5] at H
    have c5b0 : decide (x11_1 < (l0_1.length : Int)) = true := decide_eq_true c5
    clear c5; replace H := ifS H; obtain ⟨c6, H⟩ := H; have c6b0 := decide_eq_true c6; clear c6; replace H := ifS H; obtain ⟨c7, H⟩ := H; have c7b0 := decide_eq_true c7; clear c7; replace H := bS H; obtain ⟨t381, A8, H⟩ := H
    replace H : (if t381 = true then (if x11_1 < (l0_2.length : Int) then (impl_Table_coins.l0 k1 a1 (Go.bits .xor .i64 x5_1 (rd l0_2 x11_1)) l0_1 (l0_1.length : Int) (wrap64 (x11_1 + 1)) a0_0 l0_1 l0_2) else (none)) else (impl_Table_coins.l0 k1 a1 x5_1 l0_1 (l0_1.length : Int) (wrap64 (x11_1 + 1)) a0_0 l0_1 l0_2)) = some r := H
    by_cases c9 : t381 = true
    ·subst c9
     have H1 : (if x11_1 < (l0_2.length : Int) then (impl_Table_coins.l0 k1 a1 (Go.bits .xor .i64 x5_1 (rd l0_2 x11_1)) l0_1 (l0_1.length : Int) (wrap64 (x11_1 + 1)) a0_0 l0_1 l0_2) else (none)) = some r := by rw [if_pos rfl] at H; exact H
     clear H
     have H := H1
     clear H1; replace H := ifS H; obtain ⟨c10, H⟩ := H; have c10b0 := decide_eq_true c10; clear c10
     have H' := Aside0.mk H
     clear H
     have p380 : 0 ≤ (x11_1 : Int) := da
     have q380 : x11_1 < (l0_1.length : Int) := da
     obtain ⟨ad380, A380_0, c380_0, e380, hx380_0, hl380_0, hi380_0⟩ := at_L1 HR0_1.out x11_1 p380 q380
     cases e380
     replace hx380_0 := (HB.out.cell (World.block_lt_of_cell? w _ hx380_0)).trans hx380_0
     have HR380_0 := Aside0.mk hi380_0; have HC380_0 := Aside0.mk hl380_0; clear hi380_0 hl380_0; replace p380 := eq_true p380; replace q380 := eq_true q380
     go_wp2_with (first | ((with_reducible refine gate_callee (f := 148) rfl ?_); refine goesLa (some 18) rfl Try.func148 #[.slice A380_0 (rd_L1 l0_1 x11_1).length c380_0, .int .i64 a1] rfl ?_; (with_reducible refine (slices_Contains_int_int.calls k1 _ _ (rd_L1 l0_1 x11_1) a1 true _ ?side1 ?side2 A8.out).mono ?_); (case side1 => exact cd (Kd.C_below HR380_0.out HB.out)); (case side2 => exact HC380_0.out); rintro e w' ⟨rfl, ⟨nd, rfl⟩⟩; refine ⟨_, rfl, ?_⟩; obtain ⟨hcz11_0, hcz11_1, hcz11_2, hfz11_0, hfz11_1, hfz11_2⟩ := box3 BK379; have p382 : 0 ≤ (x11_1 : Int) := da; have q382 : x11_1 < (l0_2.length : Int) := da; obtain ⟨ad382, e382, hx382_0⟩ := Kd.at_int HR0_2.out x11_1 p382 q382; cases e382; replace hx382_0 := (HB.out.cell (World.block_lt_of_cell? w _ hx382_0)).trans hx382_0; replace p382 := eq_true p382; replace q382 := eq_true q382))
     go_roundg k1
     case measure => have := HK1.out; omega
     case rel => exact ⟨(Go.bits .xor .i64 x5_1 (rd l0_2 x11_1)), (wrap64 (x11_1 + 1)), er, er, H', ⟨by have := HK1.out; omega⟩, ⟨blkd BK379⟩, ⟨belowg1 HB GE379⟩⟩
    ·replace c9 := Bool.eq_false_iff.mpr c9
     subst c9
     have H1 : (impl_Table_coins.l0 k1 a1 x5_1 l0_1 (l0_1.length : Int) (wrap64 (x11_1 + 1)) a0_0 l0_1 l0_2) = some r := by rw [if_neg (show ¬ (false = true) by decide)] at H; exact H
     clear H
     have H := H1
     clear H1
     have H' := Aside0.mk H
     clear H
     have p380 : 0 ≤ (x11_1 : Int) := da
     have q380 : x11_1 < (l0_1.length : Int) := da
     obtain ⟨ad380, A380_0, c380_0, e380, hx380_0, hl380_0, hi380_0⟩ := at_L1 HR0_1.out x11_1 p380 q380
     cases e380
     replace hx380_0 := (HB.out.cell (World.block_lt_of_cell? w _ hx380_0)).trans hx380_0
     have HR380_0 := Aside0.mk hi380_0; have HC380_0 := Aside0.mk hl380_0; clear hi380_0 hl380_0; replace p380 := eq_true p380; replace q380 := eq_true q380
     go_wp2_with (first | ((with_reducible refine gate_callee (f := 148) rfl ?_); refine goesLa (some 18) rfl Try.func148 #[.slice A380_0 (rd_L1 l0_1 x11_1).length c380_0, .int .i64 a1] rfl ?_; (with_reducible refine (slices_Contains_int_int.calls k1 _ _ (rd_L1 l0_1 x11_1) a1 false _ ?side1 ?side2 A8.out).mono ?_); (case side1 => exact cd (Kd.C_below HR380_0.out HB.out)); (case side2 => exact HC380_0.out); rintro e w' ⟨rfl, ⟨nd, rfl⟩⟩; refine ⟨_, rfl, ?_⟩))
     go_roundg k1
     case measure => have := HK1.out; omega
     case rel => exact ⟨(x5_1), (wrap64 (x11_1 + 1)), er, er, H', ⟨by have := HK1.out; omega⟩, ⟨blkd BK379⟩, ⟨belowg1 HB GE379⟩⟩
   ·rw [if_neg c5] at H
    have c5b0 : decide (x11_1 < (l0_1.length : Int)) = false := decide_eq_false c5
    clear c5
    obtain rfl := Option.some.inj H
    go_wp2
    go_ret
    exact ⟨er2, belowg1 HB GE379⟩

end Go.Proofs.Ytpibdgknmjjolaa.QFnGroups
