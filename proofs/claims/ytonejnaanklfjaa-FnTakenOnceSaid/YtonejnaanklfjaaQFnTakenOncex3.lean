-- printed by this session's own program (wip/tools/pp.py: the kit's print.py with changes); Lean checks it
import Derived.Test.YtonejnaanklfjaaQFnTakenOncex0
import Derived.Test.YtonejnaanklfjaaQFnTakenOncex2
namespace Go.Proofs.Ytonejnaanklfjaa.QFnTakenOnce
open Go.RowKit Go.Proofs.YtonejnaanklfjaaW.PrintWords Go.Proofs.YtonejnaanklfjaaW.PrintLast Go.Proofs.YtonejnaanklfjaaW.PrintMore
attribute [local go_sem] max2_int min2_int max_two min_two max_three min_three max_four min_four strLss strGtr strLeq strGeq   -- for this text's walks alone
set_option linter.unusedVariables false
set_option linter.unusedSimpArgs false

/-! ### impl_allWithin: function 109 -/
def impl_allWithin.l0 : Nat → Int → Int → List Int → Int → Int → Option (Bool)
  | 0, _, _, _, _, _ => none
  | k + 1, x1, x2, x9, x10, x11 => if x11 < x10 then (if 0 ≤ x11 then (if x11 < (x9.length : Int) then ((impl_within.f (rd x9 x11) x1 x2).bind fun t183 => (if t183 = true then (impl_allWithin.l0 k x1 x2 x9 x10 (wrap64 (x11 + 1))) else (some false))) else (none)) else (none)) else (some true)
def impl_allWithin.f (k : Nat) (l0 : List Int) (a1 : Int) (a2 : Int) : Option (Bool) := impl_allWithin.l0 k a1 a2 l0 (l0.length : Int) 0
theorem impl_allWithin.mono_l : ∀ k, (∀ y0 y1 y2 y3 y4, LeO (impl_allWithin.l0 k y0 y1 y2 y3 y4) (impl_allWithin.l0 (k + 1) y0 y1 y2 y3 y4))
 | 0 => fun _ _ _ _ _ r h => by simp [impl_allWithin.l0] at h
 | k + 1 => by
  have ih0 := impl_allWithin.mono_l k
  ·intro y0 y1 y2 y3 y4
   unfold impl_allWithin.l0
   repeat' (first | (with_reducible first | exact ih0 _ _ _ _ _ | exact LeO.refl _ | exact LeO.none _ | refine LeO.ite ?_ ?_ | refine LeO.bind ?_ (fun _ => ?_)) | exact ih0 _ _ _ _ _ | exact LeO.none _ | refine LeO.ite ?_ ?_ | refine LeO.bind ?_ (fun _ => ?_))
theorem impl_allWithin.mono : ∀ a0 a1 a2 k, LeO (impl_allWithin.f k a0 a1 a2) (impl_allWithin.f (k + 1) a0 a1 a2) := by
 intro a0 a1 a2 k
 have ih0 := impl_allWithin.mono_l k
 unfold impl_allWithin.f
 repeat' (first | (with_reducible first | exact ih0 _ _ _ _ _ | exact LeO.refl _ | exact LeO.none _ | refine LeO.ite ?_ ?_ | refine LeO.bind ?_ (fun _ => ?_)) | exact ih0 _ _ _ _ _ | exact LeO.none _ | refine LeO.ite ?_ ?_ | refine LeO.bind ?_ (fun _ => ?_))
set_option maxHeartbeats 8000000 in
set_option maxRecDepth 100000 in
theorem impl_allWithin.calls (k : Nat) (A0 : Option Addr) (c0 : Nat) (l0 : List Int) (a1 : Int) (a2 : Int) (r : Bool) (w : World) (hr0 : Kd.C (Kd.int .i64) w A0 l0.length l0) (hc0 : l0.length ≤ c0) (h : impl_allWithin.f k l0 a1 a2 = some r) :
  Calls Try.prog 109 #[.slice A0 l0.length c0, .int .i64 a1, .int .i64 a2] w fun e w' => e = .returned (.bool r) ∧ Drawn0 w w' := by
 have HR0 := Aside0.mk hr0; have HC0 := Aside0.mk hc0; clear hr0 hc0
 have H : (impl_allWithin.l0 k a1 a2 l0 (l0.length : Int) 0) = some r := h
 clear h
 have H' := Aside0.mk H
 clear H
 go_enter Try.func109, Try.ntmps109
 go_wp2
 go_loopg [11] k (fun kq v11 w' => ∃ (x11_1 : Int), v11 = .int .i64 x11_1 ∧ Aside0 (impl_allWithin.l0 kq a1 a2 l0 (l0.length : Int) x11_1 = some r) ∧ Aside0 (kq ≤ k) ∧ Drawn0 w w')
 case atStart => exact ⟨(0), er, H', ⟨Nat.le_refl _⟩, drw⟩
 case round =>
  clear H'
  obtain ⟨x11_1, rfl, HA, HK1, ⟨m1, rfl⟩⟩ := hrel
  cases gk with
  | zero => exact absurd HA.out (by simp [impl_allWithin.l0])
  | succ k1 =>
   have H := HA.out; clear HA
   simp only [impl_allWithin.l0] at H
   by_cases c4 : x11_1 < (l0.length : Int)
   ·rw [if_pos c4] at H
    have c4b0 : decide (x11_1 < (l0.length : Int)) = true := decide_eq_true c4
    clear c4; replace H := ifS H; obtain ⟨c5, H⟩ := H; have c5b0 := decide_eq_true c5; clear c5; replace H := ifS H; obtain ⟨c6, H⟩ := H; have c6b0 := decide_eq_true c6; clear c6; replace H := bS H; obtain ⟨t183, A7, H⟩ := H
    replace H : (if t183 = true then (impl_allWithin.l0 k1 a1 a2 l0 (l0.length : Int) (wrap64 (x11_1 + 1))) else (some false)) = some r := H
    by_cases c8 : t183 = true
    ·subst c8
     have H1 : (impl_allWithin.l0 k1 a1 a2 l0 (l0.length : Int) (wrap64 (x11_1 + 1))) = some r := by rw [if_pos rfl] at H; exact H
     clear H
     have H := H1
     clear H1
     have H' := Aside0.mk H
     clear H
     have p182 : 0 ≤ (x11_1 : Int) := da
     have q182 : x11_1 < (l0.length : Int) := da
     obtain ⟨ad182, e182, hx182_0⟩ := Kd.at_int HR0.out x11_1 p182 q182
     cases e182
     replace p182 := eq_true p182; replace q182 := eq_true q182
     go_wp2_with (first | ((with_reducible refine gate_callee (f := 101) rfl ?_); refine goesLa (some 18) rfl Try.func101 #[.int .i64 (rd l0 x11_1), .int .i64 a1, .int .i64 a2] rfl ?_; (with_reducible refine (impl_within.calls (rd l0 x11_1) a1 a2 true _ A7.out).mono ?_); rintro e w' ⟨rfl, ⟨nd, rfl⟩⟩; refine ⟨_, rfl, ?_⟩))
     go_roundg k1
     case measure => have := HK1.out; omega
     case rel => exact ⟨(wrap64 (x11_1 + 1)), er, H', ⟨by have := HK1.out; omega⟩, drw⟩
    ·replace c8 := Bool.eq_false_iff.mpr c8
     subst c8
     have H1 : (some false) = some r := by rw [if_neg (show ¬ (false = true) by decide)] at H; exact H
     clear H
     have H := H1
     clear H1
     obtain rfl := Option.some.inj H
     have p182 : 0 ≤ (x11_1 : Int) := da
     have q182 : x11_1 < (l0.length : Int) := da
     obtain ⟨ad182, e182, hx182_0⟩ := Kd.at_int HR0.out x11_1 p182 q182
     cases e182
     replace p182 := eq_true p182; replace q182 := eq_true q182
     go_wp2_with (first | ((with_reducible refine gate_callee (f := 101) rfl ?_); refine goesLa (some 18) rfl Try.func101 #[.int .i64 (rd l0 x11_1), .int .i64 a1, .int .i64 a2] rfl ?_; (with_reducible refine (impl_within.calls (rd l0 x11_1) a1 a2 false _ A7.out).mono ?_); rintro e w' ⟨rfl, ⟨nd, rfl⟩⟩; refine ⟨_, rfl, ?_⟩))
     go_ret
     exact ⟨er, drw⟩
   ·rw [if_neg c4] at H
    have c4b0 : decide (x11_1 < (l0.length : Int)) = false := decide_eq_false c4
    clear c4
    obtain rfl := Option.some.inj H
    go_wp2
    go_ret
    exact ⟨er, drw⟩

/-! ### impl_areTaken: function 143 -/
def impl_areTaken.f (k : Nat) (l0 : List Int) : Option (Bool) := if (l0.length : Int) ≤ 60 then ((impl_allWithin.f k l0 1 100000).bind fun t184 => (some t184)) else (some false)
theorem impl_areTaken.mono : ∀ a0 k, LeO (impl_areTaken.f k a0) (impl_areTaken.f (k + 1) a0) := by
 intro a0 k
 unfold impl_areTaken.f
 repeat' (first | (with_reducible first | exact impl_allWithin.mono _ _ _ _ | exact LeO.refl _ | exact LeO.none _ | refine LeO.ite ?_ ?_ | refine LeO.bind ?_ (fun _ => ?_)) | exact impl_allWithin.mono _ _ _ _ | exact LeO.none _ | refine LeO.ite ?_ ?_ | refine LeO.bind ?_ (fun _ => ?_))
set_option maxHeartbeats 8000000 in
set_option maxRecDepth 100000 in
theorem impl_areTaken.calls (k : Nat) (A0 : Option Addr) (c0 : Nat) (l0 : List Int) (r : Bool) (w : World) (hr0 : Kd.C (Kd.int .i64) w A0 l0.length l0) (hc0 : l0.length ≤ c0) (h : impl_areTaken.f k l0 = some r) :
  Calls Try.prog 143 #[.slice A0 l0.length c0] w fun e w' => e = .returned (.bool r) ∧ Drawn0 w w' := by
 have HR0 := Aside0.mk hr0; have HC0 := Aside0.mk hc0; clear hr0 hc0
 have H : (if (l0.length : Int) ≤ 60 then ((impl_allWithin.f k l0 1 100000).bind fun t184 => (some t184)) else (some false)) = some r := h
 clear h
 by_cases c2 : (l0.length : Int) ≤ 60
 ·rw [if_pos c2] at H
  have c2b0 : decide ((l0.length : Int) ≤ 60) = true := decide_eq_true c2
  have c2b1 : decide (l0.length ≤ 60) = true := decide_eq_true (by omega)
  clear c2; replace H := bS H; obtain ⟨t184, A3, H⟩ := H
  replace H : (some t184) = some r := H
  obtain rfl := Option.some.inj H
  go_enter Try.func143, Try.ntmps143
  go_wp2_with (first | (go_at_call 109; (with_reducible refine (impl_allWithin.calls k _ _ l0 1 100000 t184 _ ?side1 ?side2 A3.out).mono ?_); (case side1 => exact cd HR0.out); (case side2 => exact HC0.out); rintro e w' ⟨rfl, ⟨nd, rfl⟩⟩))
  go_ret
  exact ⟨er, drw⟩
 ·rw [if_neg c2] at H
  have c2b0 : decide ((l0.length : Int) ≤ 60) = false := decide_eq_false c2
  have c2b1 : decide (l0.length ≤ 60) = false := decide_eq_false (by omega)
  clear c2
  obtain rfl := Option.some.inj H
  go_enter Try.func143, Try.ntmps143
  go_wp2
  go_ret
  exact ⟨er, drw⟩

/-- A state of type 80 at block g of W; what its slices lead to came in by w0. -/
def IsS80 (w0 W : World) (g : Nat) (f0 : Int) (f1 : Int) : Prop := W.heap[g]? = some (.cells #[.int .i64 f0, .int .i64 f1] 80 (0, 0)) ∧ w0.heap.size ≤ g
theorem IsS80.grown {w0 W : World} {g : Nat} {f0 : Int} {f1 : Int} {W1 : World} {row : Option Nat} (h : IsS80 w0 W g f0 f1) (hw : W.grownBy W1 row) (hne : some g ≠ row) : IsS80 w0 W1 g f0 f1 := by
 obtain ⟨hb, hg⟩ := h
 exact ⟨blk_grown hb hw hne, hg⟩
theorem IsS80.own_neN {w0 W : World} {g : Nat} {f0 : Int} {f1 : Int} {α : Type} {d : Kd α} {e : Nat} {base : Nat} {ok : Nat → Prop} {v : Value} {xs : List α} (h : IsS80 w0 W g f0 f1) (ho : Kd.N d e W base ok v xs) (ht : e ≠ 80) : some g ≠ v.ownBlock := by
 obtain ⟨hb, hg⟩ := h
 exact Kd.N_ne ho hb ht
theorem IsS80.fresh {w0 W : World} {g : Nat} {f0 : Int} {f1 : Int} (h : IsS80 w0 W g f0 f1) : ∀ k, W.heap.size ≤ k → k ≠ g := by
 obtain ⟨hb, hg⟩ := h
 exact Kd.freshB hb
theorem IsS80.kept {w0 W : World} {g : Nat} {f0 : Int} {f1 : Int} {W1 : World} {S : Nat → Prop} (h : IsS80 w0 W g f0 f1) (hk : Kept W W1 S) (hne : ¬ S g) : IsS80 w0 W1 g f0 f1 := by
 obtain ⟨hb, hg⟩ := h
 exact ⟨blk_kept hb hk hne, hg⟩
theorem IsS80.below {w0 W : World} {g : Nat} {f0 : Int} {f1 : Int} {W1 : World} (h : IsS80 w0 W g f0 f1) (hw : Below W.heap.size W W1) : IsS80 w0 W1 g f0 f1 := h.grown (grown_of_below hw none) (by simp)
theorem IsS80.alloc {w0 W : World} {g : Nat} {f0 : Int} {f1 : Int} (h : IsS80 w0 W g f0 f1) (o : Obj) : IsS80 w0 (W.alloc o) g f0 f1 := h.below (below_alloc (Below.refl _ _) o)
theorem IsS80.drewN {w0 W : World} {g : Nat} {f0 : Int} {f1 : Int} (h : IsS80 w0 W g f0 f1) (m : Nat) : IsS80 w0 (W.drewN m) g f0 f1 := h
theorem IsS80.drew {w0 W : World} {g : Nat} {f0 : Int} {f1 : Int} (h : IsS80 w0 W g f0 f1) : IsS80 w0 W.drew g f0 f1 := h
theorem IsS80.at_ {w0 W : World} {g : Nat} {f0 : Int} {f1 : Int} {w' : World} {m : Nat} (hq : W.drewN m = w') (h : IsS80 w0 W g f0 f1) : IsS80 w0 w' g f0 f1 := by subst hq; exact IsS80.drewN h m
theorem IsS80.apart {w0 W : World} {g : Nat} {f0 : Int} {f1 : Int} {α : Type} {d : Kd α} {e : Nat} {base : Nat} {ok : Nat → Prop} {v : Value} {xs : List α} (h : IsS80 w0 W g f0 f1) (ho : d.R e W base ok v xs) (ht : ∀ q, q ∈ e :: d.E → q ≠ 80) : d.R e W base (fun k => ok k ∧ k ≠ g) v xs := by
 obtain ⟨hb, hg⟩ := h
 exact Kd.R_types ho hb ht
theorem IsS80.own_ne {w0 W : World} {g : Nat} {f0 : Int} {f1 : Int} {α : Type} {d : Kd α} {e : Nat} {base : Nat} {ok : Nat → Prop} {v : Value} {xs : List α} (h : IsS80 w0 W g f0 f1) (ho : d.R e W base ok v xs) (ht : e ≠ 80) : some g ≠ v.ownBlock := by
 obtain ⟨hb, hg⟩ := h
 exact Kd.R_ne ho hb ht
theorem IsS80.apartQ {w0 W : World} {g : Nat} {f0 : Int} {f1 : Int} {α : Type} {d : Kd α} {e : Nat} {base : Nat} {ok : Nat → Prop} {v : Value} {xs : List α} (h : IsS80 w0 W g f0 f1) (ho : d.Q e W base ok v xs) (ht : ∀ q, q ∈ e :: d.E → q ≠ 80) : d.Q e W base (fun k => ok k ∧ k ≠ g) v xs := by
 obtain ⟨hb, hg⟩ := h
 exact Kd.Q_types ho hb ht
theorem IsS80.own_neQ {w0 W : World} {g : Nat} {f0 : Int} {f1 : Int} {α : Type} {d : Kd α} {e : Nat} {base : Nat} {ok : Nat → Prop} {v : Value} {xs : List α} (h : IsS80 w0 W g f0 f1) (ho : d.Q e W base ok v xs) (ht : e ≠ 80) : some g ≠ v.ownBlock := by
 obtain ⟨hb, hg⟩ := h
 exact Kd.Q_ne ho hb ht
theorem IsS80.apartS {w0 W : World} {g : Nat} {f0 : Int} {f1 : Int} {α : Type} {d : Kd α} {e : Nat} {base : Nat} {ok : Nat → Prop} {v : Value} {xs : List α} (h : IsS80 w0 W g f0 f1) (ho : d.S e W base ok v xs) (ht : ∀ q, q ∈ e :: d.E → q ≠ 80) : d.S e W base (fun k => ok k ∧ k ≠ g) v xs := by
 obtain ⟨hb, hg⟩ := h
 exact Kd.S_types ho hb ht
theorem IsS80.own_neS {w0 W : World} {g : Nat} {f0 : Int} {f1 : Int} {α : Type} {d : Kd α} {e : Nat} {base : Nat} {ok : Nat → Prop} {v : Value} {xs : List α} (h : IsS80 w0 W g f0 f1) (ho : d.S e W base ok v xs) (ht : e ≠ 80) : some g ≠ v.ownBlock := by
 obtain ⟨hb, hg⟩ := h
 exact Kd.S_ne ho hb ht
theorem IsS80.of_blk {w0 W : World} {g : Nat} {f0 : Int} {f1 : Int} (hb : W.heap[g]? = some (.cells #[.int .i64 f0, .int .i64 f1] 80 (0, 0))) (hg : w0.heap.size ≤ g) : IsS80 w0 W g f0 f1 := ⟨hb, hg⟩
theorem IsS80.lt {w0 W : World} {g : Nat} {f0 : Int} {f1 : Int} (h : IsS80 w0 W g f0 f1) : g < W.heap.size := by
 obtain ⟨hb, hg⟩ := h
 exact blk_lt hb
theorem IsS80.ge {w0 W : World} {g : Nat} {f0 : Int} {f1 : Int} (h : IsS80 w0 W g f0 f1) : w0.heap.size ≤ g := by
 obtain ⟨hb, hg⟩ := h
 exact hg
theorem IsS80.ne_blk {w0 W : World} {g : Nat} {f0 : Int} {f1 : Int} {a : Nat} {cs : Array Value} {t : TypeId} {fr : Nat × Nat} (h : IsS80 w0 W g f0 f1) (hb2 : W.heap[a]? = some (.cells cs t fr)) (ht : t ≠ 80) : g ≠ a := by
 obtain ⟨hb, hg⟩ := h
 rintro rfl
 rw [hb] at hb2
 injection hb2 with hb2
 injection hb2 with _ ht2
 exact ht ht2.symm
theorem IsS80.far {w0 W : World} {g : Nat} {f0 : Int} {f1 : Int} {p : Addr} (h : IsS80 w0 W g f0 f1) (hne : g ≠ p.block) (u : Value) : IsS80 w0 (W.setCell p u) g f0 f1 := by
 obtain ⟨hb, hg⟩ := h
 exact ⟨blk_far hb hne u, hg⟩
theorem cellS80_0 {W : World} {g : Nat} {f0 : Int} {f1 : Int} (h : W.heap[g]? = some (.cells #[.int .i64 f0, .int .i64 f1] 80 (0, 0))) : W.cell? ⟨g, 0, none⟩ = some (.int .i64 f0) := (blk_cell h 0).trans rfl
theorem IsS80.set_0 {w0 W : World} {g : Nat} {f0 : Int} {f1 : Int} (h : IsS80 w0 W g f0 f1) (x : Int) : IsS80 w0 (W.setCell ⟨g, 0, none⟩ (.int .i64 x)) g x f1 := by
 obtain ⟨hb, hg⟩ := h
 exact ⟨by simpa using blk_set hb 0 (.int .i64 x), hg⟩
theorem cellS80_1 {W : World} {g : Nat} {f0 : Int} {f1 : Int} (h : W.heap[g]? = some (.cells #[.int .i64 f0, .int .i64 f1] 80 (0, 0))) : W.cell? ⟨g, 1, none⟩ = some (.int .i64 f1) := (blk_cell h 1).trans rfl
theorem IsS80.set_1 {w0 W : World} {g : Nat} {f0 : Int} {f1 : Int} (h : IsS80 w0 W g f0 f1) (x : Int) : IsS80 w0 (W.setCell ⟨g, 1, none⟩ (.int .i64 x)) g f0 x := by
 obtain ⟨hb, hg⟩ := h
 exact ⟨by simpa using blk_set hb 1 (.int .i64 x), hg⟩
theorem IsS80.new (w0 W : World) (f0 : Int) (f1 : Int) (hB : Below w0.heap.size w0 W) : IsS80 w0 (W.alloc (.cells #[.int .i64 f0, .int .i64 f1] 80)) W.heap.size f0 f1 := ⟨by simpa using heap_alloc_new W _, hB.size⟩

/-! ### impl_Window_take: function 144 -/
def impl_Window_take.f (s0_0 : Int) (s0_1 : Int) (a1 : Int) : Option (Int × Int × Int) := if (wrap64 (s0_0 - a1)) < 0 then (if (wrap64 (s0_0 - a1)) > (-16) then (if 0 ≤ (wrap64 (-(wrap64 (s0_0 - a1)))) then (some (0, a1, Go.bits .or .i64 (Go.bits .and .i64 (shl .i64 s0_1 (wrap64 (-(wrap64 (s0_0 - a1))))) 65535) 1)) else (none)) else (some (0, a1, Go.bits .or .i64 0 1))) else (if (wrap64 (s0_0 - a1)) ≥ 16 then (some (2, s0_0, s0_1)) else (if 0 ≤ (wrap64 (s0_0 - a1)) then (if (Go.bits .and .i64 (shr .i64 s0_1 (wrap64 (s0_0 - a1))) 1) = 1 then (some (1, s0_0, s0_1)) else (some (0, s0_0, Go.bits .or .i64 s0_1 (shl .i64 1 (wrap64 (s0_0 - a1)))))) else (none)))
def impl_Window_take.T13 : Bool × List (List Nat × List Nat) := (true, [([], []), ([0], [0]), ([1], [1]), ([2], [2]), ([], []), ([4], [4]), ([3, 5], [3, 5]), ([0, 0, 1, 2, 3, 4, 5, 6], [0]), ([7, 0, 1, 2, 3, 4, 5, 6], [7]), ([8, 6, 0, 1, 2, 3, 4, 5, 6], [6, 8])])
def impl_Window_take.B13 : List Nat := [0, 1, 3, 7, 0, 16, 63, 127, 255, 511]
theorem impl_Window_take.tab13 : rtab .any (opsOf Try.f144 13) = impl_Window_take.T13 := by kernel_rfl
theorem impl_Window_take.bits13 : waitsOk impl_Window_take.T13.2 impl_Window_take.B13 = true := by kernel_rfl
set_option maxHeartbeats 8000000 in
set_option maxRecDepth 100000 in
theorem impl_Window_take.calls (g : Nat) (s0_0 : Int) (s0_1 : Int) (a1 : Int) (r1 : Int) (r2 : Int) (r3 : Int) (w0 w : World) (hI : IsS80 w0 w g s0_0 s0_1) (hB : Below w0.heap.size w0 w) (h : impl_Window_take.f s0_0 s0_1 a1 = some (r1, r2, r3)) :
  Calls Try.prog 144 #[.pointer (some ⟨g, 0, none⟩), .int .i64 a1] w fun e w' => e = .returned (.int .i64 r1) ∧ IsS80 w0 w' g r2 r3 ∧ Below w0.heap.size w0 w' ∧ KeepBut w w' g none := by
 have HI0 := Aside0.mk hI
 have HK := Aside0.mk (KeepBut.refl w g none)
 have HL := Aside0.mk hB.size
 clear hI
 have HW0 := Aside0.mk hB.size
 have HB := Aside0.mk hB; clear hB
 have H : (if (wrap64 (s0_0 - a1)) < 0 then (if (wrap64 (s0_0 - a1)) > (-16) then (if 0 ≤ (wrap64 (-(wrap64 (s0_0 - a1)))) then (some (0, a1, Go.bits .or .i64 (Go.bits .and .i64 (shl .i64 s0_1 (wrap64 (-(wrap64 (s0_0 - a1))))) 65535) 1)) else (none)) else (some (0, a1, Go.bits .or .i64 0 1))) else (if (wrap64 (s0_0 - a1)) ≥ 16 then (some (2, s0_0, s0_1)) else (if 0 ≤ (wrap64 (s0_0 - a1)) then (if (Go.bits .and .i64 (shr .i64 s0_1 (wrap64 (s0_0 - a1))) 1) = 1 then (some (1, s0_0, s0_1)) else (some (0, s0_0, Go.bits .or .i64 s0_1 (shl .i64 1 (wrap64 (s0_0 - a1)))))) else (none)))) = some (r1, r2, r3) := h
 clear h
 by_cases c3 : (wrap64 (s0_0 - a1)) < 0
 ·rw [if_pos c3] at H
  have c3b0 : decide ((wrap64 (s0_0 - a1)) < 0) = true := decide_eq_true c3
  clear c3
  by_cases c4 : (wrap64 (s0_0 - a1)) > (-16)
  ·rw [if_pos c4] at H
   have c4b0 : decide ((-16) < (wrap64 (s0_0 - a1))) = true := decide_eq_true c4
   clear c4
   obtain ⟨ji5, hji5⟩ : ∃ j_ : Int, (wrap64 (-(wrap64 (s0_0 - a1)))) = j_ := ⟨_, rfl⟩
   replace H : (if 0 ≤ (ji5) then (some (0, a1, Go.bits .or .i64 (Go.bits .and .i64 (shl .i64 s0_1 (ji5)) 65535) 1)) else (none)) = some (r1, r2, r3) := by first | (rw [hji5] at H; exact H) | (simp only [hji5] at H ⊢; exact H)
   have hji5w : (IntKind.i64.wrap (-(wrap64 (s0_0 - a1)))) = ji5 := (i64_w _).trans hji5
   replace H := ifS H; obtain ⟨c6, H⟩ := H; have c6b0 := eq_true c6
   have c6b1 : decide (0 ≤ (ji5)) = true := decide_eq_true c6
   clear c6
   obtain ⟨ji7, hji7⟩ : ∃ j_ : Int, (shl .i64 s0_1 (ji5)) = j_ := ⟨_, rfl⟩
   replace H : (some (0, a1, Go.bits .or .i64 (Go.bits .and .i64 (ji7) 65535) 1)) = some (r1, r2, r3) := by first | (rw [hji7] at H; exact H) | (simp only [hji7] at H ⊢; exact H)
   have hji7_ : (IntKind.i64.wrap (s0_1 * 2 ^ min (ji5).toNat 64)) = ji7 := hji7
   have hji7z : (ji5) ≤ 64 → (IntKind.i64.wrap (s0_1 * 2 ^ (ji5).toNat)) = ji7 := shl_small hji7
   have hji7y : (wrap64 (s0_1 * 2 ^ min (ji5).toNat 64)) = ji7 := (i64_w _).symm.trans hji7_
   have hji7x : (ji5) ≤ 64 → (wrap64 (s0_1 * 2 ^ (ji5).toNat)) = ji7 := fun h_ => (i64_w _).symm.trans (hji7z h_)
   simp only [Option.some.injEq, Prod.mk.injEq] at H
   obtain ⟨rfl, rfl, rfl⟩ := H
   obtain ⟨HGz8, hgz8⟩ := HI0.out
   have hcz8_0 := cellS80_0 HGz8
   have hcz8_1 := cellS80_1 HGz8
   have hfz8_0 := blk_frozen HGz8 0
   have hfz8_1 := blk_frozen HGz8 1
   clear HGz8 hgz8
   go_enter Try.func144, Try.ntmps144
   go_wp2
   go_ret
   exact ⟨by first | rfl | (simp [errW_none, errW_some] <;> rfl) | (simp only [← hji5, ← hji7]; first | rfl | (simp [errW_none, errW_some] <;> rfl)) | (simp [*, errW_none, errW_some] <;> rfl), by repeat (first | (with_reducible first | exact HI0.out | apply IsS80.alloc | apply IsS80.drewN | apply IsS80.drew | apply IsS80.set_0 | apply IsS80.set_1) | exact HI0.out), by repeat (first | (with_reducible first | exact HB.out | apply below_alloc | apply pw_below_drewN | apply below_drew1 | refine below_set ?_ (IsS80.ge HI0.out)) | exact HB.out), by repeat (first | (with_reducible first | exact HK.out | apply KeepBut.set_ | apply keep_drewN | apply keep_drew | apply keep_alloc) | exact HK.out)⟩
  ·rw [if_neg c4] at H
   have c4b0 : decide ((-16) < (wrap64 (s0_0 - a1))) = false := decide_eq_false c4
   clear c4
   simp only [Option.some.injEq, Prod.mk.injEq] at H
   obtain ⟨rfl, rfl, rfl⟩ := H
   obtain ⟨HGz9, hgz9⟩ := HI0.out
   have hcz9_0 := cellS80_0 HGz9
   have hcz9_1 := cellS80_1 HGz9
   have hfz9_0 := blk_frozen HGz9 0
   have hfz9_1 := blk_frozen HGz9 1
   clear HGz9 hgz9
   go_enter Try.func144, Try.ntmps144
   go_wp2
   go_ret
   exact ⟨er2, by repeat (first | (with_reducible first | exact HI0.out | apply IsS80.alloc | apply IsS80.drewN | apply IsS80.drew | apply IsS80.set_0 | apply IsS80.set_1) | exact HI0.out), by repeat (first | (with_reducible first | exact HB.out | apply below_alloc | apply pw_below_drewN | apply below_drew1 | refine below_set ?_ (IsS80.ge HI0.out)) | exact HB.out), by repeat (first | (with_reducible first | exact HK.out | apply KeepBut.set_ | apply keep_drewN | apply keep_drew | apply keep_alloc) | exact HK.out)⟩
 ·rw [if_neg c3] at H
  have c3b0 : decide ((wrap64 (s0_0 - a1)) < 0) = false := decide_eq_false c3
  clear c3
  by_cases c10 : (wrap64 (s0_0 - a1)) ≥ 16
  ·rw [if_pos c10] at H
   have c10b0 : decide (16 ≤ (wrap64 (s0_0 - a1))) = true := decide_eq_true c10
   clear c10
   simp only [Option.some.injEq, Prod.mk.injEq] at H
   obtain ⟨rfl, rfl, rfl⟩ := H
   obtain ⟨HGz11, hgz11⟩ := HI0.out
   have hcz11_0 := cellS80_0 HGz11
   have hcz11_1 := cellS80_1 HGz11
   have hfz11_0 := blk_frozen HGz11 0
   have hfz11_1 := blk_frozen HGz11 1
   clear HGz11 hgz11
   go_enter Try.func144, Try.ntmps144
   go_wp2
   go_ret
   exact ⟨er2, by repeat (first | (with_reducible first | exact HI0.out | apply IsS80.alloc | apply IsS80.drewN | apply IsS80.drew | apply IsS80.set_0 | apply IsS80.set_1) | exact HI0.out), by repeat (first | (with_reducible first | exact HB.out | apply below_alloc | apply pw_below_drewN | apply below_drew1 | refine below_set ?_ (IsS80.ge HI0.out)) | exact HB.out), by repeat (first | (with_reducible first | exact HK.out | apply KeepBut.set_ | apply keep_drewN | apply keep_drew | apply keep_alloc) | exact HK.out)⟩
  ·rw [if_neg c10] at H
   have c10b0 : decide (16 ≤ (wrap64 (s0_0 - a1))) = false := decide_eq_false c10
   clear c10
   obtain ⟨ji12, hji12⟩ : ∃ j_ : Int, (wrap64 (s0_0 - a1)) = j_ := ⟨_, rfl⟩
   replace H : (if 0 ≤ (ji12) then (if (Go.bits .and .i64 (shr .i64 s0_1 (ji12)) 1) = 1 then (some (1, s0_0, s0_1)) else (some (0, s0_0, Go.bits .or .i64 s0_1 (shl .i64 1 (ji12))))) else (none)) = some (r1, r2, r3) := by first | (rw [hji12] at H; exact H) | (simp only [hji12] at H ⊢; exact H)
   (try rw [hji12] at c3b0)
   (try rw [hji12] at c10b0)
   have hji12w : (IntKind.i64.wrap (s0_0 - a1)) = ji12 := (i64_w _).trans hji12
   replace H := ifS H; obtain ⟨c13, H⟩ := H; have c13b0 := eq_true c13
   have c13b1 : decide (0 ≤ (ji12)) = true := decide_eq_true c13
   clear c13
   obtain ⟨ji14, hji14⟩ : ∃ j_ : Int, (shr .i64 s0_1 (ji12)) = j_ := ⟨_, rfl⟩
   replace H : (if (Go.bits .and .i64 (ji14) 1) = 1 then (some (1, s0_0, s0_1)) else (some (0, s0_0, Go.bits .or .i64 s0_1 (shl .i64 1 (ji12))))) = some (r1, r2, r3) := by first | (rw [hji14] at H; exact H) | (simp only [hji14] at H ⊢; exact H)
   have hji14_ : (s0_1 / 2 ^ min (ji12).toNat 64) = ji14 := hji14
   have hji14z : (ji12) ≤ 64 → (s0_1 / 2 ^ (ji12).toNat) = ji14 := shr_small hji14
   by_cases c15 : (Go.bits .and .i64 (ji14) 1) = 1
   ·rw [if_pos c15] at H
    have c15b0 : ((Go.bits .and .i64 (ji14) 1) == 1) = true := beq_iff_eq.mpr c15
    have c15b1 : ((Go.bits .and .i64 (ji14) 1) != 1) = false := bne_eq_false_iff_eq.mpr c15
    clear c15
    simp only [Option.some.injEq, Prod.mk.injEq] at H
    obtain ⟨rfl, rfl, rfl⟩ := H
    obtain ⟨HGz16, hgz16⟩ := HI0.out
    have hcz16_0 := cellS80_0 HGz16
    have hcz16_1 := cellS80_1 HGz16
    have hfz16_0 := blk_frozen HGz16 0
    have hfz16_1 := blk_frozen HGz16 1
    clear HGz16 hgz16
    go_enter Try.func144, Try.ntmps144
    go_wp2
    go_ret
    exact ⟨by first | rfl | (simp [errW_none, errW_some] <;> rfl) | (simp only [← hji12, ← hji14]; first | rfl | (simp [errW_none, errW_some] <;> rfl)) | (simp [*, errW_none, errW_some] <;> rfl), by repeat (first | (with_reducible first | exact HI0.out | apply IsS80.alloc | apply IsS80.drewN | apply IsS80.drew | apply IsS80.set_0 | apply IsS80.set_1) | exact HI0.out), by repeat (first | (with_reducible first | exact HB.out | apply below_alloc | apply pw_below_drewN | apply below_drew1 | refine below_set ?_ (IsS80.ge HI0.out)) | exact HB.out), by repeat (first | (with_reducible first | exact HK.out | apply KeepBut.set_ | apply keep_drewN | apply keep_drew | apply keep_alloc) | exact HK.out)⟩
   ·rw [if_neg c15] at H
    have c15b0 : ((Go.bits .and .i64 (ji14) 1) == 1) = false := beq_eq_false_iff_ne.mpr c15
    have c15b1 : ((Go.bits .and .i64 (ji14) 1) != 1) = true := bne_iff_ne.mpr c15
    have c17b0 := eq_true (da : 0 ≤ (ji12))
    obtain ⟨ji18, hji18⟩ : ∃ j_ : Int, (shl .i64 1 (ji12)) = j_ := ⟨_, rfl⟩
    replace H : (some (0, s0_0, Go.bits .or .i64 s0_1 (ji18))) = some (r1, r2, r3) := by first | (rw [hji18] at H; exact H) | (simp only [hji18] at H ⊢; exact H)
    have hji18_ : (IntKind.i64.wrap (1 * 2 ^ min (ji12).toNat 64)) = ji18 := hji18
    have hji18z : (ji12) ≤ 64 → (IntKind.i64.wrap (1 * 2 ^ (ji12).toNat)) = ji18 := shl_small hji18
    have hji18u : (IntKind.i64.wrap (2 ^ min (ji12).toNat 64)) = ji18 := by have h_ := hji18_; rw [Int.one_mul] at h_; exact h_
    have hji18v : (ji12) ≤ 64 → (IntKind.i64.wrap (2 ^ (ji12).toNat)) = ji18 := fun hle_ => by have h_ := hji18z hle_; rw [Int.one_mul] at h_; exact h_
    have hji18y : (wrap64 (1 * 2 ^ min (ji12).toNat 64)) = ji18 := (i64_w _).symm.trans hji18_
    have hji18x : (ji12) ≤ 64 → (wrap64 (1 * 2 ^ (ji12).toNat)) = ji18 := fun h_ => (i64_w _).symm.trans (hji18z h_)
    simp only [Option.some.injEq, Prod.mk.injEq] at H
    obtain ⟨rfl, rfl, rfl⟩ := H
    obtain ⟨HGz19, hgz19⟩ := HI0.out
    have hcz19_0 := cellS80_0 HGz19
    have hcz19_1 := cellS80_1 HGz19
    have hfz19_0 := blk_frozen HGz19 0
    have hfz19_1 := blk_frozen HGz19 1
    clear HGz19 hgz19
    go_enter Try.func144, Try.ntmps144
    try go_wp2
    replace HI0 := ak (IsS80.drew HI0.out)
    replace HK := ak (keep_drew HK.out)
    replace HB := ak (below_drew1 HB.out)
    refine start_ (n := 10) (S := fun w' => w'.cell? ⟨g, 0, none⟩ = some (.int .i64 s0_0) ∧ w'.cell? ⟨g, 1, none⟩ = some (.int .i64 s0_1)) (ds := [9]) (bl 10 0) (by kernel_rfl) rfl rfl ⟨(cellS80_0 HI0.out.1), (cellS80_1 HI0.out.1)⟩ (fun hHeld => ?_); refine with_tabW impl_Window_take.tab13 impl_Window_take.bits13 (fun HT_ HW_ => ?_)
    generalize w.drew = w20 at HI0 HK HB hHeld ⊢
    refine pureA 0 (some 54) 10 1 HT_ ?_
    refine pureA 1 (some 55) 10 3 HT_ ?_
    refine pureA 2 (some 56) 10 7 HT_ ?_
    refine pureA 4 (some 58) 10 23 HT_ ?_
    refine pureA 5 (some 59) 10 55 HT_ ?_
    refine takeA 3 (some 57) 10 63 HT_ HW_ hHeld ?_ (hy := by rintro w' ⟨s0, s1⟩; go_simp; with_reducible rfl)
    refine pureA 6 (some 60) 10 127 HT_ ?_
    refine pureA 7 (some 61) 10 255 HT_ ?_
    refine pureA 8 (some 62) 10 511 HT_ ?_
    refine last_ (i := 9) (N := none) (bl 10 1023) rfl rfl (one_of HT_.out (by kernel_rfl)) (by decide) (fun K hK => ?_)
    have hs21 := cellS80_1 HI0.out.1
    have hfs21 := blk_frozen HI0.out.1 1
    refine skip_ (w1 := ?_) (by rfl) rfl ?_ ?_
    rotate_left
    ·go_simp
     rfl
    refine hK.out _ _ ?_
    clear hK K
    refine done_ (done_of HT_.out (by kernel_rfl)) ?_
    try go_wp2
    go_ret
    exact ⟨by first | rfl | (simp [errW_none, errW_some] <;> rfl) | (simp only [← hji12, ← hji14, ← hji18]; first | rfl | (simp [errW_none, errW_some] <;> rfl)) | (simp [*, errW_none, errW_some] <;> rfl), by repeat (first | (with_reducible first | exact HI0.out | apply IsS80.alloc | apply IsS80.drewN | apply IsS80.drew | apply IsS80.set_0 | apply IsS80.set_1) | exact HI0.out), by repeat (first | (with_reducible first | exact HB.out | apply below_alloc | apply pw_below_drewN | apply below_drew1 | refine below_set ?_ (IsS80.ge HI0.out)) | exact HB.out), by repeat (first | (with_reducible first | exact HK.out | apply KeepBut.set_ | apply keep_drewN | apply keep_drew | apply keep_alloc) | exact HK.out)⟩

/-! ### impl_PlayNumbers: function 83 -/
def impl_PlayNumbers.l0 : Nat → List Int → List Int → Int → Int → Int → Int → Option (List Int × Int × Int × Bool)
  | 0, _, _, _, _, _, _ => none
  | k + 1, x6, x15, x16, x17, x191000, x191001 => if x17 < x16 then (if 0 ≤ x17 then (if x17 < (x15.length : Int) then ((impl_Window_take.f x191000 x191001 (rd x15 x17)).bind fun bt192 => (if x6.length < 17592186044416 then (impl_PlayNumbers.l0 k (x6 ++ [bt192.1]) x15 x16 (wrap64 (x17 + 1)) bt192.2.1 bt192.2.2) else (none))) else (none)) else (none)) else (some (x6, x191000, x191001, true))
def impl_PlayNumbers.f (k : Nat) (l0 : List Int) : Option (List Int × Int × Int × Bool) := (impl_areTaken.f k l0).bind fun t186 => (if t186 = true then (impl_PlayNumbers.l0 k (([] : List Int)) l0 (l0.length : Int) 0 0 0) else (some (([] : List Int), 0, 0, false)))
theorem impl_PlayNumbers.mono_l : ∀ k, (∀ y0 y1 y2 y3 y4 y5, LeO (impl_PlayNumbers.l0 k y0 y1 y2 y3 y4 y5) (impl_PlayNumbers.l0 (k + 1) y0 y1 y2 y3 y4 y5))
 | 0 => fun _ _ _ _ _ _ r h => by simp [impl_PlayNumbers.l0] at h
 | k + 1 => by
  have ih0 := impl_PlayNumbers.mono_l k
  ·intro y0 y1 y2 y3 y4 y5
   unfold impl_PlayNumbers.l0
   repeat' (first | (with_reducible first | exact ih0 _ _ _ _ _ _ | exact impl_areTaken.mono _ _ | exact LeO.refl _ | exact LeO.none _ | refine LeO.ite ?_ ?_ | refine LeO.bind ?_ (fun _ => ?_)) | exact ih0 _ _ _ _ _ _ | exact impl_areTaken.mono _ _ | exact LeO.none _ | refine LeO.ite ?_ ?_ | refine LeO.bind ?_ (fun _ => ?_))
theorem impl_PlayNumbers.mono : ∀ a0 k, LeO (impl_PlayNumbers.f k a0) (impl_PlayNumbers.f (k + 1) a0) := by
 intro a0 k
 have ih0 := impl_PlayNumbers.mono_l k
 unfold impl_PlayNumbers.f
 repeat' (first | (with_reducible first | exact ih0 _ _ _ _ _ _ | exact impl_areTaken.mono _ _ | exact LeO.refl _ | exact LeO.none _ | refine LeO.ite ?_ ?_ | refine LeO.bind ?_ (fun _ => ?_)) | exact ih0 _ _ _ _ _ _ | exact impl_areTaken.mono _ _ | exact LeO.none _ | refine LeO.ite ?_ ?_ | refine LeO.bind ?_ (fun _ => ?_))
set_option maxHeartbeats 8000000 in
set_option maxRecDepth 100000 in
theorem impl_PlayNumbers.calls (k : Nat) (A0 : Option Addr) (c0 : Nat) (l0 : List Int) (r1 : List Int) (r2 : Int) (r3 : Int) (r4 : Bool) (w : World) (hr0 : Kd.C (Kd.int .i64) w A0 l0.length l0) (hc0 : l0.length ≤ c0) (h : impl_PlayNumbers.f k l0 = some (r1, r2, r3, r4)) :
  Calls Try.prog 83 #[.slice A0 l0.length c0] w fun e w' => ∃ v0_ : Value, e = .returned (.tuple #[v0_, .agg #[.int .i64 r2, .int .i64 r3], .bool r4]) ∧ Kd.R (Kd.int .i64) 3 w' w.heap.size (fun _ => True) v0_ r1 ∧ Below w.heap.size w w' := by
 have hu80 := Try.underlying80
 have HR0 := Aside0.mk hr0; have HC0 := Aside0.mk hc0; clear hr0 hc0
 have HB := Aside0.mk (Below.refl w.heap.size w)
 have H : ((impl_areTaken.f k l0).bind fun t186 => (if t186 = true then (impl_PlayNumbers.l0 k (([] : List Int)) l0 (l0.length : Int) 0 0 0) else (some (([] : List Int), 0, 0, false)))) = some (r1, r2, r3, r4) := h
 clear h; replace H := bS H; obtain ⟨t186, A2, H⟩ := H
 replace H : (if t186 = true then (impl_PlayNumbers.l0 k (([] : List Int)) l0 (l0.length : Int) 0 0 0) else (some (([] : List Int), 0, 0, false))) = some (r1, r2, r3, r4) := H
 by_cases c3 : t186 = true
 ·subst c3
  have H1 : (impl_PlayNumbers.l0 k (([] : List Int)) l0 (l0.length : Int) 0 0 0) = some (r1, r2, r3, r4) := by rw [if_pos rfl] at H; exact H
  clear H
  have H := H1
  clear H1
  obtain ⟨y187, hy_⟩ : ∃ y_ : List Int, y_ = (([] : List Int)) := ⟨_, rfl⟩
  replace H : (impl_PlayNumbers.l0 k y187 l0 (l0.length : Int) 0 0 0) = some (r1, r2, r3, r4) := yH
  have Ny187 := ak hy_; clear hy_
  have H' := Aside0.mk H
  clear H
  go_enter Try.func83, Try.ntmps83
  go_wp2_with (first | ((with_reducible refine gate_dst (N := 3) rfl ?_); refine boxev 3 #[.int .i64 0, .int .i64 0] 80 ?_; intro gb185 hg w4 hbox hb; have BK185 := ak (hbox); have GW185 := ak (hgl hg (belowd HB)); have GE185 := ak (hgl hg (belowd HB)); replace HB := ak (below_step (belowd HB) hb); clear hb hbox hg) | ((with_reducible refine gate_callee (f := 143) rfl ?_); refine goesLa (some 10) rfl Try.func143 #[.slice A0 l0.length c0] rfl ?_; (with_reducible refine (impl_areTaken.calls k _ _ l0 true _ ?side1 ?side2 A2.out).mono ?_); (case side1 => exact cd (Kd.C_below HR0.out HB.out)); (case side2 => exact HC0.out); rintro e w' ⟨rfl, ⟨nd, rfl⟩⟩; refine ⟨_, rfl, ?_⟩; (try (rw [drewN_self w4]; generalize hq_ : World.drewN w4 _ = w4; have n0_ : Aside0 (w4.heap[gb185]? = some (.cells #[.int .i64 0, .int .i64 0] 80 (0, 0))) := ⟨by rw [← hq_]; exact (blkd BK185)⟩; have n1_ : Aside0 (Below w.heap.size w w4) := ⟨by rw [← hq_]; exact (belowg1 HB GE185)⟩; clear BK185 HB hq_; have BK185 := n0_; have HB := n1_; clear n0_ n1_))) | ((with_reducible refine gate_dst (N := 14) rfl ?_); refine Kd.R_lit (Kd.int .i64) _ 3 ?hg (N := 14) ?hd (xs := ([] : List Int)) (inner := []) (ok := fun _ => True) (okp := fun _ => True) ?hr ?hp (fun _ hk => hk) trivial (Below.refl _ _) (Nat.le_refl _) (by simp) ?_; (case hd => rfl); (case hg => rfl); (case hr => first | (go_simp; done) | (go_simp; rfl)); (case hp => exact (Reps.none _ _)); intro v188 w5 ho6 hb hg_ hnew_; clear hg_ hnew_; (first | rw [← Ny187.out] at ho6 | (simp only [Int.reduceToNat] at ho6; rw [← Ny187.out] at ho6)); have HO189 := ak (Kd.R_lower ho6 (below_size (belowg1 HB GE185))); replace BK185 := ak (blk_below (blkd BK185) hb); replace HB := ak (below_step (belowg1 HB GE185) hb); clear hb ho6) | ((with_reducible refine gate_dst (N := 5) rfl ?_); refine boxev 5 #[.int .i64 0, .int .i64 0] 80 ?_; intro gb190 hg w7 hbox hb; replace HO189 := ak (Kd.R_below (rdl HO189) hb); have HI190 := ak ((show IsS80 w w7 gb190 0 0 from IsS80.of_blk hbox (by rw [hg]; exact (below_size (belowg1 HB GE185))))); replace HB := ak (below_step (belowg1 HB GE185) hb); have NB185_190 := ak ((by rw [hg]; exact Nat.ne_of_lt (blk_lt (blkd BK185)) : gb185 ≠ gb190)); have NB190_185 := ak ((by rw [hg]; exact Nat.ne_of_gt (blk_lt (blkd BK185)) : gb190 ≠ gb185)); replace BK185 := ak (blk_below (blkd BK185) hb); clear hb hbox hg; obtain ⟨HGz8, hgz8⟩ := HI190.out; have hcz8_0 := cellS80_0 HGz8; have hcz8_1 := cellS80_1 HGz8; have hfz8_0 := blk_frozen HGz8 0; have hfz8_1 := blk_frozen HGz8 1; clear HGz8 hgz8))
  go_loopg [6, 17] k (fun kq v6 v17 w' => ∃ (x6_1 : List Int) (x17_1 : Int) (x191000_1 : Int) (x191001_1 : Int), v17 = .int .i64 x17_1 ∧ Aside0 (impl_PlayNumbers.l0 kq x6_1 l0 (l0.length : Int) x17_1 x191000_1 x191001_1 = some (r1, r2, r3, r4)) ∧ Aside0 (kq ≤ k) ∧ Aside0 (Kd.R (Kd.int .i64) 3 w' w.heap.size (fun _ => True) v6 x6_1) ∧ Aside0 (w'.heap[gb185]? = some (.cells #[.int .i64 0, .int .i64 0] 80 (0, 0))) ∧ Aside0 (IsS80 w w' gb190 x191000_1 x191001_1) ∧ Aside0 (Below w.heap.size w w'))
  case atStart => exact ⟨(y187), (0), (0), (0), er, H', ⟨Nat.le_refl _⟩, ⟨by (with_reducible repeat (first | apply Kd.R_alloc | apply Kd.R_drewN | apply Kd.R_drew)); exact Kd.R_mono (farsR (IsS80.apart HI190.out HO189.out (by decide))) (fun _ hk => trivial)⟩, ⟨by (with_reducible repeat (first | refine blk_drewN ?_ _ | refine blk_drew ?_ | refine blk_alloc ?_ _)); refine blk_far ?_ NB185_190.out _; (with_reducible repeat (first | refine blk_drewN ?_ _ | refine blk_drew ?_ | refine blk_alloc ?_ _)); refine blk_far ?_ NB185_190.out _; (with_reducible repeat (first | refine blk_drewN ?_ _ | refine blk_drew ?_ | refine blk_alloc ?_ _)); exact BK185.out⟩, ⟨by repeat (first | (with_reducible first | exact HI190.out | apply IsS80.alloc | apply IsS80.drewN | apply IsS80.drew | apply IsS80.set_0 | apply IsS80.set_1 | refine IsS80.far ?_ NB190_185.out _) | exact HI190.out)⟩, ⟨by repeat (first | (with_reducible first | exact HB.out | apply below_alloc | apply pw_below_drewN | apply below_drew1 | refine below_set ?_ (IsS80.ge HI190.out) | refine below_set ?_ GE185.out) | exact HB.out)⟩⟩
  case round =>
   clear H'
   (try clear c3); (try clear hcz8_0); (try clear hcz8_1); (try clear hfz8_0); (try clear hfz8_1)
   obtain ⟨x6_1, x17_1, x191000_1, x191001_1, rfl, HA, HK1, HO_6, BK185, HI190, HB⟩ := hrel
   cases gk with
   | zero => exact absurd HA.out (by simp [impl_PlayNumbers.l0])
   | succ k1 =>
    have H := HA.out; clear HA
    simp only [impl_PlayNumbers.l0] at H
    by_cases c9 : x17_1 < (l0.length : Int)
    ·rw [if_pos c9] at H
     have c9b0 : decide (x17_1 < (l0.length : Int)) = true := decide_eq_true c9
     clear c9; replace H := ifS H; obtain ⟨c10, H⟩ := H; have c10b0 := decide_eq_true c10; clear c10; replace H := ifS H; obtain ⟨c11, H⟩ := H; have c11b0 := decide_eq_true c11; clear c11; replace H := bS H; obtain ⟨⟨t192, t193, t194⟩, A12, H⟩ := H
     replace H : (if x6_1.length < 17592186044416 then (impl_PlayNumbers.l0 k1 (x6_1 ++ [t192]) l0 (l0.length : Int) (wrap64 (x17_1 + 1)) t193 t194) else (none)) = some (r1, r2, r3, r4) := H
     replace H := ifS H; obtain ⟨c13, H⟩ := H; have LMc13 := Aside0.mk c13; clear c13
     obtain ⟨y195, hy_⟩ : ∃ y_ : List Int, y_ = (x6_1 ++ [t192]) := ⟨_, rfl⟩
     replace H : (impl_PlayNumbers.l0 k1 y195 l0 (l0.length : Int) (wrap64 (x17_1 + 1)) t193 t194) = some (r1, r2, r3, r4) := yH
     have Ny195 := ak hy_; clear hy_
     have H' := Aside0.mk H
     clear H
     have p191 : 0 ≤ (x17_1 : Int) := da
     have q191 : x17_1 < (l0.length : Int) := da
     obtain ⟨ad191, e191, hx191_0⟩ := Kd.at_int HR0.out x17_1 p191 q191
     cases e191
     replace hx191_0 := (HB.out.cell (World.block_lt_of_cell? w _ hx191_0)).trans hx191_0
     replace p191 := eq_true p191; replace q191 := eq_true q191
     go_wp2_with (first | ((with_reducible refine gate_callee (f := 144) rfl ?_); refine goesLa (some 23) rfl Try.func144 #[.pointer (some ⟨gb190, 0, none⟩), .int .i64 (rd l0 x17_1)] rfl ?_; (with_reducible refine (impl_Window_take.calls gb190 x191000_1 x191001_1 (rd l0 x17_1) t192 t193 t194 w _ ?side1 ?side2 A12.out).mono ?_); (case side1 => repeat (first | (with_reducible first | exact HI190.out | apply IsS80.alloc | apply IsS80.drewN | apply IsS80.drew | apply IsS80.set_0 | apply IsS80.set_1 | refine IsS80.far ?_ NB190_185.out _) | exact HI190.out)); (case side2 => repeat (first | (with_reducible first | exact HB.out | apply below_alloc | apply pw_below_drewN | apply below_drew1 | refine below_set ?_ (IsS80.ge HI190.out) | refine below_set ?_ GE185.out) | exact HB.out)); rintro e w14 ⟨rfl, hi, hb, hk⟩; refine ⟨_, rfl, ?_⟩; replace HO_6 := ak (Kd.R_mono (Kd.R_keep (IsS80.apart (show IsS80 w _ gb190 x191000_1 x191001_1 from by repeat (first | (with_reducible first | exact HI190.out | apply IsS80.alloc | apply IsS80.drewN | apply IsS80.drew | apply IsS80.set_0 | apply IsS80.set_1 | refine IsS80.far ?_ NB190_185.out _) | exact HI190.out)) (rdl HO_6) (by decide)) hk (fun _ h => h.2)) (fun _ h => h.1)); replace BK185 := ak (KeepBut.blk hk (g' := gb185) (blkd BK185) NB185_190.out (by simp)); replace HB := ak (hb); replace HI190 := ak (hi); (try clear hb); (try clear hk); (try clear hi)) | ((with_reducible refine gate_builtin (b := .append) (xs := #[.tmp 21, .tmp 24]) rfl ?_); at_builtin; refine Kd.R_append (Kd.int .i64) (w0 := w) w.heap.size rfl (.tmp 21) (.tmp 24) 51 3 (.int .i64 0) 8 rfl Try.underlying51 info3 rfl (by decide) (by omega) u6 x6_1 t192 [.int .i64 t192] (fun _ => True) (fun _ => False) rfl rfl ?aP (fun _ hk => hk.elim) ?aF ?aO ?aB ?aS ?aL ?_; (case aP => exact rfl); (case aB => exact (by repeat (first | (with_reducible first | exact HB.out | apply below_alloc | apply pw_below_drewN | apply below_drew1 | refine below_set ?_ (IsS80.ge HI190.out) | refine below_set ?_ GE185.out) | exact HB.out))); (case aF => exact (fun _ _ => trivial)); (case aO => exact (rdl HO_6)); (case aS => exact (below_size (by repeat (first | (with_reducible first | exact HB.out | apply below_alloc | apply pw_below_drewN | apply below_drew1 | refine below_set ?_ (IsS80.ge HI190.out) | refine below_set ?_ GE185.out) | exact HB.out)))); (case aL => have := LMc13.out; omega); intro v196 w15 ho hb hg hat; rw [← Ny195.out] at ho; replace BK185 := ak (blk_grown (blkd BK185) hg (Kd.R_ne HO_6.out BK185.out (by decide))); replace HI190 := ak (IsS80.grown (by repeat (first | (with_reducible first | exact HI190.out | apply IsS80.alloc | apply IsS80.drewN | apply IsS80.drew | apply IsS80.set_0 | apply IsS80.set_1 | refine IsS80.far ?_ NB190_185.out _) | exact HI190.out)) hg (IsS80.own_ne HI190.out HO_6.out (by decide))); replace HB := ak (hb); have HO197 := ak (ho); clear HO_6; clear ho hb hg hat))
     go_roundg k1
     case measure => have := HK1.out; omega
     case rel => exact ⟨(y195), (wrap64 (x17_1 + 1)), (t193), (t194), er, H', ⟨by have := HK1.out; omega⟩, ⟨rdl HO197⟩, ⟨blkd BK185⟩, ⟨by repeat (first | (with_reducible first | exact HI190.out | apply IsS80.alloc | apply IsS80.drewN | apply IsS80.drew | apply IsS80.set_0 | apply IsS80.set_1 | refine IsS80.far ?_ NB190_185.out _) | exact HI190.out)⟩, ⟨by repeat (first | (with_reducible first | exact HB.out | apply below_alloc | apply pw_below_drewN | apply below_drew1 | refine below_set ?_ (IsS80.ge HI190.out) | refine below_set ?_ GE185.out) | exact HB.out)⟩⟩
    ·rw [if_neg c9] at H
     have c9b0 : decide (x17_1 < (l0.length : Int)) = false := decide_eq_false c9
     clear c9
     simp only [Option.some.injEq, Prod.mk.injEq] at H
     obtain ⟨rfl, rfl, rfl, rfl⟩ := H
     try go_wp2
     replace HO_6 := ak (Kd.R_drew HO_6.out)
     replace BK185 := ak (blk_drew BK185.out)
     replace HI190 := ak (IsS80.drew HI190.out)
     replace HB := ak (below_drew1 HB.out)
     refine start_ (n := 5) (S := fun w' => w'.cell? ⟨gb190, 0, none⟩ = some (.int .i64 x191000_1) ∧ w'.cell? ⟨gb190, 1, none⟩ = some (.int .i64 x191001_1)) (ds := []) (bl 5 0) (by kernel_rfl) rfl rfl ⟨(cellS80_0 HI190.out.1), (cellS80_1 HI190.out.1)⟩ (fun hHeld => ?_)
     generalize wr.drew = w16 at HO_6 BK185 HI190 HB hHeld ⊢
     refine pure_ (i := 0) (N := some 27) (v := ?_) (a' := ?_) (bl 5 1) rfl rfl (by kernel_rfl) (fun _ _ _ h => h) (Or.inl ⟨by rfl, ?_⟩) ?_ ?_
     rotate_left
     ·intro w'
      go_simp
      with_reducible rfl
     rotate_left
     ·simp only [Act.put, List.setIfInBounds_toArray, List.set_cons_zero, List.set_cons_succ, i64_w, i32_w]
      rfl
     refine pure_ (i := 2) (N := some 2) (v := ?_) (a' := ?_) (bl 5 5) rfl rfl (by kernel_rfl) (fun _ _ _ h => h) (Or.inl ⟨by rfl, ?_⟩) ?_ ?_
     rotate_left
     ·intro w'
      go_simp
      with_reducible rfl
     rotate_left
     ·simp only [Act.put, List.setIfInBounds_toArray, List.set_cons_zero, List.set_cons_succ, i64_w, i32_w]
      rfl
     refine take_ (i := 1) (N := some 28) (v := ?_) (a' := ?_) (bl 5 7) rfl rfl (by kernel_rfl) (fun _ _ _ h => h) (Or.inl ⟨by rfl, ?_⟩) hHeld ?_ ?_
     rotate_left
     ·rintro w' ⟨s0, s1⟩
      go_simp
      with_reducible rfl
     rotate_left
     ·simp only [Act.put, List.setIfInBounds_toArray, List.set_cons_zero, List.set_cons_succ, i64_w, i32_w]
      rfl
     refine one_ (i := 3) (N := none) (bl 5 15) rfl rfl (by kernel_rfl) (by decide) (fun K hK => ?_)
     have hs17 : w16.cell? ⟨gb185, 0, none⟩ = some (.int .i64 0) := bq BK185 0
     have hfs17 := blk_frozen BK185.out 0
     have hs18 : w16.cell? ⟨gb185, 1, none⟩ = some (.int .i64 0) := bq BK185 1
     have hfs18 := blk_frozen BK185.out 1
     refine skip_ (w1 := ?_) (by rfl) rfl ?_ ?_
     rotate_left
     ·go_simp
      rfl
     refine hK.out _ _ ⟨((cell_far (p := ⟨gb185, _, none⟩) (by first | exact NB190_185.out | (rw [add_block]; exact NB190_185.out) | (show (Addr.add _ _).block ≠ _; rw [add_block]; exact NB190_185.out) | (dsimp only; exact NB190_185.out)) _).trans (((cell_far (p := ⟨gb185, _, none⟩) (by first | exact NB190_185.out | (rw [add_block]; exact NB190_185.out) | (show (Addr.add _ _).block ≠ _; rw [add_block]; exact NB190_185.out) | (dsimp only; exact NB190_185.out)) _).trans (hHeld.1)))), ((cell_far (p := ⟨gb185, _, none⟩) (by first | exact NB190_185.out | (rw [add_block]; exact NB190_185.out) | (show (Addr.add _ _).block ≠ _; rw [add_block]; exact NB190_185.out) | (dsimp only; exact NB190_185.out)) _).trans (((cell_far (p := ⟨gb185, _, none⟩) (by first | exact NB190_185.out | (rw [add_block]; exact NB190_185.out) | (show (Addr.add _ _).block ≠ _; rw [add_block]; exact NB190_185.out) | (dsimp only; exact NB190_185.out)) _).trans (hHeld.2))))⟩ (fun hHeld => ?_)
     clear hK K
     refine pure_ (i := 4) (N := some 4) (v := ?_) (a' := ?_) (bl 5 31) rfl rfl (by kernel_rfl) (fun _ _ _ h => h) (Or.inl ⟨by rfl, ?_⟩) ?_ ?_
     rotate_left
     ·intro w'
      go_simp
      with_reducible rfl
     rotate_left
     ·simp only [Act.put, List.setIfInBounds_toArray, List.set_cons_zero, List.set_cons_succ, i64_w, i32_w]
      rfl
     refine done_ (by kernel_rfl) ?_
     try go_wp2
     refine bodyPost_ret (results_list (rs := [.tmp 2, .cell 3 80, .tmp 4]) rfl (by simp) (.tmp (.cell gb185 80 #[.int .i64 x191000_1, .int .i64 x191001_1] (0, 0) _ rfl (by (with_reducible repeat (first | refine blk_drewN ?_ _ | refine blk_drew ?_ | refine blk_alloc ?_ _)); refine blk_put (cs := #[.int .i64 x191000_1, .int .i64 0]) ?_ 1 _ rfl; (with_reducible repeat (first | refine blk_drewN ?_ _ | refine blk_drew ?_ | refine blk_alloc ?_ _)); refine blk_put (cs := #[.int .i64 0, .int .i64 0]) ?_ 0 _ rfl; (with_reducible repeat (first | refine blk_drewN ?_ _ | refine blk_drew ?_ | refine blk_alloc ?_ _)); exact BK185.out) Try.underlying80 rfl (by kernel_rfl) (.tmp .nil)))) rfl ?_
     exact ⟨_, er2, by (with_reducible repeat (first | apply Kd.R_alloc | apply Kd.R_drewN | apply Kd.R_drew)); exact Kd.R_mono (farsR (Kd.R_types HO_6.out BK185.out (by decide))) (fun _ hk => trivial), by repeat (first | (with_reducible first | exact HB.out | apply below_alloc | apply pw_below_drewN | apply below_drew1 | refine below_set ?_ (IsS80.ge HI190.out) | refine below_set ?_ GE185.out) | exact HB.out)⟩
 ·replace c3 := Bool.eq_false_iff.mpr c3
  subst c3
  have H1 : (some (([] : List Int), 0, 0, false)) = some (r1, r2, r3, r4) := by rw [if_neg (show ¬ (false = true) by decide)] at H; exact H
  clear H
  have H := H1
  clear H1
  simp only [Option.some.injEq, Prod.mk.injEq] at H
  obtain ⟨rfl, rfl, rfl, rfl⟩ := H
  go_enter Try.func83, Try.ntmps83
  go_wp2_with (first | ((with_reducible refine gate_dst (N := 3) rfl ?_); refine boxev 3 #[.int .i64 0, .int .i64 0] 80 ?_; intro gb185 hg w19 hbox hb; have BK185 := ak (hbox); have GW185 := ak (hgl hg (belowd HB)); have GE185 := ak (hgl hg (belowd HB)); replace HB := ak (below_step (belowd HB) hb); clear hb hbox hg) | ((with_reducible refine gate_callee (f := 143) rfl ?_); refine goesLa (some 10) rfl Try.func143 #[.slice A0 l0.length c0] rfl ?_; (with_reducible refine (impl_areTaken.calls k _ _ l0 false _ ?side1 ?side2 A2.out).mono ?_); (case side1 => exact cd (Kd.C_below HR0.out HB.out)); (case side2 => exact HC0.out); rintro e w' ⟨rfl, ⟨nd, rfl⟩⟩; refine ⟨_, rfl, ?_⟩; (try (rw [drewN_self w19]; generalize hq_ : World.drewN w19 _ = w19; have n0_ : Aside0 (w19.heap[gb185]? = some (.cells #[.int .i64 0, .int .i64 0] 80 (0, 0))) := ⟨by rw [← hq_]; exact (blkd BK185)⟩; have n1_ : Aside0 (Below w.heap.size w w19) := ⟨by rw [← hq_]; exact (belowg1 HB GE185)⟩; clear BK185 HB hq_; have BK185 := n0_; have HB := n1_; clear n0_ n1_)); obtain ⟨hcz20_0, hcz20_1, hfz20_0, hfz20_1⟩ := box2 BK185))
  refine bodyPost_ret (results_list (rs := [.tmp 2, .cell 3 80, .tmp 4]) rfl (by simp) (.tmp (.cell gb185 80 #[.int .i64 0, .int .i64 0] (0, 0) _ rfl (by (with_reducible repeat (first | refine blk_drewN ?_ _ | refine blk_drew ?_ | refine blk_alloc ?_ _)); refine blk_put (cs := #[.int .i64 0, .int .i64 0]) ?_ 1 _ rfl; (with_reducible repeat (first | refine blk_drewN ?_ _ | refine blk_drew ?_ | refine blk_alloc ?_ _)); refine blk_put (cs := #[.int .i64 0, .int .i64 0]) ?_ 0 _ rfl; (with_reducible repeat (first | refine blk_drewN ?_ _ | refine blk_drew ?_ | refine blk_alloc ?_ _)); exact BK185.out) Try.underlying80 rfl (by kernel_rfl) (.tmp .nil)))) rfl ?_
  exact ⟨_, er2, by first | exact Kd.R_nil _ _ _ _ _ | exact Kd.N_nil _ _ _ _ _ | exact Kd.V_nil _ _ _ _ _ | exact Kd.Q_nil _ _ _ _ _ | exact Kd.S_nil _ _ _ _ _, belowg1 HB GE185⟩

/-! ### spec_l1In: function 92 -/
def spec_l1In.f (a0 : Int) (a1 : Int) (a2 : Int) : Option (Bool) := if a0 ≥ a1 then (some (decide (a0 ≤ a2))) else (some false)
set_option maxHeartbeats 8000000 in
set_option maxRecDepth 100000 in
theorem spec_l1In.calls (a0 : Int) (a1 : Int) (a2 : Int) (r : Bool) (w : World) (h : spec_l1In.f a0 a1 a2 = some r) :
  Calls Try.prog 92 #[.int .i64 a0, .int .i64 a1, .int .i64 a2] w fun e w' => e = .returned (.bool r) ∧ Drawn0 w w' := by
 have H : (if a0 ≥ a1 then (some (decide (a0 ≤ a2))) else (some false)) = some r := h
 clear h
 by_cases c4 : a0 ≥ a1
 ·rw [if_pos c4] at H
  have c4b0 : decide (a1 ≤ a0) = true := decide_eq_true c4
  clear c4
  obtain rfl := Option.some.inj H
  go_enter Try.func92, Try.ntmps92
  go_wp2
  go_ret
  exact ⟨er, drw⟩
 ·rw [if_neg c4] at H
  have c4b0 : decide (a1 ≤ a0) = false := decide_eq_false c4
  clear c4
  obtain rfl := Option.some.inj H
  go_enter Try.func92, Try.ntmps92
  go_wp2
  go_ret
  exact ⟨er, drw⟩

/-! ### spec_l1All: function 107 -/
def spec_l1All.l0 : Nat → Int → Int → List Int → Int → Int → Option (Bool)
  | 0, _, _, _, _, _ => none
  | k + 1, x1, x2, x9, x10, x11 => if x11 < x10 then (if 0 ≤ x11 then (if x11 < (x9.length : Int) then ((spec_l1In.f (rd x9 x11) x1 x2).bind fun t199 => (if t199 = true then (spec_l1All.l0 k x1 x2 x9 x10 (wrap64 (x11 + 1))) else (some false))) else (none)) else (none)) else (some true)
def spec_l1All.f (k : Nat) (l0 : List Int) (a1 : Int) (a2 : Int) : Option (Bool) := spec_l1All.l0 k a1 a2 l0 (l0.length : Int) 0
theorem spec_l1All.mono_l : ∀ k, (∀ y0 y1 y2 y3 y4, LeO (spec_l1All.l0 k y0 y1 y2 y3 y4) (spec_l1All.l0 (k + 1) y0 y1 y2 y3 y4))
 | 0 => fun _ _ _ _ _ r h => by simp [spec_l1All.l0] at h
 | k + 1 => by
  have ih0 := spec_l1All.mono_l k
  ·intro y0 y1 y2 y3 y4
   unfold spec_l1All.l0
   repeat' (first | (with_reducible first | exact ih0 _ _ _ _ _ | exact LeO.refl _ | exact LeO.none _ | refine LeO.ite ?_ ?_ | refine LeO.bind ?_ (fun _ => ?_)) | exact ih0 _ _ _ _ _ | exact LeO.none _ | refine LeO.ite ?_ ?_ | refine LeO.bind ?_ (fun _ => ?_))
theorem spec_l1All.mono : ∀ a0 a1 a2 k, LeO (spec_l1All.f k a0 a1 a2) (spec_l1All.f (k + 1) a0 a1 a2) := by
 intro a0 a1 a2 k
 have ih0 := spec_l1All.mono_l k
 unfold spec_l1All.f
 repeat' (first | (with_reducible first | exact ih0 _ _ _ _ _ | exact LeO.refl _ | exact LeO.none _ | refine LeO.ite ?_ ?_ | refine LeO.bind ?_ (fun _ => ?_)) | exact ih0 _ _ _ _ _ | exact LeO.none _ | refine LeO.ite ?_ ?_ | refine LeO.bind ?_ (fun _ => ?_))
set_option maxHeartbeats 8000000 in
set_option maxRecDepth 100000 in
theorem spec_l1All.calls (k : Nat) (A0 : Option Addr) (c0 : Nat) (l0 : List Int) (a1 : Int) (a2 : Int) (r : Bool) (w : World) (hr0 : Kd.C (Kd.int .i64) w A0 l0.length l0) (hc0 : l0.length ≤ c0) (h : spec_l1All.f k l0 a1 a2 = some r) :
  Calls Try.prog 107 #[.slice A0 l0.length c0, .int .i64 a1, .int .i64 a2] w fun e w' => e = .returned (.bool r) ∧ Drawn0 w w' := by
 have HR0 := Aside0.mk hr0; have HC0 := Aside0.mk hc0; clear hr0 hc0
 have H : (spec_l1All.l0 k a1 a2 l0 (l0.length : Int) 0) = some r := h
 clear h
 have H' := Aside0.mk H
 clear H
 go_enter Try.func107, Try.ntmps107
 go_wp2
 go_loopg [11] k (fun kq v11 w' => ∃ (x11_1 : Int), v11 = .int .i64 x11_1 ∧ Aside0 (spec_l1All.l0 kq a1 a2 l0 (l0.length : Int) x11_1 = some r) ∧ Aside0 (kq ≤ k) ∧ Drawn0 w w')
 case atStart => exact ⟨(0), er, H', ⟨Nat.le_refl _⟩, drw⟩
 case round =>
  clear H'
  obtain ⟨x11_1, rfl, HA, HK1, ⟨m1, rfl⟩⟩ := hrel
  cases gk with
  | zero => exact absurd HA.out (by simp [spec_l1All.l0])
  | succ k1 =>
   have H := HA.out; clear HA
   simp only [spec_l1All.l0] at H
   by_cases c4 : x11_1 < (l0.length : Int)
   ·rw [if_pos c4] at H
    have c4b0 : decide (x11_1 < (l0.length : Int)) = true := decide_eq_true c4
    clear c4; replace H := ifS H; obtain ⟨c5, H⟩ := H; have c5b0 := decide_eq_true c5; clear c5; replace H := ifS H; obtain ⟨c6, H⟩ := H; have c6b0 := decide_eq_true c6; clear c6; replace H := bS H; obtain ⟨t199, A7, H⟩ := H
    replace H : (if t199 = true then (spec_l1All.l0 k1 a1 a2 l0 (l0.length : Int) (wrap64 (x11_1 + 1))) else (some false)) = some r := H
    by_cases c8 : t199 = true
    ·subst c8
     have H1 : (spec_l1All.l0 k1 a1 a2 l0 (l0.length : Int) (wrap64 (x11_1 + 1))) = some r := by rw [if_pos rfl] at H; exact H
     clear H
     have H := H1
     clear H1
     have H' := Aside0.mk H
     clear H
     have p198 : 0 ≤ (x11_1 : Int) := da
     have q198 : x11_1 < (l0.length : Int) := da
     obtain ⟨ad198, e198, hx198_0⟩ := Kd.at_int HR0.out x11_1 p198 q198
     cases e198
     replace p198 := eq_true p198; replace q198 := eq_true q198
     go_wp2_with (first | ((with_reducible refine gate_callee (f := 92) rfl ?_); refine goesLa (some 18) rfl Try.func92 #[.int .i64 (rd l0 x11_1), .int .i64 a1, .int .i64 a2] rfl ?_; (with_reducible refine (spec_l1In.calls (rd l0 x11_1) a1 a2 true _ A7.out).mono ?_); rintro e w' ⟨rfl, ⟨nd, rfl⟩⟩; refine ⟨_, rfl, ?_⟩))
     go_roundg k1
     case measure => have := HK1.out; omega
     case rel => exact ⟨(wrap64 (x11_1 + 1)), er, H', ⟨by have := HK1.out; omega⟩, drw⟩
    ·replace c8 := Bool.eq_false_iff.mpr c8
     subst c8
     have H1 : (some false) = some r := by rw [if_neg (show ¬ (false = true) by decide)] at H; exact H
     clear H
     have H := H1
     clear H1
     obtain rfl := Option.some.inj H
     have p198 : 0 ≤ (x11_1 : Int) := da
     have q198 : x11_1 < (l0.length : Int) := da
     obtain ⟨ad198, e198, hx198_0⟩ := Kd.at_int HR0.out x11_1 p198 q198
     cases e198
     replace p198 := eq_true p198; replace q198 := eq_true q198
     go_wp2_with (first | ((with_reducible refine gate_callee (f := 92) rfl ?_); refine goesLa (some 18) rfl Try.func92 #[.int .i64 (rd l0 x11_1), .int .i64 a1, .int .i64 a2] rfl ?_; (with_reducible refine (spec_l1In.calls (rd l0 x11_1) a1 a2 false _ A7.out).mono ?_); rintro e w' ⟨rfl, ⟨nd, rfl⟩⟩; refine ⟨_, rfl, ?_⟩))
     go_ret
     exact ⟨er, drw⟩
   ·rw [if_neg c4] at H
    have c4b0 : decide (x11_1 < (l0.length : Int)) = false := decide_eq_false c4
    clear c4
    obtain rfl := Option.some.inj H
    go_wp2
    go_ret
    exact ⟨er, drw⟩

/-! ### spec_l16Numbers: function 145 -/
def spec_l16Numbers.f (k : Nat) (l0 : List Int) : Option (Bool) := if (l0.length : Int) ≤ 60 then ((spec_l1All.f k l0 1 100000).bind fun t200 => (some t200)) else (some false)
theorem spec_l16Numbers.mono : ∀ a0 k, LeO (spec_l16Numbers.f k a0) (spec_l16Numbers.f (k + 1) a0) := by
 intro a0 k
 unfold spec_l16Numbers.f
 repeat' (first | (with_reducible first | exact spec_l1All.mono _ _ _ _ | exact LeO.refl _ | exact LeO.none _ | refine LeO.ite ?_ ?_ | refine LeO.bind ?_ (fun _ => ?_)) | exact spec_l1All.mono _ _ _ _ | exact LeO.none _ | refine LeO.ite ?_ ?_ | refine LeO.bind ?_ (fun _ => ?_))
set_option maxHeartbeats 8000000 in
set_option maxRecDepth 100000 in
theorem spec_l16Numbers.calls (k : Nat) (A0 : Option Addr) (c0 : Nat) (l0 : List Int) (r : Bool) (w : World) (hr0 : Kd.C (Kd.int .i64) w A0 l0.length l0) (hc0 : l0.length ≤ c0) (h : spec_l16Numbers.f k l0 = some r) :
  Calls Try.prog 145 #[.slice A0 l0.length c0] w fun e w' => e = .returned (.bool r) ∧ Drawn0 w w' := by
 have HR0 := Aside0.mk hr0; have HC0 := Aside0.mk hc0; clear hr0 hc0
 have H : (if (l0.length : Int) ≤ 60 then ((spec_l1All.f k l0 1 100000).bind fun t200 => (some t200)) else (some false)) = some r := h
 clear h
 by_cases c2 : (l0.length : Int) ≤ 60
 ·rw [if_pos c2] at H
  have c2b0 : decide ((l0.length : Int) ≤ 60) = true := decide_eq_true c2
  have c2b1 : decide (l0.length ≤ 60) = true := decide_eq_true (by omega)
  clear c2; replace H := bS H; obtain ⟨t200, A3, H⟩ := H
  replace H : (some t200) = some r := H
  obtain rfl := Option.some.inj H
  go_enter Try.func145, Try.ntmps145
  go_wp2_with (first | (go_at_call 107; (with_reducible refine (spec_l1All.calls k _ _ l0 1 100000 t200 _ ?side1 ?side2 A3.out).mono ?_); (case side1 => exact cd HR0.out); (case side2 => exact HC0.out); rintro e w' ⟨rfl, ⟨nd, rfl⟩⟩))
  go_ret
  exact ⟨er, drw⟩
 ·rw [if_neg c2] at H
  have c2b0 : decide ((l0.length : Int) ≤ 60) = false := decide_eq_false c2
  have c2b1 : decide (l0.length ≤ 60) = false := decide_eq_false (by omega)
  clear c2
  obtain rfl := Option.some.inj H
  go_enter Try.func145, Try.ntmps145
  go_wp2
  go_ret
  exact ⟨er, drw⟩

/-! ### spec_l16Take: function 146 -/
def spec_l16Take.j0 : Nat → Int → Int → Bool → Int → Int → Option (Int × Int × Int)
  | 0, _, _, _, _, _ => none
  | k + 1, x1, x6, x15, x202000, x202001 => if x15 = true then (some (x202000, x202001, 1)) else (if x6 ≥ 0 then (if 0 ≤ (IntKind.u64.wrap (x6)) then (some (x202000, Go.bits .or .i64 x202001 (shl .i64 1 (IntKind.u64.wrap (x6))), 0)) else (none)) else (if (wrap64 (-x6)) ≥ 16 then (some (x1, 1, 0)) else (if 0 ≤ (IntKind.u64.wrap (wrap64 (-x6))) then (some (x1, Go.bits .or .i64 (Go.bits .and .i64 (shl .i64 x202001 (IntKind.u64.wrap (wrap64 (-x6)))) 65535) 1, 0)) else (none))))
def spec_l16Take.f (k : Nat) (a0_0 : Int) (a0_1 : Int) (a1 : Int) : Option (Int × Int × Int) := if (wrap64 (a0_0 - a1)) ≥ 16 then (some (a0_0, a0_1, 2)) else (if (wrap64 (a0_0 - a1)) ≥ 0 then (if 0 ≤ (IntKind.u64.wrap (wrap64 (a0_0 - a1))) then (spec_l16Take.j0 k a1 (wrap64 (a0_0 - a1)) ((Go.bits .and .i64 (shr .i64 a0_1 (IntKind.u64.wrap (wrap64 (a0_0 - a1)))) 1) == 1) a0_0 a0_1) else (none)) else (spec_l16Take.j0 k a1 (wrap64 (a0_0 - a1)) false a0_0 a0_1))
theorem spec_l16Take.mono_l : ∀ k, (∀ y0 y1 y2 y3 y4, LeO (spec_l16Take.j0 k y0 y1 y2 y3 y4) (spec_l16Take.j0 (k + 1) y0 y1 y2 y3 y4))
 | 0 => fun _ _ _ _ _ r h => by simp [spec_l16Take.j0] at h
 | k + 1 => by
  have ih0 := spec_l16Take.mono_l k
  ·intro y0 y1 y2 y3 y4
   unfold spec_l16Take.j0
   repeat' (first | (with_reducible first | exact ih0 _ _ _ _ _ | exact LeO.refl _ | exact LeO.none _ | refine LeO.ite ?_ ?_ | refine LeO.bind ?_ (fun _ => ?_)) | exact ih0 _ _ _ _ _ | exact LeO.none _ | refine LeO.ite ?_ ?_ | refine LeO.bind ?_ (fun _ => ?_))
theorem spec_l16Take.mono : ∀ a0 a1 a2 k, LeO (spec_l16Take.f k a0 a1 a2) (spec_l16Take.f (k + 1) a0 a1 a2) := by
 intro a0 a1 a2 k
 have ih0 := spec_l16Take.mono_l k
 unfold spec_l16Take.f
 repeat' (first | (with_reducible first | exact ih0 _ _ _ _ _ | exact LeO.refl _ | exact LeO.none _ | refine LeO.ite ?_ ?_ | refine LeO.bind ?_ (fun _ => ?_)) | exact ih0 _ _ _ _ _ | exact LeO.none _ | refine LeO.ite ?_ ?_ | refine LeO.bind ?_ (fun _ => ?_))
set_option maxHeartbeats 8000000 in
set_option maxRecDepth 100000 in
theorem spec_l16Take.calls (k : Nat) (a0_0 : Int) (a0_1 : Int) (a1 : Int) (r1 : Int) (r2 : Int) (r3 : Int) (w : World) (h : spec_l16Take.f k a0_0 a0_1 a1 = some (r1, r2, r3)) :
  Calls Try.prog 146 #[.agg #[.int .i64 a0_0, .int .i64 a0_1], .int .i64 a1] w fun e w' => e = .returned (.tuple #[.agg #[.int .i64 r1, .int .i64 r2], .int .i64 r3]) ∧ Below w.heap.size w w' := by
 have hu80 := Try.underlying80
 have HB := Aside0.mk (Below.refl w.heap.size w)
 have H : (if (wrap64 (a0_0 - a1)) ≥ 16 then (some (a0_0, a0_1, 2)) else (if (wrap64 (a0_0 - a1)) ≥ 0 then (if 0 ≤ (IntKind.u64.wrap (wrap64 (a0_0 - a1))) then (spec_l16Take.j0 k a1 (wrap64 (a0_0 - a1)) ((Go.bits .and .i64 (shr .i64 a0_1 (IntKind.u64.wrap (wrap64 (a0_0 - a1)))) 1) == 1) a0_0 a0_1) else (none)) else (spec_l16Take.j0 k a1 (wrap64 (a0_0 - a1)) false a0_0 a0_1))) = some (r1, r2, r3) := h
 clear h
 by_cases c3 : (wrap64 (a0_0 - a1)) ≥ 16
 ·rw [if_pos c3] at H
  have c3b0 : decide (16 ≤ (wrap64 (a0_0 - a1))) = true := decide_eq_true c3
  clear c3
  simp only [Option.some.injEq, Prod.mk.injEq] at H
  obtain ⟨rfl, rfl, rfl⟩ := H
  go_enter Try.func146, Try.ntmps146
  go_wp2_with (first | ((with_reducible refine gate_dst (N := 2) rfl ?_); refine boxev 2 #[.int .i64 a0_0, .int .i64 a0_1] 80 ?_; intro gb201 hg w4 hbox hb; have BK201 := ak (hbox); have GW201 := ak (hgl hg (belowd HB)); have GE201 := ak (hgl hg (belowd HB)); replace HB := ak (below_step (belowd HB) hb); clear hb hbox hg) | ((with_reducible refine gate_dst (N := 4) rfl ?_); refine boxev 4 #[.int .i64 0, .int .i64 0] 80 ?_; intro gb202 hg w5 hbox hb; have BK202 := ak (hbox); have GW202 := ak (hgl hg (belowg1 HB GE201)); have GE202 := ak (hgl hg (belowg1 HB GE201)); replace HB := ak (below_step (belowg1 HB GE201) hb); have NB201_202 := ak ((by rw [hg]; exact Nat.ne_of_lt (blk_lt (blkd BK201)) : gb201 ≠ gb202)); have NB202_201 := ak ((by rw [hg]; exact Nat.ne_of_gt (blk_lt (blkd BK201)) : gb202 ≠ gb201)); replace BK201 := ak (blk_below (blkd BK201) hb); clear hb hbox hg; have hnb6 := NB201_202.out; have hnc6 := NB202_201.out; obtain ⟨hcz7_0, hcz7_1, hfz7_0, hfz7_1⟩ := box2 BK201; obtain ⟨hcz8_0, hcz8_1, hfz8_0, hfz8_1⟩ := box2 BK202))
  refine bodyPost_ret (results_ct rfl _ _ gb202 80 #[.int .i64 a0_0, .int .i64 a0_1] (0, 0) _ rfl (by (with_reducible repeat (first | refine blk_drewN ?_ _ | refine blk_drew ?_ | refine blk_alloc ?_ _)); refine blk_put (cs := #[.int .i64 a0_0, .int .i64 0]) ?_ 1 _ rfl; (with_reducible repeat (first | refine blk_drewN ?_ _ | refine blk_drew ?_ | refine blk_alloc ?_ _)); refine blk_put (cs := #[.int .i64 0, .int .i64 0]) ?_ 0 _ rfl; (with_reducible repeat (first | refine blk_drewN ?_ _ | refine blk_drew ?_ | refine blk_alloc ?_ _)); exact BK202.out) Try.underlying80 rfl (by kernel_rfl)) rfl ?_
  exact ⟨er2, belowg2 HB GE201 GE202⟩
 ·rw [if_neg c3] at H
  have c3b0 : decide (16 ≤ (wrap64 (a0_0 - a1))) = false := decide_eq_false c3
  clear c3; have HC9 := Aside0.mk H; clear H
  go_enter Try.func146, Try.ntmps146
  go_upto_region 4 with (first | ((with_reducible refine gate_dst (N := 2) rfl ?_); refine boxev 2 #[.int .i64 a0_0, .int .i64 a0_1] 80 ?_; intro gb201 hg w10 hbox hb; have BK201 := ak (hbox); have GW201 := ak (hgl hg (belowd HB)); have GE201 := ak (hgl hg (belowd HB)); replace HB := ak (below_step (belowd HB) hb); clear hb hbox hg) | ((with_reducible refine gate_dst (N := 4) rfl ?_); refine boxev 4 #[.int .i64 0, .int .i64 0] 80 ?_; intro gb202 hg w11 hbox hb; have BK202 := ak (hbox); have GW202 := ak (hgl hg (belowg1 HB GE201)); have GE202 := ak (hgl hg (belowg1 HB GE201)); replace HB := ak (below_step (belowg1 HB GE201) hb); have NB201_202 := ak ((by rw [hg]; exact Nat.ne_of_lt (blk_lt (blkd BK201)) : gb201 ≠ gb202)); have NB202_201 := ak ((by rw [hg]; exact Nat.ne_of_gt (blk_lt (blkd BK201)) : gb202 ≠ gb201)); replace BK201 := ak (blk_below (blkd BK201) hb); clear hb hbox hg; have hnb12 := NB201_202.out; have hnc12 := NB202_201.out; obtain ⟨hcz13_0, hcz13_1, hfz13_0, hfz13_1⟩ := box2 BK201))
  (try simp only [Act.put, List.setIfInBounds_toArray, List.set_cons_zero, List.set_cons_succ])
  go_cut [15] (fun v15 wc => ∃ (kq : Nat) (x15_8 : Bool), v15 = .bool x15_8 ∧ Aside0 (spec_l16Take.j0 kq a1 (wrap64 (a0_0 - a1)) x15_8 a0_0 a0_1 = some (r1, r2, r3)) ∧ Aside0 (kq ≤ k) ∧ Aside0 (wc.heap[gb201]? = some (.cells #[.int .i64 a0_0, .int .i64 a0_1] 80 (0, 0))) ∧ Aside0 (wc.heap[gb202]? = some (.cells #[.int .i64 0, .int .i64 0] 80 (0, 0))) ∧ Aside0 (Below w.heap.size w wc))
  case first =>
   have H := HC9.out; clear HC9
   by_cases c14 : (wrap64 (a0_0 - a1)) ≥ 0
   ·rw [if_pos c14] at H
    have c14b0 : decide (0 ≤ (wrap64 (a0_0 - a1))) = true := decide_eq_true c14
    clear c14
    (first | rw [c14b0] | (simp only [i64_w, i32_w]; rw [c14b0]) | skip)
    obtain ⟨ji15, hji15⟩ : ∃ j_ : Int, (IntKind.u64.wrap (wrap64 (a0_0 - a1))) = j_ := ⟨_, rfl⟩
    replace H : (if 0 ≤ (ji15) then (spec_l16Take.j0 k a1 (wrap64 (a0_0 - a1)) ((Go.bits .and .i64 (shr .i64 a0_1 (ji15)) 1) == 1) a0_0 a0_1) else (none)) = some (r1, r2, r3) := by first | (rw [hji15] at H; exact H) | (simp only [hji15] at H ⊢; exact H)
    replace H := ifS H; obtain ⟨c16, H⟩ := H; have c16b0 := eq_true c16
    have c16b1 : decide (0 ≤ (ji15)) = true := decide_eq_true c16
    clear c16
    obtain ⟨ji17, hji17⟩ : ∃ j_ : Int, (shr .i64 a0_1 (ji15)) = j_ := ⟨_, rfl⟩
    replace H : (spec_l16Take.j0 k a1 (wrap64 (a0_0 - a1)) ((Go.bits .and .i64 (ji17) 1) == 1) a0_0 a0_1) = some (r1, r2, r3) := by first | (rw [hji17] at H; exact H) | (simp only [hji17] at H ⊢; exact H)
    have hji17_ : (a0_1 / 2 ^ min (ji15).toNat 64) = ji17 := hji17
    have hji17z : (ji15) ≤ 64 → (a0_1 / 2 ^ (ji15).toNat) = ji17 := shr_small hji17
    have H' := Aside0.mk H
    clear H; have hnb18 := NB201_202.out; have hnc18 := NB202_201.out; obtain ⟨hcz19_0, hcz19_1, hfz19_0, hfz19_1⟩ := box2 BK201; go_wp2
    go_meet
    case rel => exact ⟨_, (((Go.bits .and .i64 (ji17) 1) == 1)), (by first | rfl | (simp; done) | (simp only [← hji17] <;> (first | rfl | simp)) | (simp [*]; done)), H', ⟨by first | omega | exact Nat.le_refl _⟩, ⟨blkd BK201⟩, ⟨blkd BK202⟩, ⟨belowg2 HB GE201 GE202⟩⟩
   ·rw [if_neg c14] at H
    have c14b0 : decide (0 ≤ (wrap64 (a0_0 - a1))) = false := decide_eq_false c14
    clear c14
    (first | rw [c14b0] | (simp only [i64_w, i32_w]; rw [c14b0]) | skip)
    have H' := Aside0.mk H
    clear H; go_wp2
    go_meet
    case rel => exact ⟨_, (false), er, H', ⟨by first | omega | exact Nat.le_refl _⟩, ⟨blkd BK201⟩, ⟨blkd BK202⟩, ⟨belowg2 HB GE201 GE202⟩⟩
  case rest =>
   clear HC9; (try clear c3b0); (try clear hcz13_0); (try clear hcz13_1); (try clear hfz13_0); (try clear hfz13_1)
   obtain ⟨kq, x15_8, rfl, HA, HJ8, BK201, BK202, HB⟩ := hcut
   cases kq with
   | zero => exact absurd HA.out (by simp [spec_l16Take.j0])
   | succ kj8 =>
    have H := HA.out; clear HA
    simp only [spec_l16Take.j0] at H
    by_cases c20 : x15_8 = true
    ·subst c20
     have H1 : (some (a0_0, a0_1, 1)) = some (r1, r2, r3) := by rw [if_pos rfl] at H; exact H
     clear H
     have H := H1
     clear H1
     simp only [Option.some.injEq, Prod.mk.injEq] at H
     obtain ⟨rfl, rfl, rfl⟩ := H; have hnb21 := NB201_202.out; have hnc21 := NB202_201.out; obtain ⟨hcz22_0, hcz22_1, hfz22_0, hfz22_1⟩ := box2 BK201; obtain ⟨hcz23_0, hcz23_1, hfz23_0, hfz23_1⟩ := box2 BK202; go_wp2
     refine bodyPost_ret (results_ct rfl _ _ gb202 80 #[.int .i64 a0_0, .int .i64 a0_1] (0, 0) _ rfl (by (with_reducible repeat (first | refine blk_drewN ?_ _ | refine blk_drew ?_ | refine blk_alloc ?_ _)); refine blk_put (cs := #[.int .i64 a0_0, .int .i64 0]) ?_ 1 _ rfl; (with_reducible repeat (first | refine blk_drewN ?_ _ | refine blk_drew ?_ | refine blk_alloc ?_ _)); refine blk_put (cs := #[.int .i64 0, .int .i64 0]) ?_ 0 _ rfl; (with_reducible repeat (first | refine blk_drewN ?_ _ | refine blk_drew ?_ | refine blk_alloc ?_ _)); exact BK202.out) Try.underlying80 rfl (by kernel_rfl)) rfl ?_
     exact ⟨er2, belowg2 HB GE201 GE202⟩
    ·replace c20 := Bool.eq_false_iff.mpr c20
     subst c20
     have H1 : (if (wrap64 (a0_0 - a1)) ≥ 0 then (if 0 ≤ (IntKind.u64.wrap ((wrap64 (a0_0 - a1)))) then (some (a0_0, Go.bits .or .i64 a0_1 (shl .i64 1 (IntKind.u64.wrap ((wrap64 (a0_0 - a1))))), 0)) else (none)) else (if (wrap64 (-(wrap64 (a0_0 - a1)))) ≥ 16 then (some (a1, 1, 0)) else (if 0 ≤ (IntKind.u64.wrap (wrap64 (-(wrap64 (a0_0 - a1))))) then (some (a1, Go.bits .or .i64 (Go.bits .and .i64 (shl .i64 a0_1 (IntKind.u64.wrap (wrap64 (-(wrap64 (a0_0 - a1)))))) 65535) 1, 0)) else (none)))) = some (r1, r2, r3) := by rw [if_neg (show ¬ (false = true) by decide)] at H; exact H
     clear H
     have H := H1
     clear H1
     by_cases c24 : (wrap64 (a0_0 - a1)) ≥ 0
     ·rw [if_pos c24] at H
      have c24b0 : decide (0 ≤ (wrap64 (a0_0 - a1))) = true := decide_eq_true c24
      clear c24
      obtain ⟨ji25, hji25⟩ : ∃ j_ : Int, (IntKind.u64.wrap ((wrap64 (a0_0 - a1)))) = j_ := ⟨_, rfl⟩
      replace H : (if 0 ≤ (ji25) then (some (a0_0, Go.bits .or .i64 a0_1 (shl .i64 1 (ji25)), 0)) else (none)) = some (r1, r2, r3) := by first | (rw [hji25] at H; exact H) | (simp only [hji25] at H ⊢; exact H)
      replace H := ifS H; obtain ⟨c26, H⟩ := H; have c26b0 := eq_true c26
      have c26b1 : decide (0 ≤ (ji25)) = true := decide_eq_true c26
      clear c26
      obtain ⟨ji27, hji27⟩ : ∃ j_ : Int, (shl .i64 1 (ji25)) = j_ := ⟨_, rfl⟩
      replace H : (some (a0_0, Go.bits .or .i64 a0_1 (ji27), 0)) = some (r1, r2, r3) := by first | (rw [hji27] at H; exact H) | (simp only [hji27] at H ⊢; exact H)
      have hji27_ : (IntKind.i64.wrap (1 * 2 ^ min (ji25).toNat 64)) = ji27 := hji27
      have hji27z : (ji25) ≤ 64 → (IntKind.i64.wrap (1 * 2 ^ (ji25).toNat)) = ji27 := shl_small hji27
      have hji27u : (IntKind.i64.wrap (2 ^ min (ji25).toNat 64)) = ji27 := by have h_ := hji27_; rw [Int.one_mul] at h_; exact h_
      have hji27v : (ji25) ≤ 64 → (IntKind.i64.wrap (2 ^ (ji25).toNat)) = ji27 := fun hle_ => by have h_ := hji27z hle_; rw [Int.one_mul] at h_; exact h_
      have hji27y : (wrap64 (1 * 2 ^ min (ji25).toNat 64)) = ji27 := (i64_w _).symm.trans hji27_
      have hji27x : (ji25) ≤ 64 → (wrap64 (1 * 2 ^ (ji25).toNat)) = ji27 := fun h_ => (i64_w _).symm.trans (hji27z h_)
      simp only [Option.some.injEq, Prod.mk.injEq] at H
      obtain ⟨rfl, rfl, rfl⟩ := H; have hnb28 := NB201_202.out; have hnc28 := NB202_201.out; obtain ⟨hcz29_0, hcz29_1, hfz29_0, hfz29_1⟩ := box2 BK201; obtain ⟨hcz30_0, hcz30_1, hfz30_0, hfz30_1⟩ := box2 BK202; go_wp2
      refine bodyPost_ret (results_ct rfl _ _ gb202 80 #[.int .i64 a0_0, .int .i64 (Go.bits .or .i64 a0_1 (ji27))] (0, 0) _ rfl (by (with_reducible repeat (first | refine blk_drewN ?_ _ | refine blk_drew ?_ | refine blk_alloc ?_ _)); refine blk_put (cs := #[.int .i64 a0_0, .int .i64 0]) ?_ 1 _ rfl; (with_reducible repeat (first | refine blk_drewN ?_ _ | refine blk_drew ?_ | refine blk_alloc ?_ _)); refine blk_put (cs := #[.int .i64 0, .int .i64 0]) ?_ 0 _ rfl; (with_reducible repeat (first | refine blk_drewN ?_ _ | refine blk_drew ?_ | refine blk_alloc ?_ _)); exact BK202.out) Try.underlying80 rfl (by kernel_rfl)) rfl ?_
      exact ⟨by first | rfl | (simp [errW_none, errW_some] <;> rfl) | (simp only [← hji25, ← hji27]; first | rfl | (simp [errW_none, errW_some] <;> rfl)) | (simp [*, errW_none, errW_some] <;> rfl), belowg2 HB GE201 GE202⟩
     ·rw [if_neg c24] at H
      have c24b0 : decide (0 ≤ (wrap64 (a0_0 - a1))) = false := decide_eq_false c24
      clear c24
      by_cases c31 : (wrap64 (-(wrap64 (a0_0 - a1)))) ≥ 16
      ·rw [if_pos c31] at H
       have c31b0 : decide (16 ≤ (wrap64 (-(wrap64 (a0_0 - a1))))) = true := decide_eq_true c31
       clear c31
       simp only [Option.some.injEq, Prod.mk.injEq] at H
       obtain ⟨rfl, rfl, rfl⟩ := H; have hnb32 := NB202_201.out; have hnc32 := NB201_202.out; obtain ⟨hcz33_0, hcz33_1, hfz33_0, hfz33_1⟩ := box2 BK202; go_wp2
       refine bodyPost_ret (results_ct rfl _ _ gb202 80 #[.int .i64 a1, .int .i64 1] (0, 0) _ rfl (by (with_reducible repeat (first | refine blk_drewN ?_ _ | refine blk_drew ?_ | refine blk_alloc ?_ _)); refine blk_put (cs := #[.int .i64 a1, .int .i64 0]) ?_ 1 _ rfl; (with_reducible repeat (first | refine blk_drewN ?_ _ | refine blk_drew ?_ | refine blk_alloc ?_ _)); refine blk_put (cs := #[.int .i64 0, .int .i64 0]) ?_ 0 _ rfl; (with_reducible repeat (first | refine blk_drewN ?_ _ | refine blk_drew ?_ | refine blk_alloc ?_ _)); exact BK202.out) Try.underlying80 rfl (by kernel_rfl)) rfl ?_
       exact ⟨er2, belowg2 HB GE201 GE202⟩
      ·rw [if_neg c31] at H
       have c31b0 : decide (16 ≤ (wrap64 (-(wrap64 (a0_0 - a1))))) = false := decide_eq_false c31
       clear c31
       obtain ⟨ji34, hji34⟩ : ∃ j_ : Int, (IntKind.u64.wrap (wrap64 (-(wrap64 (a0_0 - a1))))) = j_ := ⟨_, rfl⟩
       replace H : (if 0 ≤ (ji34) then (some (a1, Go.bits .or .i64 (Go.bits .and .i64 (shl .i64 a0_1 (ji34)) 65535) 1, 0)) else (none)) = some (r1, r2, r3) := by first | (rw [hji34] at H; exact H) | (simp only [hji34] at H ⊢; exact H)
       replace H := ifS H; obtain ⟨c35, H⟩ := H; have c35b0 := eq_true c35
       have c35b1 : decide (0 ≤ (ji34)) = true := decide_eq_true c35
       clear c35
       obtain ⟨ji36, hji36⟩ : ∃ j_ : Int, (shl .i64 a0_1 (ji34)) = j_ := ⟨_, rfl⟩
       replace H : (some (a1, Go.bits .or .i64 (Go.bits .and .i64 (ji36) 65535) 1, 0)) = some (r1, r2, r3) := by first | (rw [hji36] at H; exact H) | (simp only [hji36] at H ⊢; exact H)
       have hji36_ : (IntKind.i64.wrap (a0_1 * 2 ^ min (ji34).toNat 64)) = ji36 := hji36
       have hji36z : (ji34) ≤ 64 → (IntKind.i64.wrap (a0_1 * 2 ^ (ji34).toNat)) = ji36 := shl_small hji36
       have hji36y : (wrap64 (a0_1 * 2 ^ min (ji34).toNat 64)) = ji36 := (i64_w _).symm.trans hji36_
       have hji36x : (ji34) ≤ 64 → (wrap64 (a0_1 * 2 ^ (ji34).toNat)) = ji36 := fun h_ => (i64_w _).symm.trans (hji36z h_)
       simp only [Option.some.injEq, Prod.mk.injEq] at H
       obtain ⟨rfl, rfl, rfl⟩ := H; have hnb37 := NB201_202.out; have hnc37 := NB202_201.out; obtain ⟨hcz38_0, hcz38_1, hfz38_0, hfz38_1⟩ := box2 BK201; obtain ⟨hcz39_0, hcz39_1, hfz39_0, hfz39_1⟩ := box2 BK202; go_wp2
       refine bodyPost_ret (results_ct rfl _ _ gb202 80 #[.int .i64 a1, .int .i64 (Go.bits .or .i64 (Go.bits .and .i64 (ji36) 65535) 1)] (0, 0) _ rfl (by (with_reducible repeat (first | refine blk_drewN ?_ _ | refine blk_drew ?_ | refine blk_alloc ?_ _)); refine blk_put (cs := #[.int .i64 a1, .int .i64 0]) ?_ 1 _ rfl; (with_reducible repeat (first | refine blk_drewN ?_ _ | refine blk_drew ?_ | refine blk_alloc ?_ _)); refine blk_put (cs := #[.int .i64 0, .int .i64 0]) ?_ 0 _ rfl; (with_reducible repeat (first | refine blk_drewN ?_ _ | refine blk_drew ?_ | refine blk_alloc ?_ _)); exact BK202.out) Try.underlying80 rfl (by kernel_rfl)) rfl ?_
       exact ⟨by first | rfl | (simp [errW_none, errW_some] <;> rfl) | (simp only [← hji34, ← hji36]; first | rfl | (simp [errW_none, errW_some] <;> rfl)) | (simp [*, errW_none, errW_some] <;> rfl), belowg2 HB GE201 GE202⟩

end Go.Proofs.Ytonejnaanklfjaa.QFnTakenOnce
