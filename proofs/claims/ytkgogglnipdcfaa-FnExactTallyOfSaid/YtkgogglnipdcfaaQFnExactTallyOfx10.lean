-- printed by this session's own program (wip/tools/pp.py: the kit's print.py with changes); Lean checks it
import Derived.Test.YtkgogglnipdcfaaQFnExactTallyOfx0
import Derived.Test.YtkgogglnipdcfaaQFnExactTallyOfx3
import Derived.Test.YtkgogglnipdcfaaQFnExactTallyOfx6
import Derived.Test.YtkgogglnipdcfaaQFnExactTallyOfx9
namespace Go.Proofs.Ytkgogglnipdcfaa.QFnExactTallyOf
open Go.RowKit Go.Proofs.YtkgogglnipdcfaaW.PrintWords Go.Proofs.YtkgogglnipdcfaaW.PrintLast Go.Proofs.YtkgogglnipdcfaaW.PrintMore
attribute [local go_sem] max2_int min2_int max_two min_two max_three min_three max_four min_four strLss strGtr strLeq strGeq   -- for this text's walks alone
set_option linter.unusedVariables false
set_option linter.unusedSimpArgs false

/-! ### laws_markTallyS: function 73 -/
def laws_markTallyS.l0 : Nat → List (S110) → Int → Int → Option (Int × (List (S110)))
  | 0, _, _, _ => none
  | k + 1, x0, x1, x5 => if x5 < (x0.length : Int) then (if 0 ≤ x5 then ((some (x0.set (x5 : Int).toNat (⟨x1, (rd_T110 x0 x5).f1, (rd_T110 x0 x5).f2⟩ : S110) : List (S110))).bind fun y345 => ((some (y345.set (x5 : Int).toNat (⟨(rd_T110 y345 x5).f0, wrap64 (x1 + 1), (rd_T110 y345 x5).f2⟩ : S110) : List (S110))).bind fun y346 => (laws_markTallyS.l0 k (y346.set (x5 : Int).toNat (⟨(rd_T110 y346 x5).f0, (rd_T110 y346 x5).f1, wrap64 ((wrap64 (x1 + 1)) + 1)⟩ : S110)) (wrap64 ((wrap64 ((wrap64 (x1 + 1)) + 1)) + 1)) (wrap64 (x5 + 1))))) else (none)) else (some (x1, x0))
def laws_markTallyS.f (k : Nat) (l0 : List (S110)) (a1 : Int) : Option (Int × (List (S110))) := laws_markTallyS.l0 k l0 a1 0
theorem laws_markTallyS.mono_l : ∀ k, (∀ y0 y1 y2, LeO (laws_markTallyS.l0 k y0 y1 y2) (laws_markTallyS.l0 (k + 1) y0 y1 y2))
 | 0 => fun _ _ _ r h => by simp [laws_markTallyS.l0] at h
 | k + 1 => by
  have ih0 := laws_markTallyS.mono_l k
  ·intro y0 y1 y2
   unfold laws_markTallyS.l0
   repeat' (first | (with_reducible first | exact ih0 _ _ _ | exact LeO.refl _ | exact LeO.none _ | refine LeO.ite ?_ ?_ | refine LeO.bind ?_ (fun _ => ?_)) | exact ih0 _ _ _ | exact LeO.none _ | refine LeO.ite ?_ ?_ | refine LeO.bind ?_ (fun _ => ?_))
theorem laws_markTallyS.mono : ∀ a0 a1 k, LeO (laws_markTallyS.f k a0 a1) (laws_markTallyS.f (k + 1) a0 a1) := by
 intro a0 a1 k
 have ih0 := laws_markTallyS.mono_l k
 unfold laws_markTallyS.f
 repeat' (first | (with_reducible first | exact ih0 _ _ _ | exact LeO.refl _ | exact LeO.none _ | refine LeO.ite ?_ ?_ | refine LeO.bind ?_ (fun _ => ?_)) | exact ih0 _ _ _ | exact LeO.none _ | refine LeO.ite ?_ ?_ | refine LeO.bind ?_ (fun _ => ?_))
set_option maxHeartbeats 8000000 in
set_option maxRecDepth 100000 in
theorem laws_markTallyS.calls (k : Nat) (P0_ : Nat → Prop) (u9000_ : Value) (l0 : List (S110)) (a1 : Int) (r1 : Int) (r2 : List (S110)) (w0 w : World) (hB : Below w0.heap.size w0 w) (ho0 : Kd.R k110 110 w w0.heap.size P0_ u9000_ l0) (h : laws_markTallyS.f k l0 a1 = some (r1, r2)) :
  Calls Try.prog 73 #[u9000_, .int .i64 a1] w fun e w' => e = .returned (.int .i64 r1) ∧ Kd.R k110 110 w' w0.heap.size (fun k_ => (P0_ k_ ∨ w.heap.size ≤ k_)) u9000_ r2 ∧ Below w0.heap.size w0 w' ∧ Kept w w' (fun k_ => P0_ k_) := by
 have HO0 := Aside0.mk (show Kd.R k110 110 w w0.heap.size (fun k_ => (P0_ k_ ∨ w.heap.size ≤ k_)) u9000_ l0 from Kd.R_mono ho0 (fun k_ hk => (.inl hk)))
 have HK := Aside0.mk (Kept.refl w (fun k_ => P0_ k_))
 have HW0 := Aside0.mk hB.size
 have HB := Aside0.mk hB; clear hB
 have H : (laws_markTallyS.l0 k l0 a1 0) = some (r1, r2) := h
 clear h
 have H' := Aside0.mk H
 clear H
 go_enter Try.func73, Try.ntmps73
 go_wp2
 go_loopg [1, 5] k (fun kq v1 v5 w' => ∃ (x0_1 : List (S110)) (x1_1 : Int) (x5_1 : Int), v1 = .int .i64 x1_1 ∧ v5 = .int .i64 x5_1 ∧ Aside0 (laws_markTallyS.l0 kq x0_1 x1_1 x5_1 = some (r1, r2)) ∧ Aside0 (kq ≤ k) ∧ Aside0 (Kd.R k110 110 w' w0.heap.size (fun k_ => (P0_ k_ ∨ w.heap.size ≤ k_)) u9000_ x0_1) ∧ Aside0 (Kept w w' (fun k_ => P0_ k_)) ∧ Aside0 (Below w0.heap.size w0 w'))
 case atStart => exact ⟨(l0), (a1), (0), er, er, H', ⟨Nat.le_refl _⟩, ⟨rdl HO0⟩, ⟨by repeat (first | (with_reducible first | exact HK.out | apply Kept.alloc | apply Kept.drewN | apply Kept.drew) | exact HK.out)⟩, ⟨belowd HB⟩⟩
 case round =>
  clear H'
  obtain ⟨x0_1, x1_1, x5_1, rfl, rfl, HA, HK1, HO_0, HK, HB⟩ := hrel
  cases gk with
  | zero => exact absurd HA.out (by simp [laws_markTallyS.l0])
  | succ k1 =>
   have H := HA.out; clear HA
   simp only [laws_markTallyS.l0] at H
   by_cases c3 : x5_1 < (x0_1.length : Int)
   ·rw [if_pos c3] at H
    have c3b0 : decide (x5_1 < (x0_1.length : Int)) = true := decide_eq_true c3
    clear c3; replace H := ifS H; obtain ⟨c4, H⟩ := H; have c4b0 := decide_eq_true c4; clear c4
    obtain ⟨y345, hy_⟩ : ∃ y_ : List (S110), y_ = (x0_1.set (x5_1 : Int).toNat (⟨x1_1, (rd_T110 x0_1 x5_1).f1, (rd_T110 x0_1 x5_1).f2⟩ : S110)) := ⟨_, rfl⟩
    replace H : ((some (y345.set (x5_1 : Int).toNat (⟨(rd_T110 y345 x5_1).f0, wrap64 (x1_1 + 1), (rd_T110 y345 x5_1).f2⟩ : S110) : List (S110))).bind fun y346 => (laws_markTallyS.l0 k1 (y346.set (x5_1 : Int).toNat (⟨(rd_T110 y346 x5_1).f0, (rd_T110 y346 x5_1).f1, wrap64 ((wrap64 (x1_1 + 1)) + 1)⟩ : S110)) (wrap64 ((wrap64 ((wrap64 (x1_1 + 1)) + 1)) + 1)) (wrap64 (x5_1 + 1)))) = some (r1, r2) := yH
    have Ny345 := ak hy_; clear hy_
    obtain ⟨y346, hy_⟩ : ∃ y_ : List (S110), y_ = (y345.set (x5_1 : Int).toNat (⟨(rd_T110 y345 x5_1).f0, wrap64 (x1_1 + 1), (rd_T110 y345 x5_1).f2⟩ : S110)) := ⟨_, rfl⟩
    replace H : (laws_markTallyS.l0 k1 (y346.set (x5_1 : Int).toNat (⟨(rd_T110 y346 x5_1).f0, (rd_T110 y346 x5_1).f1, wrap64 ((wrap64 (x1_1 + 1)) + 1)⟩ : S110)) (wrap64 ((wrap64 ((wrap64 (x1_1 + 1)) + 1)) + 1)) (wrap64 (x5_1 + 1))) = some (r1, r2) := yH
    have Ny346 := ak hy_; clear hy_
    obtain ⟨y347, hy_⟩ : ∃ y_ : List (S110), y_ = (y346.set (x5_1 : Int).toNat (⟨(rd_T110 y346 x5_1).f0, (rd_T110 y346 x5_1).f1, wrap64 ((wrap64 (x1_1 + 1)) + 1)⟩ : S110)) := ⟨_, rfl⟩
    replace H : (laws_markTallyS.l0 k1 y347 (wrap64 ((wrap64 ((wrap64 (x1_1 + 1)) + 1)) + 1)) (wrap64 (x5_1 + 1))) = some (r1, r2) := yH
    have Ny347 := ak hy_; clear hy_
    have H' := Aside0.mk H
    clear H
    obtain ⟨Ao8, co8, eo8⟩ := Kd.R_slice HO_0.out
    subst eo8
    have p5 : 0 ≤ (x5_1 : Int) := da
    have q5 : (x5_1 : Int) < ((x0_1.length : Int) : Int) := da
    obtain ⟨go5, co5, eo5, gb5, gl5, cl5, HG5⟩ := Kd.R_form HO_0.out (by omega)
    (first | cases eo5 | (injection eo5 with ea_ en_ ec_; (first | subst ea_ | (injection ea_ with ea_; subst ea_)); subst ec_; clear en_))
    have GB5 := Aside0.mk gb5; have GG5 := Aside0.mk HG5; clear gb5 gl5 HG5
    have HMgo5 := Aside0.mk (show (P0_ go5 ∨ w.heap.size ≤ go5) from (HO_0.out.1 _ rfl))
    obtain ⟨ce5, hcl5, hM5, hcc5, hfr5⟩ := Kd.R_elem HO_0.out z110 (x5_1 : Int) p5 q5
    obtain rfl := k110_openM hM5
    have hx5_0 : wr.cell? ⟨go5, (x5_1 : Int).toNat * 3, none⟩ = some (.int .i64 ((rd_T110 x0_1 x5_1).f0)) := hcc5 0 _ rfl
    have hx5_1 : wr.cell? ⟨go5, (x5_1 : Int).toNat * 3 + 1, none⟩ = some (.int .i64 ((rd_T110 x0_1 x5_1).f1)) := hcc5 1 _ rfl
    have hx5_2 : wr.cell? ⟨go5, (x5_1 : Int).toNat * 3 + 2, none⟩ = some (.int .i64 ((rd_T110 x0_1 x5_1).f2)) := hcc5 2 _ rfl
    have hf5_0 : wr.frozen? ⟨go5, (x5_1 : Int).toNat * 3, none⟩ = false := hfr5 0
    have hf5_1 : wr.frozen? ⟨go5, (x5_1 : Int).toNat * 3 + 1, none⟩ = false := hfr5 1
    have hf5_2 : wr.frozen? ⟨go5, (x5_1 : Int).toNat * 3 + 2, none⟩ = false := hfr5 2
    clear hcl5 hcc5 hfr5 hM5; replace p5 := eq_true p5; replace q5 := eq_true q5
    have HX9 := Aside0.mk (show Kd.R k110 110 wr w0.heap.size (fun k_ => (P0_ k_ ∨ w.heap.size ≤ k_)) (.slice (some ⟨go5, 0, none⟩) x0_1.length co8) x0_1 from (rdl HO_0))
    obtain ⟨ce9, hcl9, hM9, hcc9, hfr9⟩ := Kd.R_elem HX9.out z110 (x5_1 : Int) (da) (by have h_ : (x5_1 : Int) < ((x0_1.length : Int) : Int) := da; first | exact h_ | (have e_ := (Kd.R_reads' HO_0.out).1; omega) | simpa using h_)
    obtain rfl := k110_openM hM9
    have HP9 := Kd.R_seg HX9.out (x5_1 : Int) (da) (by have h_ : (x5_1 : Int) < ((x0_1.length : Int) : Int) := da; first | exact h_ | (have e_ := (Kd.R_reads' HO_0.out).1; omega) | simpa using h_) (seg := [.int .i64 x1_1]) (j := 0) hcl9 hcc9 (show 1 ≤ 3 from by decide) (x' := (⟨x1_1, (rd_T110 x0_1 x5_1).f1, (rd_T110 x0_1 x5_1).f2⟩ : S110)) (k110_mkM _ _ _ (⟨x1_1, (rd_T110 x0_1 x5_1).f1, (rd_T110 x0_1 x5_1).f2⟩ : S110) ) (fun _ hk => hk)
    have hx9_0 := hcc9 0 _ rfl
    (try simp only [show (k110).sz = 3 from rfl, Nat.mul_one, Nat.add_zero] at hx9_0)
    have hf9_0 := hfr9 0
    (try simp only [show (k110).sz = 3 from rfl, Nat.mul_one, Nat.add_zero] at hf9_0)
    clear hcl9 hcc9 hfr9 hM9
    go_wp2_with (first | ((with_reducible refine gate_store (t := 3) (p := 16) rfl ?_); refine store_event (t := 3) (p := 16) (v := ?vo_w10) (w1 := (wr.setCell ⟨go5, (x5_1 : Int).toNat * 3, none⟩ (.int .i64 x1_1))) ?hg ?ho ?hn ?hr ?_; (case ho => rfl); (case hg => rfl); (case hn => rfl); (case hr => first | (go_simp; done) | (go_simp; rfl)); intro w10 hw; have hg : wr.grownBy w10 (some go5) := (by rw [hw]; exact HP9.2); have hp_ : Kd.R k110 110 w10 w0.heap.size (fun k_ => (P0_ k_ ∨ w.heap.size ≤ k_)) (.slice (some ⟨go5, 0, none⟩) x0_1.length co8) y345 := (by rw [hw, Ny345.out]; exact HP9.1); clear HP9; replace HB := ak ((by rw [hw]; exact below_set (HB.out) GB5.out : Below w0.heap.size w0 w10)); replace HK := ak (Kept.of_grown (S := (fun k_ => P0_ k_)) hg (by repeat (first | (with_reducible first | exact HK.out | apply Kept.alloc | apply Kept.drewN | apply Kept.drew) | exact HK.out)) (fun k_ e_ => (HO_0.out.1 k_ e_))); replace HO_0 := ak (hp_); clear hg hw hp_; have p6 : 0 ≤ (x5_1 : Int) := da; have q6 : (x5_1 : Int) < ((x0_1.length : Int) : Int) := da; obtain ⟨ce6, hcl6, hM6, hcc6, hfr6⟩ := Kd.R_elem HO_0.out z110 (x5_1 : Int) p6 q6; obtain rfl := k110_openM hM6; have hx6_0 : w10.cell? ⟨go5, (x5_1 : Int).toNat * 3, none⟩ = some (.int .i64 ((rd_T110 y345 x5_1).f0)) := hcc6 0 _ rfl; have hx6_1 : w10.cell? ⟨go5, (x5_1 : Int).toNat * 3 + 1, none⟩ = some (.int .i64 ((rd_T110 y345 x5_1).f1)) := hcc6 1 _ rfl; have hx6_2 : w10.cell? ⟨go5, (x5_1 : Int).toNat * 3 + 2, none⟩ = some (.int .i64 ((rd_T110 y345 x5_1).f2)) := hcc6 2 _ rfl; have hf6_0 : w10.frozen? ⟨go5, (x5_1 : Int).toNat * 3, none⟩ = false := hfr6 0; have hf6_1 : w10.frozen? ⟨go5, (x5_1 : Int).toNat * 3 + 1, none⟩ = false := hfr6 1; have hf6_2 : w10.frozen? ⟨go5, (x5_1 : Int).toNat * 3 + 2, none⟩ = false := hfr6 2; clear hcl6 hcc6 hfr6 hM6; replace p6 := eq_true p6; replace q6 := eq_true q6; have HX11 := Aside0.mk (show Kd.R k110 110 w10 w0.heap.size (fun k_ => (P0_ k_ ∨ w.heap.size ≤ k_)) (.slice (some ⟨go5, 0, none⟩) x0_1.length co8) y345 from (rdl HO_0)); obtain ⟨ce11, hcl11, hM11, hcc11, hfr11⟩ := Kd.R_elem HX11.out z110 (x5_1 : Int) (da) (by have h_ : (x5_1 : Int) < ((x0_1.length : Int) : Int) := da; first | exact h_ | (have e_ := (Kd.R_reads' HO_0.out).1; omega) | simpa using h_); obtain rfl := k110_openM hM11; have HP11 := Kd.R_seg HX11.out (x5_1 : Int) (da) (by have h_ : (x5_1 : Int) < ((x0_1.length : Int) : Int) := da; first | exact h_ | (have e_ := (Kd.R_reads' HO_0.out).1; omega) | simpa using h_) (seg := [.int .i64 (wrap64 (x1_1 + 1))]) (j := 1) hcl11 hcc11 (show 2 ≤ 3 from by decide) (x' := (⟨(rd_T110 y345 x5_1).f0, wrap64 (x1_1 + 1), (rd_T110 y345 x5_1).f2⟩ : S110)) (k110_mkM _ _ _ (⟨(rd_T110 y345 x5_1).f0, wrap64 (x1_1 + 1), (rd_T110 y345 x5_1).f2⟩ : S110) ) (fun _ hk => hk); have hx11_1 := hcc11 1 _ rfl; (try simp only [show (k110).sz = 3 from rfl, Nat.mul_one, Nat.add_zero] at hx11_1); have hf11_1 := hfr11 1; (try simp only [show (k110).sz = 3 from rfl, Nat.mul_one, Nat.add_zero] at hf11_1); clear hcl11 hcc11 hfr11 hM11) | ((with_reducible refine gate_store (t := 3) (p := 23) rfl ?_); refine store_event (t := 3) (p := 23) (v := ?vo_w12) (w1 := (w10.setCell ⟨go5, (x5_1 : Int).toNat * 3 + 1, none⟩ (.int .i64 (wrap64 (x1_1 + 1))))) ?hg ?ho ?hn ?hr ?_; (case ho => rfl); (case hg => rfl); (case hn => rfl); (case hr => first | (go_simp; done) | (go_simp; rfl)); intro w12 hw; have hg : w10.grownBy w12 (some go5) := (by rw [hw]; exact HP11.2); have hp_ : Kd.R k110 110 w12 w0.heap.size (fun k_ => (P0_ k_ ∨ w.heap.size ≤ k_)) (.slice (some ⟨go5, 0, none⟩) x0_1.length co8) y346 := (by rw [hw, Ny346.out]; exact HP11.1); clear HP11; replace HB := ak ((by rw [hw]; exact below_set (HB.out) GB5.out : Below w0.heap.size w0 w12)); replace HK := ak (Kept.of_grown (S := (fun k_ => P0_ k_)) hg (by repeat (first | (with_reducible first | exact HK.out | apply Kept.alloc | apply Kept.drewN | apply Kept.drew) | exact HK.out)) (fun k_ e_ => (HO_0.out.1 k_ e_))); replace HO_0 := ak (hp_); clear hg hw hp_; have p7 : 0 ≤ (x5_1 : Int) := da; have q7 : (x5_1 : Int) < ((x0_1.length : Int) : Int) := da; obtain ⟨ce7, hcl7, hM7, hcc7, hfr7⟩ := Kd.R_elem HO_0.out z110 (x5_1 : Int) p7 q7; obtain rfl := k110_openM hM7; have hx7_0 : w12.cell? ⟨go5, (x5_1 : Int).toNat * 3, none⟩ = some (.int .i64 ((rd_T110 y346 x5_1).f0)) := hcc7 0 _ rfl; have hx7_1 : w12.cell? ⟨go5, (x5_1 : Int).toNat * 3 + 1, none⟩ = some (.int .i64 ((rd_T110 y346 x5_1).f1)) := hcc7 1 _ rfl; have hx7_2 : w12.cell? ⟨go5, (x5_1 : Int).toNat * 3 + 2, none⟩ = some (.int .i64 ((rd_T110 y346 x5_1).f2)) := hcc7 2 _ rfl; have hf7_0 : w12.frozen? ⟨go5, (x5_1 : Int).toNat * 3, none⟩ = false := hfr7 0; have hf7_1 : w12.frozen? ⟨go5, (x5_1 : Int).toNat * 3 + 1, none⟩ = false := hfr7 1; have hf7_2 : w12.frozen? ⟨go5, (x5_1 : Int).toNat * 3 + 2, none⟩ = false := hfr7 2; clear hcl7 hcc7 hfr7 hM7; replace p7 := eq_true p7; replace q7 := eq_true q7; have HX13 := Aside0.mk (show Kd.R k110 110 w12 w0.heap.size (fun k_ => (P0_ k_ ∨ w.heap.size ≤ k_)) (.slice (some ⟨go5, 0, none⟩) x0_1.length co8) y346 from (rdl HO_0)); obtain ⟨ce13, hcl13, hM13, hcc13, hfr13⟩ := Kd.R_elem HX13.out z110 (x5_1 : Int) (da) (by have h_ : (x5_1 : Int) < ((x0_1.length : Int) : Int) := da; first | exact h_ | (have e_ := (Kd.R_reads' HO_0.out).1; omega) | simpa using h_); obtain rfl := k110_openM hM13; have HP13 := Kd.R_seg HX13.out (x5_1 : Int) (da) (by have h_ : (x5_1 : Int) < ((x0_1.length : Int) : Int) := da; first | exact h_ | (have e_ := (Kd.R_reads' HO_0.out).1; omega) | simpa using h_) (seg := [.int .i64 (wrap64 ((wrap64 (x1_1 + 1)) + 1))]) (j := 2) hcl13 hcc13 (show 3 ≤ 3 from by decide) (x' := (⟨(rd_T110 y346 x5_1).f0, (rd_T110 y346 x5_1).f1, wrap64 ((wrap64 (x1_1 + 1)) + 1)⟩ : S110)) (k110_mkM _ _ _ (⟨(rd_T110 y346 x5_1).f0, (rd_T110 y346 x5_1).f1, wrap64 ((wrap64 (x1_1 + 1)) + 1)⟩ : S110) ) (fun _ hk => hk); have hx13_2 := hcc13 2 _ rfl; (try simp only [show (k110).sz = 3 from rfl, Nat.mul_one, Nat.add_zero] at hx13_2); have hf13_2 := hfr13 2; (try simp only [show (k110).sz = 3 from rfl, Nat.mul_one, Nat.add_zero] at hf13_2); clear hcl13 hcc13 hfr13 hM13) | ((with_reducible refine gate_store (t := 3) (p := 30) rfl ?_); refine store_event (t := 3) (p := 30) (v := ?vo_w14) (w1 := (w12.setCell ⟨go5, (x5_1 : Int).toNat * 3 + 2, none⟩ (.int .i64 (wrap64 ((wrap64 (x1_1 + 1)) + 1))))) ?hg ?ho ?hn ?hr ?_; (case ho => rfl); (case hg => rfl); (case hn => rfl); (case hr => first | (go_simp; done) | (go_simp; rfl)); intro w14 hw; have hg : w12.grownBy w14 (some go5) := (by rw [hw]; exact HP13.2); have hp_ : Kd.R k110 110 w14 w0.heap.size (fun k_ => (P0_ k_ ∨ w.heap.size ≤ k_)) (.slice (some ⟨go5, 0, none⟩) x0_1.length co8) y347 := (by rw [hw, Ny347.out]; exact HP13.1); clear HP13; replace HB := ak ((by rw [hw]; exact below_set (HB.out) GB5.out : Below w0.heap.size w0 w14)); replace HK := ak (Kept.of_grown (S := (fun k_ => P0_ k_)) hg (by repeat (first | (with_reducible first | exact HK.out | apply Kept.alloc | apply Kept.drewN | apply Kept.drew) | exact HK.out)) (fun k_ e_ => (HO_0.out.1 k_ e_))); replace HO_0 := ak (hp_); clear hg hw hp_))
    go_roundg k1
    case measure => have := HK1.out; omega
    case rel => exact ⟨(y347), (wrap64 ((wrap64 ((wrap64 (x1_1 + 1)) + 1)) + 1)), (wrap64 (x5_1 + 1)), er, er, H', ⟨by have := HK1.out; omega⟩, ⟨rdl HO_0⟩, ⟨by repeat (first | (with_reducible first | exact HK.out | apply Kept.alloc | apply Kept.drewN | apply Kept.drew) | exact HK.out)⟩, ⟨belowd HB⟩⟩
   ·rw [if_neg c3] at H
    have c3b0 : decide (x5_1 < (x0_1.length : Int)) = false := decide_eq_false c3
    clear c3
    simp only [Option.some.injEq, Prod.mk.injEq] at H
    obtain ⟨rfl, rfl⟩ := H
    obtain ⟨Ao15, co15, eo15⟩ := Kd.R_slice HO_0.out
    subst eo15; go_wp2
    go_ret
    exact ⟨er2, by (with_reducible repeat (first | apply Kd.R_alloc | apply Kd.R_drewN | apply Kd.R_drew)); exact HO_0.out, belowd HB, by repeat (first | (with_reducible first | exact HK.out | apply Kept.alloc | apply Kept.drewN | apply Kept.drew) | exact HK.out)⟩

/-! ### laws_heldTallyS: function 74 -/
def laws_heldTallyS.l0 : Nat → List (S110) → Int → Int → Option (Int)
  | 0, _, _, _ => none
  | k + 1, x0, x1, x5 => if x5 < (x0.length : Int) then (if 0 ≤ x5 then (if ((rd_T110 x0 x5).f0) = x1 then (if ((rd_T110 x0 x5).f1) = (wrap64 (x1 + 1)) then (if ((rd_T110 x0 x5).f2) = (wrap64 ((wrap64 (x1 + 1)) + 1)) then (laws_heldTallyS.l0 k x0 (wrap64 ((wrap64 ((wrap64 (x1 + 1)) + 1)) + 1)) (wrap64 (x5 + 1))) else (some (-1))) else (some (-1))) else (some (-1))) else (none)) else (some x1)
def laws_heldTallyS.f (k : Nat) (l0 : List (S110)) (a1 : Int) : Option (Int) := laws_heldTallyS.l0 k l0 a1 0
theorem laws_heldTallyS.mono_l : ∀ k, (∀ y0 y1 y2, LeO (laws_heldTallyS.l0 k y0 y1 y2) (laws_heldTallyS.l0 (k + 1) y0 y1 y2))
 | 0 => fun _ _ _ r h => by simp [laws_heldTallyS.l0] at h
 | k + 1 => by
  have ih0 := laws_heldTallyS.mono_l k
  ·intro y0 y1 y2
   unfold laws_heldTallyS.l0
   repeat' (first | (with_reducible first | exact ih0 _ _ _ | exact LeO.refl _ | exact LeO.none _ | refine LeO.ite ?_ ?_ | refine LeO.bind ?_ (fun _ => ?_)) | exact ih0 _ _ _ | exact LeO.none _ | refine LeO.ite ?_ ?_ | refine LeO.bind ?_ (fun _ => ?_))
theorem laws_heldTallyS.mono : ∀ a0 a1 k, LeO (laws_heldTallyS.f k a0 a1) (laws_heldTallyS.f (k + 1) a0 a1) := by
 intro a0 a1 k
 have ih0 := laws_heldTallyS.mono_l k
 unfold laws_heldTallyS.f
 repeat' (first | (with_reducible first | exact ih0 _ _ _ | exact LeO.refl _ | exact LeO.none _ | refine LeO.ite ?_ ?_ | refine LeO.bind ?_ (fun _ => ?_)) | exact ih0 _ _ _ | exact LeO.none _ | refine LeO.ite ?_ ?_ | refine LeO.bind ?_ (fun _ => ?_))
set_option maxHeartbeats 8000000 in
set_option maxRecDepth 100000 in
theorem laws_heldTallyS.calls (k : Nat) (A0 : Option Addr) (c0 : Nat) (l0 : List (S110)) (a1 : Int) (r : Int) (w : World) (hr0 : Kd.C k110 w A0 l0.length l0) (hc0 : l0.length ≤ c0) (h : laws_heldTallyS.f k l0 a1 = some r) :
  Calls Try.prog 74 #[.slice A0 l0.length c0, .int .i64 a1] w fun e w' => e = .returned (.int .i64 r) ∧ Drawn0 w w' := by
 have HR0 := Aside0.mk hr0; have HC0 := Aside0.mk hc0; clear hr0 hc0
 have H : (laws_heldTallyS.l0 k l0 a1 0) = some r := h
 clear h
 have H' := Aside0.mk H
 clear H
 go_enter Try.func74, Try.ntmps74
 go_wp2
 go_loopg [1, 5] k (fun kq v1 v5 w' => ∃ (x1_1 : Int) (x5_1 : Int), v1 = .int .i64 x1_1 ∧ v5 = .int .i64 x5_1 ∧ Aside0 (laws_heldTallyS.l0 kq l0 x1_1 x5_1 = some r) ∧ Aside0 (kq ≤ k) ∧ Drawn0 w w')
 case atStart => exact ⟨(a1), (0), er, er, H', ⟨Nat.le_refl _⟩, drw⟩
 case round =>
  clear H'
  obtain ⟨x1_1, x5_1, rfl, rfl, HA, HK1, ⟨m1, rfl⟩⟩ := hrel
  cases gk with
  | zero => exact absurd HA.out (by simp [laws_heldTallyS.l0])
  | succ k1 =>
   have H := HA.out; clear HA
   simp only [laws_heldTallyS.l0] at H
   by_cases c3 : x5_1 < (l0.length : Int)
   ·rw [if_pos c3] at H
    have c3b0 : decide (x5_1 < (l0.length : Int)) = true := decide_eq_true c3
    clear c3; replace H := ifS H; obtain ⟨c4, H⟩ := H; have c4b0 := decide_eq_true c4; clear c4
    by_cases c5 : ((rd_T110 l0 x5_1).f0) = x1_1
    ·rw [if_pos c5] at H
     have c5b0 : (((rd_T110 l0 x5_1).f0) == x1_1) = true := beq_iff_eq.mpr c5
     have c5b1 : (((rd_T110 l0 x5_1).f0) != x1_1) = false := bne_eq_false_iff_eq.mpr c5
     clear c5
     by_cases c6 : ((rd_T110 l0 x5_1).f1) = (wrap64 (x1_1 + 1))
     ·rw [if_pos c6] at H
      have c6b0 : (((rd_T110 l0 x5_1).f1) == (wrap64 (x1_1 + 1))) = true := beq_iff_eq.mpr c6
      have c6b1 : (((rd_T110 l0 x5_1).f1) != (wrap64 (x1_1 + 1))) = false := bne_eq_false_iff_eq.mpr c6
      clear c6
      by_cases c7 : ((rd_T110 l0 x5_1).f2) = (wrap64 ((wrap64 (x1_1 + 1)) + 1))
      ·rw [if_pos c7] at H
       have c7b0 : (((rd_T110 l0 x5_1).f2) == (wrap64 ((wrap64 (x1_1 + 1)) + 1))) = true := beq_iff_eq.mpr c7
       have c7b1 : (((rd_T110 l0 x5_1).f2) != (wrap64 ((wrap64 (x1_1 + 1)) + 1))) = false := bne_eq_false_iff_eq.mpr c7
       clear c7
       have H' := Aside0.mk H
       clear H
       have p348 : 0 ≤ (x5_1 : Int) := da
       have q348 : x5_1 < (l0.length : Int) := da
       obtain ⟨ad348, e348, hx348_0, hx348_1, hx348_2⟩ := at_T110 HR0.out x5_1 p348 q348
       cases e348
       replace p348 := eq_true p348; replace q348 := eq_true q348
       have p349 : 0 ≤ (x5_1 : Int) := da
       have q349 : x5_1 < (l0.length : Int) := da
       obtain ⟨ad349, e349, hx349_0, hx349_1, hx349_2⟩ := at_T110 HR0.out x5_1 p349 q349
       obtain rfl : ad348 = ad349 := (by injection e349)
       replace p349 := eq_true p349; replace q349 := eq_true q349
       have p350 : 0 ≤ (x5_1 : Int) := da
       have q350 : x5_1 < (l0.length : Int) := da
       obtain ⟨ad350, e350, hx350_0, hx350_1, hx350_2⟩ := at_T110 HR0.out x5_1 p350 q350
       obtain rfl : ad348 = ad350 := (by injection e350)
       replace p350 := eq_true p350; replace q350 := eq_true q350; go_wp2
       go_roundg k1
       case measure => have := HK1.out; omega
       case rel => exact ⟨(wrap64 ((wrap64 ((wrap64 (x1_1 + 1)) + 1)) + 1)), (wrap64 (x5_1 + 1)), er, er, H', ⟨by have := HK1.out; omega⟩, drw⟩
      ·rw [if_neg c7] at H
       have c7b0 : (((rd_T110 l0 x5_1).f2) == (wrap64 ((wrap64 (x1_1 + 1)) + 1))) = false := beq_eq_false_iff_ne.mpr c7
       have c7b1 : (((rd_T110 l0 x5_1).f2) != (wrap64 ((wrap64 (x1_1 + 1)) + 1))) = true := bne_iff_ne.mpr c7
       obtain rfl := Option.some.inj H
       have p348 : 0 ≤ (x5_1 : Int) := da
       have q348 : x5_1 < (l0.length : Int) := da
       obtain ⟨ad348, e348, hx348_0, hx348_1, hx348_2⟩ := at_T110 HR0.out x5_1 p348 q348
       cases e348
       replace p348 := eq_true p348; replace q348 := eq_true q348
       have p349 : 0 ≤ (x5_1 : Int) := da
       have q349 : x5_1 < (l0.length : Int) := da
       obtain ⟨ad349, e349, hx349_0, hx349_1, hx349_2⟩ := at_T110 HR0.out x5_1 p349 q349
       obtain rfl : ad348 = ad349 := (by injection e349)
       replace p349 := eq_true p349; replace q349 := eq_true q349
       have p350 : 0 ≤ (x5_1 : Int) := da
       have q350 : x5_1 < (l0.length : Int) := da
       obtain ⟨ad350, e350, hx350_0, hx350_1, hx350_2⟩ := at_T110 HR0.out x5_1 p350 q350
       obtain rfl : ad348 = ad350 := (by injection e350)
       replace p350 := eq_true p350; replace q350 := eq_true q350; go_wp2
       go_ret
       exact ⟨er, drw⟩
     ·rw [if_neg c6] at H
      have c6b0 : (((rd_T110 l0 x5_1).f1) == (wrap64 (x1_1 + 1))) = false := beq_eq_false_iff_ne.mpr c6
      have c6b1 : (((rd_T110 l0 x5_1).f1) != (wrap64 (x1_1 + 1))) = true := bne_iff_ne.mpr c6
      obtain rfl := Option.some.inj H
      have p348 : 0 ≤ (x5_1 : Int) := da
      have q348 : x5_1 < (l0.length : Int) := da
      obtain ⟨ad348, e348, hx348_0, hx348_1, hx348_2⟩ := at_T110 HR0.out x5_1 p348 q348
      cases e348
      replace p348 := eq_true p348; replace q348 := eq_true q348
      have p349 : 0 ≤ (x5_1 : Int) := da
      have q349 : x5_1 < (l0.length : Int) := da
      obtain ⟨ad349, e349, hx349_0, hx349_1, hx349_2⟩ := at_T110 HR0.out x5_1 p349 q349
      obtain rfl : ad348 = ad349 := (by injection e349)
      replace p349 := eq_true p349; replace q349 := eq_true q349; go_wp2
      go_ret
      exact ⟨er, drw⟩
    ·rw [if_neg c5] at H
     have c5b0 : (((rd_T110 l0 x5_1).f0) == x1_1) = false := beq_eq_false_iff_ne.mpr c5
     have c5b1 : (((rd_T110 l0 x5_1).f0) != x1_1) = true := bne_iff_ne.mpr c5
     obtain rfl := Option.some.inj H
     have p348 : 0 ≤ (x5_1 : Int) := da
     have q348 : x5_1 < (l0.length : Int) := da
     obtain ⟨ad348, e348, hx348_0, hx348_1, hx348_2⟩ := at_T110 HR0.out x5_1 p348 q348
     cases e348
     replace p348 := eq_true p348; replace q348 := eq_true q348; go_wp2
     go_ret
     exact ⟨er, drw⟩
   ·rw [if_neg c3] at H
    have c3b0 : decide (x5_1 < (l0.length : Int)) = false := decide_eq_false c3
    clear c3
    obtain rfl := Option.some.inj H
    go_wp2
    go_ret
    exact ⟨er, drw⟩

/-! ### laws_FnExactTallyOf: function 10 -/
mutual
def laws_FnExactTallyOf.j0 : Nat → Int → Int → List (S174) → List (S176) → List (S110) → Bool → List (S85) → List (S91) → List (S110) → Bool → Bool → Option (Bool)
  | 0, _, _, _, _, _, _, _, _, _, _, _ => none
  | k + 1, x0, x1, x2, x3, x10, x11, x12, x13, x14, x15, x61 => if x61 = true then (some false) else ((laws_toClaimS.f k x2).bind fun t374 => ((laws_eqClaimS.f k x12 t374).bind fun t377 => (if t377 = true then ((laws_toStatementS.f k x3).bind fun t378 => ((laws_eqStatementS.f k x13 t378).bind fun t381 => (if t381 = true then ((laws_markClaimS.f k x12 1).bind fun bt382 => ((laws_markStatementS.f k x13 bt382.1).bind fun bt384 => (if bt384.1 < 0 then (laws_FnExactTallyOf.j1 k x0 x1 x2 x3 x10 x11 x14 true) else ((laws_eqTallyS.f k x14 x10).bind fun t386 => (if t386 = true then (laws_FnExactTallyOf.j1 k x0 x1 x2 x3 x10 x11 x14 (x15 != x11)) else (laws_FnExactTallyOf.j1 k x0 x1 x2 x3 x10 x11 x14 true)))))) else (some false)))) else (some false))))
def laws_FnExactTallyOf.j1 : Nat → Int → Int → List (S174) → List (S176) → List (S110) → Bool → List (S110) → Bool → Option (Bool)
  | 0, _, _, _, _, _, _, _, _ => none
  | k + 1, x0, x1, x2, x3, x10, x11, x14, x90 => if x90 = true then (some false) else ((laws_markTallyS.f k x14 1).bind fun bt387 => ((laws_heldTallyS.f k bt387.2 1).bind fun t389 => (if t389 < 0 then (some false) else (if t389 = bt387.1 then ((laws_toClaimS.f k x2).bind fun t390 => ((laws_toStatementS.f k x3).bind fun t393 => ((impl_TallyOf.f k x0 x1 t390 t393).bind fun bt396 => ((laws_eqTallyS.f k bt396.1 x10).bind fun t400 => (if t400 = true then (laws_FnExactTallyOf.j2 k bt387.2 bt387.1 (bt396.2 != x11)) else (laws_FnExactTallyOf.j2 k bt387.2 bt387.1 true)))))) else (some false)))))
def laws_FnExactTallyOf.j2 : Nat → List (S110) → Int → Bool → Option (Bool)
  | 0, _, _, _ => none
  | k + 1, x14, x17, x120 => if x120 = true then (some false) else ((laws_heldTallyS.f k x14 1).bind fun t401 => (if t401 < 0 then (some false) else (if t401 = x17 then (some true) else (some false))))
end
def laws_FnExactTallyOf.f (k : Nat) (a0 : Int) (a1 : Int) (l2 : List (S174)) (l3 : List (S176)) : Option (Bool) := (laws_szClaimS.f l2 1048576).bind fun t351 => (if t351 < 0 then (some true) else ((laws_szStatementS.f l3 t351).bind fun t352 => (if t352 < 0 then (some true) else ((laws_toClaimS.f k l2).bind fun t353 => ((laws_toStatementS.f k l3).bind fun t356 => ((spec_TallyOf.f k a0 a1 t353 t356).bind fun bt359 => ((laws_toClaimS.f k l2).bind fun t363 => ((laws_toStatementS.f k l3).bind fun t366 => ((impl_TallyOf.f k a0 a1 t363 t366).bind fun bt369 => ((laws_eqTallyS.f k bt369.1 bt359.1).bind fun t373 => (if t373 = true then (laws_FnExactTallyOf.j0 k a0 a1 l2 l3 bt359.1 bt359.2 t363 t366 bt369.1 bt369.2 (bt369.2 != bt359.2)) else (laws_FnExactTallyOf.j0 k a0 a1 l2 l3 bt359.1 bt359.2 t363 t366 bt369.1 bt369.2 true))))))))))))
theorem laws_FnExactTallyOf.mono_l : ∀ k, (∀ y0 y1 y2 y3 y4 y5 y6 y7 y8 y9 y10, LeO (laws_FnExactTallyOf.j0 k y0 y1 y2 y3 y4 y5 y6 y7 y8 y9 y10) (laws_FnExactTallyOf.j0 (k + 1) y0 y1 y2 y3 y4 y5 y6 y7 y8 y9 y10)) ∧ (∀ y0 y1 y2 y3 y4 y5 y6 y7, LeO (laws_FnExactTallyOf.j1 k y0 y1 y2 y3 y4 y5 y6 y7) (laws_FnExactTallyOf.j1 (k + 1) y0 y1 y2 y3 y4 y5 y6 y7)) ∧ (∀ y0 y1 y2, LeO (laws_FnExactTallyOf.j2 k y0 y1 y2) (laws_FnExactTallyOf.j2 (k + 1) y0 y1 y2))
 | 0 => ⟨fun _ _ _ _ _ _ _ _ _ _ _ r h => by simp [laws_FnExactTallyOf.j0] at h, fun _ _ _ _ _ _ _ _ r h => by simp [laws_FnExactTallyOf.j1] at h, fun _ _ _ r h => by simp [laws_FnExactTallyOf.j2] at h⟩
 | k + 1 => by
  obtain ⟨ih0, ih1, ih2⟩ := laws_FnExactTallyOf.mono_l k
  refine ⟨?_, ?_, ?_⟩
  ·intro y0 y1 y2 y3 y4 y5 y6 y7 y8 y9 y10
   unfold laws_FnExactTallyOf.j0
   repeat' (first | (with_reducible first | exact ih0 _ _ _ _ _ _ _ _ _ _ _ | exact ih1 _ _ _ _ _ _ _ _ | exact ih2 _ _ _ | exact impl_TallyOf.mono _ _ _ _ _ | exact laws_eqClaimS.mono _ _ _ | exact laws_eqStatementS.mono _ _ _ | exact laws_eqTallyS.mono _ _ _ | exact laws_heldTallyS.mono _ _ _ | exact laws_markClaimS.mono _ _ _ | exact laws_markStatementS.mono _ _ _ | exact laws_markTallyS.mono _ _ _ | exact laws_toClaimS.mono _ _ | exact laws_toStatementS.mono _ _ | exact spec_TallyOf.mono _ _ _ _ _ | exact LeO.refl _ | exact LeO.none _ | refine LeO.ite ?_ ?_ | refine LeO.bind ?_ (fun _ => ?_)) | exact ih0 _ _ _ _ _ _ _ _ _ _ _ | exact ih1 _ _ _ _ _ _ _ _ | exact ih2 _ _ _ | exact impl_TallyOf.mono _ _ _ _ _ | exact laws_eqClaimS.mono _ _ _ | exact laws_eqStatementS.mono _ _ _ | exact laws_eqTallyS.mono _ _ _ | exact laws_heldTallyS.mono _ _ _ | exact laws_markClaimS.mono _ _ _ | exact laws_markStatementS.mono _ _ _ | exact laws_markTallyS.mono _ _ _ | exact laws_toClaimS.mono _ _ | exact laws_toStatementS.mono _ _ | exact spec_TallyOf.mono _ _ _ _ _ | exact LeO.none _ | refine LeO.ite ?_ ?_ | refine LeO.bind ?_ (fun _ => ?_))
  ·intro y0 y1 y2 y3 y4 y5 y6 y7
   unfold laws_FnExactTallyOf.j1
   repeat' (first | (with_reducible first | exact ih0 _ _ _ _ _ _ _ _ _ _ _ | exact ih1 _ _ _ _ _ _ _ _ | exact ih2 _ _ _ | exact impl_TallyOf.mono _ _ _ _ _ | exact laws_eqClaimS.mono _ _ _ | exact laws_eqStatementS.mono _ _ _ | exact laws_eqTallyS.mono _ _ _ | exact laws_heldTallyS.mono _ _ _ | exact laws_markClaimS.mono _ _ _ | exact laws_markStatementS.mono _ _ _ | exact laws_markTallyS.mono _ _ _ | exact laws_toClaimS.mono _ _ | exact laws_toStatementS.mono _ _ | exact spec_TallyOf.mono _ _ _ _ _ | exact LeO.refl _ | exact LeO.none _ | refine LeO.ite ?_ ?_ | refine LeO.bind ?_ (fun _ => ?_)) | exact ih0 _ _ _ _ _ _ _ _ _ _ _ | exact ih1 _ _ _ _ _ _ _ _ | exact ih2 _ _ _ | exact impl_TallyOf.mono _ _ _ _ _ | exact laws_eqClaimS.mono _ _ _ | exact laws_eqStatementS.mono _ _ _ | exact laws_eqTallyS.mono _ _ _ | exact laws_heldTallyS.mono _ _ _ | exact laws_markClaimS.mono _ _ _ | exact laws_markStatementS.mono _ _ _ | exact laws_markTallyS.mono _ _ _ | exact laws_toClaimS.mono _ _ | exact laws_toStatementS.mono _ _ | exact spec_TallyOf.mono _ _ _ _ _ | exact LeO.none _ | refine LeO.ite ?_ ?_ | refine LeO.bind ?_ (fun _ => ?_))
  ·intro y0 y1 y2
   unfold laws_FnExactTallyOf.j2
   repeat' (first | (with_reducible first | exact ih0 _ _ _ _ _ _ _ _ _ _ _ | exact ih1 _ _ _ _ _ _ _ _ | exact ih2 _ _ _ | exact impl_TallyOf.mono _ _ _ _ _ | exact laws_eqClaimS.mono _ _ _ | exact laws_eqStatementS.mono _ _ _ | exact laws_eqTallyS.mono _ _ _ | exact laws_heldTallyS.mono _ _ _ | exact laws_markClaimS.mono _ _ _ | exact laws_markStatementS.mono _ _ _ | exact laws_markTallyS.mono _ _ _ | exact laws_toClaimS.mono _ _ | exact laws_toStatementS.mono _ _ | exact spec_TallyOf.mono _ _ _ _ _ | exact LeO.refl _ | exact LeO.none _ | refine LeO.ite ?_ ?_ | refine LeO.bind ?_ (fun _ => ?_)) | exact ih0 _ _ _ _ _ _ _ _ _ _ _ | exact ih1 _ _ _ _ _ _ _ _ | exact ih2 _ _ _ | exact impl_TallyOf.mono _ _ _ _ _ | exact laws_eqClaimS.mono _ _ _ | exact laws_eqStatementS.mono _ _ _ | exact laws_eqTallyS.mono _ _ _ | exact laws_heldTallyS.mono _ _ _ | exact laws_markClaimS.mono _ _ _ | exact laws_markStatementS.mono _ _ _ | exact laws_markTallyS.mono _ _ _ | exact laws_toClaimS.mono _ _ | exact laws_toStatementS.mono _ _ | exact spec_TallyOf.mono _ _ _ _ _ | exact LeO.none _ | refine LeO.ite ?_ ?_ | refine LeO.bind ?_ (fun _ => ?_))
theorem laws_FnExactTallyOf.mono : ∀ a0 a1 a2 a3 k, LeO (laws_FnExactTallyOf.f k a0 a1 a2 a3) (laws_FnExactTallyOf.f (k + 1) a0 a1 a2 a3) := by
 intro a0 a1 a2 a3 k
 obtain ⟨ih0, ih1, ih2⟩ := laws_FnExactTallyOf.mono_l k
 unfold laws_FnExactTallyOf.f
 repeat' (first | (with_reducible first | exact ih0 _ _ _ _ _ _ _ _ _ _ _ | exact ih1 _ _ _ _ _ _ _ _ | exact ih2 _ _ _ | exact impl_TallyOf.mono _ _ _ _ _ | exact laws_eqClaimS.mono _ _ _ | exact laws_eqStatementS.mono _ _ _ | exact laws_eqTallyS.mono _ _ _ | exact laws_heldTallyS.mono _ _ _ | exact laws_markClaimS.mono _ _ _ | exact laws_markStatementS.mono _ _ _ | exact laws_markTallyS.mono _ _ _ | exact laws_toClaimS.mono _ _ | exact laws_toStatementS.mono _ _ | exact spec_TallyOf.mono _ _ _ _ _ | exact LeO.refl _ | exact LeO.none _ | refine LeO.ite ?_ ?_ | refine LeO.bind ?_ (fun _ => ?_)) | exact ih0 _ _ _ _ _ _ _ _ _ _ _ | exact ih1 _ _ _ _ _ _ _ _ | exact ih2 _ _ _ | exact impl_TallyOf.mono _ _ _ _ _ | exact laws_eqClaimS.mono _ _ _ | exact laws_eqStatementS.mono _ _ _ | exact laws_eqTallyS.mono _ _ _ | exact laws_heldTallyS.mono _ _ _ | exact laws_markClaimS.mono _ _ _ | exact laws_markStatementS.mono _ _ _ | exact laws_markTallyS.mono _ _ _ | exact laws_toClaimS.mono _ _ | exact laws_toStatementS.mono _ _ | exact spec_TallyOf.mono _ _ _ _ _ | exact LeO.none _ | refine LeO.ite ?_ ?_ | refine LeO.bind ?_ (fun _ => ?_))
set_option maxHeartbeats 8000000 in
set_option maxRecDepth 100000 in
theorem laws_FnExactTallyOf.calls (k : Nat) (a0 : Int) (a1 : Int) (A2 : Option Addr) (c2 : Nat) (l2 : List (S174)) (A3 : Option Addr) (c3 : Nat) (l3 : List (S176)) (r : Bool) (w : World) (hr2 : Kd.C k174 w A2 l2.length l2) (hc2 : l2.length ≤ c2) (hr3 : Kd.C k176 w A3 l3.length l3) (hc3 : l3.length ≤ c3) (h : laws_FnExactTallyOf.f k a0 a1 l2 l3 = some r) (hr_ : r = true) :
  Calls Try.prog 10 #[.int .i64 a0, .int .i64 a1, .slice A2 l2.length c2, .slice A3 l3.length c3] w fun e w' => e = .returned (.bool r) ∧ Below w.heap.size w w' := by
 have HR2 := Aside0.mk hr2; have HC2 := Aside0.mk hc2; clear hr2 hc2; have HR3 := Aside0.mk hr3; have HC3 := Aside0.mk hc3; clear hr3 hc3
 have HB := Aside0.mk (Below.refl w.heap.size w)
 have H : ((laws_szClaimS.f l2 1048576).bind fun t351 => (if t351 < 0 then (some true) else ((laws_szStatementS.f l3 t351).bind fun t352 => (if t352 < 0 then (some true) else ((laws_toClaimS.f k l2).bind fun t353 => ((laws_toStatementS.f k l3).bind fun t356 => ((spec_TallyOf.f k a0 a1 t353 t356).bind fun bt359 => ((laws_toClaimS.f k l2).bind fun t363 => ((laws_toStatementS.f k l3).bind fun t366 => ((impl_TallyOf.f k a0 a1 t363 t366).bind fun bt369 => ((laws_eqTallyS.f k bt369.1 bt359.1).bind fun t373 => (if t373 = true then (laws_FnExactTallyOf.j0 k a0 a1 l2 l3 bt359.1 bt359.2 t363 t366 bt369.1 bt369.2 (bt369.2 != bt359.2)) else (laws_FnExactTallyOf.j0 k a0 a1 l2 l3 bt359.1 bt359.2 t363 t366 bt369.1 bt369.2 true))))))))))))) = some r := h
 clear h; replace H := bS H; obtain ⟨t351, A5, H⟩ := H
 replace H : (if t351 < 0 then (some true) else ((laws_szStatementS.f l3 t351).bind fun t352 => (if t352 < 0 then (some true) else ((laws_toClaimS.f k l2).bind fun t353 => ((laws_toStatementS.f k l3).bind fun t356 => ((spec_TallyOf.f k a0 a1 t353 t356).bind fun bt359 => ((laws_toClaimS.f k l2).bind fun t363 => ((laws_toStatementS.f k l3).bind fun t366 => ((impl_TallyOf.f k a0 a1 t363 t366).bind fun bt369 => ((laws_eqTallyS.f k bt369.1 bt359.1).bind fun t373 => (if t373 = true then (laws_FnExactTallyOf.j0 k a0 a1 l2 l3 bt359.1 bt359.2 t363 t366 bt369.1 bt369.2 (bt369.2 != bt359.2)) else (laws_FnExactTallyOf.j0 k a0 a1 l2 l3 bt359.1 bt359.2 t363 t366 bt369.1 bt369.2 true)))))))))))) = some r := H
 by_cases c6 : t351 < 0
 ·rw [if_pos c6] at H
  have c6b0 : decide (t351 < 0) = true := decide_eq_true c6
  clear c6
  obtain rfl := Option.some.inj H
  go_enter Try.func10, Try.ntmps10
  go_wp2_with (first | ((with_reducible refine gate_callee (f := 68) rfl ?_); refine goesLa (some 23) rfl Try.func68 #[.slice A2 l2.length c2, .int .i64 1048576] rfl ?_; (with_reducible refine (laws_szClaimS.calls _ _ l2 1048576 t351 _ ?side1 ?side2 A5.out).mono ?_); (case side1 => exact cd HR2.out); (case side2 => exact HC2.out); rintro e w' ⟨rfl, ⟨nd, rfl⟩⟩; refine ⟨_, rfl, ?_⟩))
  go_ret
  exact ⟨er2, belowd HB⟩
 ·rw [if_neg c6] at H
  have c6b0 : decide (t351 < 0) = false := decide_eq_false c6
  clear c6; replace H := bS H; obtain ⟨t352, A7, H⟩ := H
  replace H : (if t352 < 0 then (some true) else ((laws_toClaimS.f k l2).bind fun t353 => ((laws_toStatementS.f k l3).bind fun t356 => ((spec_TallyOf.f k a0 a1 t353 t356).bind fun bt359 => ((laws_toClaimS.f k l2).bind fun t363 => ((laws_toStatementS.f k l3).bind fun t366 => ((impl_TallyOf.f k a0 a1 t363 t366).bind fun bt369 => ((laws_eqTallyS.f k bt369.1 bt359.1).bind fun t373 => (if t373 = true then (laws_FnExactTallyOf.j0 k a0 a1 l2 l3 bt359.1 bt359.2 t363 t366 bt369.1 bt369.2 (bt369.2 != bt359.2)) else (laws_FnExactTallyOf.j0 k a0 a1 l2 l3 bt359.1 bt359.2 t363 t366 bt369.1 bt369.2 true)))))))))) = some r := H
  by_cases c8 : t352 < 0
  ·rw [if_pos c8] at H
   have c8b0 : decide (t352 < 0) = true := decide_eq_true c8
   clear c8
   obtain rfl := Option.some.inj H
   go_enter Try.func10, Try.ntmps10
   go_wp2_with (first | ((with_reducible refine gate_callee (f := 68) rfl ?_); refine goesLa (some 23) rfl Try.func68 #[.slice A2 l2.length c2, .int .i64 1048576] rfl ?_; (with_reducible refine (laws_szClaimS.calls _ _ l2 1048576 t351 _ ?side1 ?side2 A5.out).mono ?_); (case side1 => exact cd HR2.out); (case side2 => exact HC2.out); rintro e w' ⟨rfl, ⟨nd, rfl⟩⟩; refine ⟨_, rfl, ?_⟩) | ((with_reducible refine gate_callee (f := 47) rfl ?_); refine goesLa (some 28) rfl Try.func47 #[.slice A3 l3.length c3, .int .i64 t351] rfl ?_; (with_reducible refine (laws_szStatementS.calls _ _ l3 t351 t352 _ ?side1 ?side2 A7.out).mono ?_); (case side1 => exact cd HR3.out); (case side2 => exact HC3.out); rintro e w' ⟨rfl, ⟨nd, rfl⟩⟩; refine ⟨_, rfl, ?_⟩))
   go_ret
   exact ⟨er2, belowd HB⟩
  ·rw [if_neg c8] at H
   have c8b0 : decide (t352 < 0) = false := decide_eq_false c8
   clear c8; replace H := bS H; obtain ⟨t353, A9, H⟩ := H
   replace H : ((laws_toStatementS.f k l3).bind fun t356 => ((spec_TallyOf.f k a0 a1 t353 t356).bind fun bt359 => ((laws_toClaimS.f k l2).bind fun t363 => ((laws_toStatementS.f k l3).bind fun t366 => ((impl_TallyOf.f k a0 a1 t363 t366).bind fun bt369 => ((laws_eqTallyS.f k bt369.1 bt359.1).bind fun t373 => (if t373 = true then (laws_FnExactTallyOf.j0 k a0 a1 l2 l3 bt359.1 bt359.2 t363 t366 bt369.1 bt369.2 (bt369.2 != bt359.2)) else (laws_FnExactTallyOf.j0 k a0 a1 l2 l3 bt359.1 bt359.2 t363 t366 bt369.1 bt369.2 true)))))))) = some r := H
   replace H := bS H; obtain ⟨t356, A10, H⟩ := H
   replace H : ((spec_TallyOf.f k a0 a1 t353 t356).bind fun bt359 => ((laws_toClaimS.f k l2).bind fun t363 => ((laws_toStatementS.f k l3).bind fun t366 => ((impl_TallyOf.f k a0 a1 t363 t366).bind fun bt369 => ((laws_eqTallyS.f k bt369.1 bt359.1).bind fun t373 => (if t373 = true then (laws_FnExactTallyOf.j0 k a0 a1 l2 l3 bt359.1 bt359.2 t363 t366 bt369.1 bt369.2 (bt369.2 != bt359.2)) else (laws_FnExactTallyOf.j0 k a0 a1 l2 l3 bt359.1 bt359.2 t363 t366 bt369.1 bt369.2 true))))))) = some r := H
   replace H := bS H; obtain ⟨⟨t359, t360⟩, A11, H⟩ := H
   replace H : ((laws_toClaimS.f k l2).bind fun t363 => ((laws_toStatementS.f k l3).bind fun t366 => ((impl_TallyOf.f k a0 a1 t363 t366).bind fun bt369 => ((laws_eqTallyS.f k bt369.1 t359).bind fun t373 => (if t373 = true then (laws_FnExactTallyOf.j0 k a0 a1 l2 l3 t359 t360 t363 t366 bt369.1 bt369.2 (bt369.2 != t360)) else (laws_FnExactTallyOf.j0 k a0 a1 l2 l3 t359 t360 t363 t366 bt369.1 bt369.2 true)))))) = some r := H
   replace H := bS H; obtain ⟨t363, A12, H⟩ := H
   replace H : ((laws_toStatementS.f k l3).bind fun t366 => ((impl_TallyOf.f k a0 a1 t363 t366).bind fun bt369 => ((laws_eqTallyS.f k bt369.1 t359).bind fun t373 => (if t373 = true then (laws_FnExactTallyOf.j0 k a0 a1 l2 l3 t359 t360 t363 t366 bt369.1 bt369.2 (bt369.2 != t360)) else (laws_FnExactTallyOf.j0 k a0 a1 l2 l3 t359 t360 t363 t366 bt369.1 bt369.2 true))))) = some r := H
   replace H := bS H; obtain ⟨t366, A13, H⟩ := H
   replace H : ((impl_TallyOf.f k a0 a1 t363 t366).bind fun bt369 => ((laws_eqTallyS.f k bt369.1 t359).bind fun t373 => (if t373 = true then (laws_FnExactTallyOf.j0 k a0 a1 l2 l3 t359 t360 t363 t366 bt369.1 bt369.2 (bt369.2 != t360)) else (laws_FnExactTallyOf.j0 k a0 a1 l2 l3 t359 t360 t363 t366 bt369.1 bt369.2 true)))) = some r := H
   replace H := bS H; obtain ⟨⟨t369, t370⟩, A14, H⟩ := H
   replace H : ((laws_eqTallyS.f k t369 t359).bind fun t373 => (if t373 = true then (laws_FnExactTallyOf.j0 k a0 a1 l2 l3 t359 t360 t363 t366 t369 t370 (t370 != t360)) else (laws_FnExactTallyOf.j0 k a0 a1 l2 l3 t359 t360 t363 t366 t369 t370 true))) = some r := H
   have HC15 := Aside0.mk H; clear H
   go_enter Try.func10, Try.ntmps10
   go_upto_region 12 with (first | ((with_reducible refine gate_callee (f := 68) rfl ?_); refine goesLa (some 23) rfl Try.func68 #[.slice A2 l2.length c2, .int .i64 1048576] rfl ?_; (with_reducible refine (laws_szClaimS.calls _ _ l2 1048576 t351 _ ?side1 ?side2 A5.out).mono ?_); (case side1 => exact cd HR2.out); (case side2 => exact HC2.out); rintro e w' ⟨rfl, ⟨nd, rfl⟩⟩; refine ⟨_, rfl, ?_⟩) | ((with_reducible refine gate_callee (f := 47) rfl ?_); refine goesLa (some 28) rfl Try.func47 #[.slice A3 l3.length c3, .int .i64 t351] rfl ?_; (with_reducible refine (laws_szStatementS.calls _ _ l3 t351 t352 _ ?side1 ?side2 A7.out).mono ?_); (case side1 => exact cd HR3.out); (case side2 => exact HC3.out); rintro e w' ⟨rfl, ⟨nd, rfl⟩⟩; refine ⟨_, rfl, ?_⟩) | ((with_reducible refine gate_callee (f := 70) rfl ?_); refine goesLa (some 35) rfl Try.func70 #[.slice A2 l2.length c2] rfl ?_; (with_reducible refine (laws_toClaimS.calls k _ _ l2 t353 _ ?side1 ?side2 A9.out).mono ?_); (case side1 => exact cd HR2.out); (case side2 => exact HC2.out); rintro e w16 ⟨v354, rfl, ho0, hb⟩; refine ⟨_, rfl, ?_⟩; have HO355 := ak (Kd.R_lower ho0 (below_size (belowd HB))); replace HB := ak (below_step (belowd HB) hb); (try clear hb); (try clear ho0)) | ((with_reducible refine gate_callee (f := 49) rfl ?_); refine goesLa (some 37) rfl Try.func49 #[.slice A3 l3.length c3] rfl ?_; (with_reducible refine (laws_toStatementS.calls k _ _ l3 t356 _ ?side1 ?side2 A10.out).mono ?_); (case side1 => exact cd (Kd.C_below HR3.out HB.out)); (case side2 => exact HC3.out); rintro e w17 ⟨v357, rfl, ho0, hb⟩; refine ⟨_, rfl, ?_⟩; replace HO355 := ak (Kd.R_below (rdl HO355) hb); have HO358 := ak (Kd.R_lower ho0 (below_size (belowd HB))); replace HB := ak (below_step (belowd HB) hb); (try clear hb); (try clear ho0); obtain ⟨Ao18, co18, eo18⟩ := Kd.R_slice HO355.out; subst eo18; obtain ⟨Ao19, co19, eo19⟩ := Kd.R_slice HO358.out; subst eo19) | ((with_reducible refine gate_callee (f := 69) rfl ?_); refine goesLa (some 38) rfl Try.func69 #[.int .i64 a0, .int .i64 a1, .slice Ao18 t353.length co18, .slice Ao19 t356.length co19] rfl ?_; (with_reducible refine (spec_TallyOf.calls k a0 a1 _ _ t353 _ _ t356 t359 t360 _ ?side1 ?side2 ?side3 ?side4 A11.out).mono ?_); (case side1 => exact cd (Kd.R_reads' HO355.out).2.2); (case side2 => exact (Kd.R_reads' HO355.out).2.1); (case side3 => exact cd (Kd.R_reads' HO358.out).2.2); (case side4 => exact (Kd.R_reads' HO358.out).2.1); rintro e w20 ⟨v361, rfl, ho0, hb⟩; refine ⟨_, rfl, ?_⟩; replace HO355 := ak (Kd.R_below (rdl HO355) hb); replace HO358 := ak (Kd.R_below (rdl HO358) hb); have HO362 := ak (Kd.R_lower ho0 (below_size (belowd HB))); replace HB := ak (below_step (belowd HB) hb); (try clear hb); (try clear ho0)) | ((with_reducible refine gate_callee (f := 70) rfl ?_); refine goesLa (some 42) rfl Try.func70 #[.slice A2 l2.length c2] rfl ?_; (with_reducible refine (laws_toClaimS.calls k _ _ l2 t363 _ ?side1 ?side2 A12.out).mono ?_); (case side1 => exact cd (Kd.C_below HR2.out HB.out)); (case side2 => exact HC2.out); rintro e w21 ⟨v364, rfl, ho0, hb⟩; refine ⟨_, rfl, ?_⟩; replace HO358 := ak (Kd.R_below (rdl HO358) hb); replace HO362 := ak (Kd.R_below (rdl HO362) hb); have HO365 := ak (Kd.R_lower (Kd.R_new' ho0 (Kd.R_lt (rdl HO355))) (below_size (belowd HB))); replace HO355 := ak (Kd.R_elder' (rdl HO355) (Kd.R_base ho0) hb); replace HB := ak (below_step (belowd HB) hb); (try clear hb); (try clear ho0)) | ((with_reducible refine gate_callee (f := 49) rfl ?_); refine goesLa (some 44) rfl Try.func49 #[.slice A3 l3.length c3] rfl ?_; (with_reducible refine (laws_toStatementS.calls k _ _ l3 t366 _ ?side1 ?side2 A13.out).mono ?_); (case side1 => exact cd (Kd.C_below HR3.out HB.out)); (case side2 => exact HC3.out); rintro e w22 ⟨v367, rfl, ho0, hb⟩; refine ⟨_, rfl, ?_⟩; replace HO355 := ak (Kd.R_below (rdl HO355) hb); replace HO362 := ak (Kd.R_below (rdl HO362) hb); replace HO365 := ak (Kd.R_below (rdl HO365) hb); have HO368 := ak (Kd.R_lower (Kd.R_new' ho0 (Kd.R_lt (rdl HO358))) (below_size (belowd HB))); replace HO358 := ak (Kd.R_elder' (rdl HO358) (Kd.R_base ho0) hb); replace HB := ak (below_step (belowd HB) hb); (try clear hb); (try clear ho0); obtain ⟨Ao23, co23, eo23⟩ := Kd.R_slice HO365.out; subst eo23; obtain ⟨Ao24, co24, eo24⟩ := Kd.R_slice HO368.out; subst eo24) | ((with_reducible refine gate_callee (f := 71) rfl ?_); refine goesLa (some 50) rfl Try.func71 #[.int .i64 a0, .int .i64 a1, .slice Ao23 t363.length co23, .slice Ao24 t366.length co24] rfl ?_; (with_reducible refine (impl_TallyOf.calls k a0 a1 _ _ t363 _ _ t366 t369 t370 _ ?side1 ?side2 ?side3 ?side4 A14.out).mono ?_); (case side1 => exact cd (Kd.R_reads' HO365.out).2.2); (case side2 => exact (Kd.R_reads' HO365.out).2.1); (case side3 => exact cd (Kd.R_reads' HO368.out).2.2); (case side4 => exact (Kd.R_reads' HO368.out).2.1); rintro e w25 ⟨v371, rfl, ho0, hb⟩; refine ⟨_, rfl, ?_⟩; replace HO355 := ak (Kd.R_below (rdl HO355) hb); replace HO358 := ak (Kd.R_below (rdl HO358) hb); replace HO365 := ak (Kd.R_below (rdl HO365) hb); replace HO368 := ak (Kd.R_below (rdl HO368) hb); have HO372 := ak (Kd.R_lower (Kd.R_new' ho0 (Kd.R_lt (rdl HO362))) (below_size (belowd HB))); replace HO362 := ak (Kd.R_elder' (rdl HO362) (Kd.R_base ho0) hb); replace HB := ak (below_step (belowd HB) hb); (try clear hb); (try clear ho0)))
   (try simp only [Act.put, List.setIfInBounds_toArray, List.set_cons_zero, List.set_cons_succ])
   go_cut [61] (fun v61 wc => ∃ (kq : Nat) (x61_14 : Bool), v61 = .bool x61_14 ∧ Aside0 (laws_FnExactTallyOf.j0 kq a0 a1 l2 l3 t359 t360 t363 t366 t369 t370 x61_14 = some r) ∧ Aside0 (kq ≤ k) ∧ Aside0 (Kd.R k110 110 wc w.heap.size (fun k_ => some k_ ≠ (v371 : Value).ownBlock) v361 t359) ∧ Aside0 (Kd.R k85 85 wc w.heap.size (fun _ => True) (.slice Ao23 t363.length co23) t363) ∧ Aside0 (Kd.R k91 91 wc w.heap.size (fun _ => True) (.slice Ao24 t366.length co24) t366) ∧ Aside0 (Kd.R k110 110 wc w.heap.size (fun k_ => some k_ ≠ (v361 : Value).ownBlock) v371 t369) ∧ Aside0 (Below w.heap.size w wc))
   case first =>
    have H := HC15.out; clear HC15; replace H := bS H; obtain ⟨t373, A26, H⟩ := H
    replace H : (if t373 = true then (laws_FnExactTallyOf.j0 k a0 a1 l2 l3 t359 t360 t363 t366 t369 t370 (t370 != t360)) else (laws_FnExactTallyOf.j0 k a0 a1 l2 l3 t359 t360 t363 t366 t369 t370 true)) = some r := H
    by_cases c27 : t373 = true
    ·subst c27
     have H1 : (laws_FnExactTallyOf.j0 k a0 a1 l2 l3 t359 t360 t363 t366 t369 t370 (t370 != t360)) = some r := by rw [if_pos rfl] at H; exact H
     clear H
     have H := H1
     clear H1
     have H' := Aside0.mk H
     clear H
     obtain ⟨Ao28, co28, eo28⟩ := Kd.R_slice HO372.out
     subst eo28
     obtain ⟨Ao29, co29, eo29⟩ := Kd.R_slice HO362.out
     subst eo29
     go_wp2_with (first | ((with_reducible refine gate_callee (f := 72) rfl ?_); refine goesLa (some 55) rfl Try.func72 #[.slice Ao28 t369.length co28, .slice Ao29 t359.length co29] rfl ?_; (with_reducible refine (laws_eqTallyS.calls k _ _ t369 _ _ t359 true _ ?side1 ?side2 ?side3 ?side4 A26.out).mono ?_); (case side1 => exact cd (Kd.R_reads' HO372.out).2.2); (case side2 => exact (Kd.R_reads' HO372.out).2.1); (case side3 => exact cd (Kd.R_reads' HO362.out).2.2); (case side4 => exact (Kd.R_reads' HO362.out).2.1); rintro e w30 ⟨rfl, hb⟩; refine ⟨_, rfl, ?_⟩; replace HO355 := ak (Kd.R_below (rdl HO355) hb); replace HO358 := ak (Kd.R_below (rdl HO358) hb); replace HO362 := ak (Kd.R_below (rdl HO362) hb); replace HO365 := ak (Kd.R_below (rdl HO365) hb); replace HO368 := ak (Kd.R_below (rdl HO368) hb); replace HO372 := ak (Kd.R_below (rdl HO372) hb); replace HB := ak (below_step (belowd HB) hb); (try clear hb)))
     go_meet
     case rel => exact ⟨_, ((t370 != t360)), er, H', ⟨by first | omega | exact Nat.le_refl _⟩, ⟨by (with_reducible repeat (first | apply Kd.R_alloc | apply Kd.R_drewN | apply Kd.R_drew)); exact Kd.R_mono HO362.out (fun _ hk => hk.2)⟩, ⟨by (with_reducible repeat (first | apply Kd.R_alloc | apply Kd.R_drewN | apply Kd.R_drew)); exact Kd.R_mono HO365.out (fun _ hk => trivial)⟩, ⟨by (with_reducible repeat (first | apply Kd.R_alloc | apply Kd.R_drewN | apply Kd.R_drew)); exact Kd.R_mono HO368.out (fun _ hk => trivial)⟩, ⟨by (with_reducible repeat (first | apply Kd.R_alloc | apply Kd.R_drewN | apply Kd.R_drew)); exact Kd.R_mono HO372.out (fun _ hk => hk.2)⟩, ⟨belowd HB⟩⟩
    ·replace c27 := Bool.eq_false_iff.mpr c27
     subst c27
     have H1 : (laws_FnExactTallyOf.j0 k a0 a1 l2 l3 t359 t360 t363 t366 t369 t370 true) = some r := by rw [if_neg (show ¬ (false = true) by decide)] at H; exact H
     clear H
     have H := H1
     clear H1
     have H' := Aside0.mk H
     clear H
     obtain ⟨Ao31, co31, eo31⟩ := Kd.R_slice HO372.out
     subst eo31
     obtain ⟨Ao32, co32, eo32⟩ := Kd.R_slice HO362.out
     subst eo32
     go_wp2_with (first | ((with_reducible refine gate_callee (f := 72) rfl ?_); refine goesLa (some 55) rfl Try.func72 #[.slice Ao31 t369.length co31, .slice Ao32 t359.length co32] rfl ?_; (with_reducible refine (laws_eqTallyS.calls k _ _ t369 _ _ t359 false _ ?side1 ?side2 ?side3 ?side4 A26.out).mono ?_); (case side1 => exact cd (Kd.R_reads' HO372.out).2.2); (case side2 => exact (Kd.R_reads' HO372.out).2.1); (case side3 => exact cd (Kd.R_reads' HO362.out).2.2); (case side4 => exact (Kd.R_reads' HO362.out).2.1); rintro e w33 ⟨rfl, hb⟩; refine ⟨_, rfl, ?_⟩; replace HO355 := ak (Kd.R_below (rdl HO355) hb); replace HO358 := ak (Kd.R_below (rdl HO358) hb); replace HO362 := ak (Kd.R_below (rdl HO362) hb); replace HO365 := ak (Kd.R_below (rdl HO365) hb); replace HO368 := ak (Kd.R_below (rdl HO368) hb); replace HO372 := ak (Kd.R_below (rdl HO372) hb); replace HB := ak (below_step (belowd HB) hb); (try clear hb)))
     go_meet
     case rel => exact ⟨_, (true), er, H', ⟨by first | omega | exact Nat.le_refl _⟩, ⟨by (with_reducible repeat (first | apply Kd.R_alloc | apply Kd.R_drewN | apply Kd.R_drew)); exact Kd.R_mono HO362.out (fun _ hk => hk.2)⟩, ⟨by (with_reducible repeat (first | apply Kd.R_alloc | apply Kd.R_drewN | apply Kd.R_drew)); exact Kd.R_mono HO365.out (fun _ hk => trivial)⟩, ⟨by (with_reducible repeat (first | apply Kd.R_alloc | apply Kd.R_drewN | apply Kd.R_drew)); exact Kd.R_mono HO368.out (fun _ hk => trivial)⟩, ⟨by (with_reducible repeat (first | apply Kd.R_alloc | apply Kd.R_drewN | apply Kd.R_drew)); exact Kd.R_mono HO372.out (fun _ hk => hk.2)⟩, ⟨belowd HB⟩⟩
   case rest =>
    clear HC15; (try clear c2); (try clear c3); (try clear c6b0); (try clear c8b0)
    obtain ⟨kq, x61_14, rfl, HA, HJ14, HO_10, HO_12, HO_13, HO_14, HB⟩ := hcut
    cases kq with
    | zero => exact absurd HA.out (by simp [laws_FnExactTallyOf.j0])
    | succ kj14 =>
     have H := HA.out; clear HA
     simp only [laws_FnExactTallyOf.j0] at H
     by_cases c34 : x61_14 = true
     ·subst c34
      have H1 : (some false) = some r := by rw [if_pos rfl] at H; exact H
      clear H
      have H := H1
      clear H1
      exact absurd (H.trans (congrArg some hr_)) (by simp)
     ·replace c34 := Bool.eq_false_iff.mpr c34
      subst c34
      have H1 : ((laws_toClaimS.f kj14 l2).bind fun t374 => ((laws_eqClaimS.f kj14 t363 t374).bind fun t377 => (if t377 = true then ((laws_toStatementS.f kj14 l3).bind fun t378 => ((laws_eqStatementS.f kj14 t366 t378).bind fun t381 => (if t381 = true then ((laws_markClaimS.f kj14 t363 1).bind fun bt382 => ((laws_markStatementS.f kj14 t366 bt382.1).bind fun bt384 => (if bt384.1 < 0 then (laws_FnExactTallyOf.j1 kj14 a0 a1 l2 l3 t359 t360 t369 true) else ((laws_eqTallyS.f kj14 t369 t359).bind fun t386 => (if t386 = true then (laws_FnExactTallyOf.j1 kj14 a0 a1 l2 l3 t359 t360 t369 (t370 != t360)) else (laws_FnExactTallyOf.j1 kj14 a0 a1 l2 l3 t359 t360 t369 true)))))) else (some false)))) else (some false)))) = some r := by rw [if_neg (show ¬ (false = true) by decide)] at H; exact H
      clear H
      have H := H1
      clear H1; replace H := bS H; obtain ⟨t374, A35, H⟩ := H
      replace H : ((laws_eqClaimS.f kj14 t363 t374).bind fun t377 => (if t377 = true then ((laws_toStatementS.f kj14 l3).bind fun t378 => ((laws_eqStatementS.f kj14 t366 t378).bind fun t381 => (if t381 = true then ((laws_markClaimS.f kj14 t363 1).bind fun bt382 => ((laws_markStatementS.f kj14 t366 bt382.1).bind fun bt384 => (if bt384.1 < 0 then (laws_FnExactTallyOf.j1 kj14 a0 a1 l2 l3 t359 t360 t369 true) else ((laws_eqTallyS.f kj14 t369 t359).bind fun t386 => (if t386 = true then (laws_FnExactTallyOf.j1 kj14 a0 a1 l2 l3 t359 t360 t369 (t370 != t360)) else (laws_FnExactTallyOf.j1 kj14 a0 a1 l2 l3 t359 t360 t369 true)))))) else (some false)))) else (some false))) = some r := H
      replace H := bS H; obtain ⟨t377, A36, H⟩ := H
      replace H : (if t377 = true then ((laws_toStatementS.f kj14 l3).bind fun t378 => ((laws_eqStatementS.f kj14 t366 t378).bind fun t381 => (if t381 = true then ((laws_markClaimS.f kj14 t363 1).bind fun bt382 => ((laws_markStatementS.f kj14 t366 bt382.1).bind fun bt384 => (if bt384.1 < 0 then (laws_FnExactTallyOf.j1 kj14 a0 a1 l2 l3 t359 t360 t369 true) else ((laws_eqTallyS.f kj14 t369 t359).bind fun t386 => (if t386 = true then (laws_FnExactTallyOf.j1 kj14 a0 a1 l2 l3 t359 t360 t369 (t370 != t360)) else (laws_FnExactTallyOf.j1 kj14 a0 a1 l2 l3 t359 t360 t369 true)))))) else (some false)))) else (some false)) = some r := H
      by_cases c37 : t377 = true
      ·subst c37
       have H1 : ((laws_toStatementS.f kj14 l3).bind fun t378 => ((laws_eqStatementS.f kj14 t366 t378).bind fun t381 => (if t381 = true then ((laws_markClaimS.f kj14 t363 1).bind fun bt382 => ((laws_markStatementS.f kj14 t366 bt382.1).bind fun bt384 => (if bt384.1 < 0 then (laws_FnExactTallyOf.j1 kj14 a0 a1 l2 l3 t359 t360 t369 true) else ((laws_eqTallyS.f kj14 t369 t359).bind fun t386 => (if t386 = true then (laws_FnExactTallyOf.j1 kj14 a0 a1 l2 l3 t359 t360 t369 (t370 != t360)) else (laws_FnExactTallyOf.j1 kj14 a0 a1 l2 l3 t359 t360 t369 true)))))) else (some false)))) = some r := by rw [if_pos rfl] at H; exact H
       clear H
       have H := H1
       clear H1; replace H := bS H; obtain ⟨t378, A38, H⟩ := H
       replace H : ((laws_eqStatementS.f kj14 t366 t378).bind fun t381 => (if t381 = true then ((laws_markClaimS.f kj14 t363 1).bind fun bt382 => ((laws_markStatementS.f kj14 t366 bt382.1).bind fun bt384 => (if bt384.1 < 0 then (laws_FnExactTallyOf.j1 kj14 a0 a1 l2 l3 t359 t360 t369 true) else ((laws_eqTallyS.f kj14 t369 t359).bind fun t386 => (if t386 = true then (laws_FnExactTallyOf.j1 kj14 a0 a1 l2 l3 t359 t360 t369 (t370 != t360)) else (laws_FnExactTallyOf.j1 kj14 a0 a1 l2 l3 t359 t360 t369 true)))))) else (some false))) = some r := H
       replace H := bS H; obtain ⟨t381, A39, H⟩ := H
       replace H : (if t381 = true then ((laws_markClaimS.f kj14 t363 1).bind fun bt382 => ((laws_markStatementS.f kj14 t366 bt382.1).bind fun bt384 => (if bt384.1 < 0 then (laws_FnExactTallyOf.j1 kj14 a0 a1 l2 l3 t359 t360 t369 true) else ((laws_eqTallyS.f kj14 t369 t359).bind fun t386 => (if t386 = true then (laws_FnExactTallyOf.j1 kj14 a0 a1 l2 l3 t359 t360 t369 (t370 != t360)) else (laws_FnExactTallyOf.j1 kj14 a0 a1 l2 l3 t359 t360 t369 true)))))) else (some false)) = some r := H
       by_cases c40 : t381 = true
       ·subst c40
        have H1 : ((laws_markClaimS.f kj14 t363 1).bind fun bt382 => ((laws_markStatementS.f kj14 t366 bt382.1).bind fun bt384 => (if bt384.1 < 0 then (laws_FnExactTallyOf.j1 kj14 a0 a1 l2 l3 t359 t360 t369 true) else ((laws_eqTallyS.f kj14 t369 t359).bind fun t386 => (if t386 = true then (laws_FnExactTallyOf.j1 kj14 a0 a1 l2 l3 t359 t360 t369 (t370 != t360)) else (laws_FnExactTallyOf.j1 kj14 a0 a1 l2 l3 t359 t360 t369 true)))))) = some r := by rw [if_pos rfl] at H; exact H
        clear H
        have H := H1
        clear H1; replace H := bS H; obtain ⟨⟨t382, t383⟩, A41, H⟩ := H
        replace H : ((laws_markStatementS.f kj14 t366 t382).bind fun bt384 => (if bt384.1 < 0 then (laws_FnExactTallyOf.j1 kj14 a0 a1 l2 l3 t359 t360 t369 true) else ((laws_eqTallyS.f kj14 t369 t359).bind fun t386 => (if t386 = true then (laws_FnExactTallyOf.j1 kj14 a0 a1 l2 l3 t359 t360 t369 (t370 != t360)) else (laws_FnExactTallyOf.j1 kj14 a0 a1 l2 l3 t359 t360 t369 true))))) = some r := H
        replace H := bS H; obtain ⟨⟨t384, t385⟩, A42, H⟩ := H
        replace H : (if t384 < 0 then (laws_FnExactTallyOf.j1 kj14 a0 a1 l2 l3 t359 t360 t369 true) else ((laws_eqTallyS.f kj14 t369 t359).bind fun t386 => (if t386 = true then (laws_FnExactTallyOf.j1 kj14 a0 a1 l2 l3 t359 t360 t369 (t370 != t360)) else (laws_FnExactTallyOf.j1 kj14 a0 a1 l2 l3 t359 t360 t369 true)))) = some r := H
        have HC43 := Aside0.mk H; clear H
        go_upto_region 21 with (first | ((with_reducible refine gate_callee (f := 70) rfl ?_); refine goesLa (some 64) rfl Try.func70 #[.slice A2 l2.length c2] rfl ?_; (with_reducible refine (laws_toClaimS.calls kj14 _ _ l2 t374 _ ?side1 ?side2 A35.out).mono ?_); (case side1 => exact cd (Kd.C_below HR2.out HB.out)); (case side2 => exact HC2.out); rintro e w44 ⟨v375, rfl, ho0, hb⟩; refine ⟨_, rfl, ?_⟩; replace HO_10 := ak (Kd.R_below (rdl HO_10) hb); replace HO_13 := ak (Kd.R_below (rdl HO_13) hb); replace HO_14 := ak (Kd.R_below (rdl HO_14) hb); have HO376 := ak (Kd.R_lower (Kd.R_new' ho0 (Kd.R_lt (rdl HO_12))) (below_size (belowd HB))); replace HO_12 := ak (Kd.R_elder' (rdl HO_12) (Kd.R_base ho0) hb); replace HB := ak (below_step (belowd HB) hb); (try clear hb); (try clear ho0); obtain ⟨Ao45, co45, eo45⟩ := Kd.R_slice HO376.out; subst eo45) | ((with_reducible refine gate_callee (f := 51) rfl ?_); refine goesLa (some 65) rfl Try.func51 #[.slice Ao23 t363.length co23, .slice Ao45 t374.length co45] rfl ?_; (with_reducible refine (laws_eqClaimS.calls kj14 _ _ t363 _ _ t374 true _ ?side1 ?side2 ?side3 ?side4 A36.out).mono ?_); (case side1 => exact cd (Kd.R_reads' HO_12.out).2.2); (case side2 => exact (Kd.R_reads' HO_12.out).2.1); (case side3 => exact cd (Kd.R_reads' HO376.out).2.2); (case side4 => exact (Kd.R_reads' HO376.out).2.1); rintro e w46 ⟨rfl, hb⟩; refine ⟨_, rfl, ?_⟩; replace HO_10 := ak (Kd.R_below (rdl HO_10) hb); replace HO_12 := ak (Kd.R_below (rdl HO_12) hb); replace HO_13 := ak (Kd.R_below (rdl HO_13) hb); replace HO_14 := ak (Kd.R_below (rdl HO_14) hb); replace HO376 := ak (Kd.R_below (rdl HO376) hb); replace HB := ak (below_step (belowd HB) hb); (try clear hb)) | ((with_reducible refine gate_callee (f := 49) rfl ?_); refine goesLa (some 69) rfl Try.func49 #[.slice A3 l3.length c3] rfl ?_; (with_reducible refine (laws_toStatementS.calls kj14 _ _ l3 t378 _ ?side1 ?side2 A38.out).mono ?_); (case side1 => exact cd (Kd.C_below HR3.out HB.out)); (case side2 => exact HC3.out); rintro e w47 ⟨v379, rfl, ho0, hb⟩; refine ⟨_, rfl, ?_⟩; replace HO_10 := ak (Kd.R_below (rdl HO_10) hb); replace HO_12 := ak (Kd.R_below (rdl HO_12) hb); replace HO_14 := ak (Kd.R_below (rdl HO_14) hb); replace HO376 := ak (Kd.R_below (rdl HO376) hb); have HO380 := ak (Kd.R_lower (Kd.R_new' ho0 (Kd.R_lt (rdl HO_13))) (below_size (belowd HB))); replace HO_13 := ak (Kd.R_elder' (rdl HO_13) (Kd.R_base ho0) hb); replace HB := ak (below_step (belowd HB) hb); (try clear hb); (try clear ho0); obtain ⟨Ao48, co48, eo48⟩ := Kd.R_slice HO380.out; subst eo48) | ((with_reducible refine gate_callee (f := 52) rfl ?_); refine goesLa (some 70) rfl Try.func52 #[.slice Ao24 t366.length co24, .slice Ao48 t378.length co48] rfl ?_; (with_reducible refine (laws_eqStatementS.calls kj14 _ _ t366 _ _ t378 true _ ?side1 ?side2 ?side3 ?side4 A39.out).mono ?_); (case side1 => exact cd (Kd.R_reads' HO_13.out).2.2); (case side2 => exact (Kd.R_reads' HO_13.out).2.1); (case side3 => exact cd (Kd.R_reads' HO380.out).2.2); (case side4 => exact (Kd.R_reads' HO380.out).2.1); rintro e w49 ⟨rfl, hb⟩; refine ⟨_, rfl, ?_⟩; replace HO_10 := ak (Kd.R_below (rdl HO_10) hb); replace HO_12 := ak (Kd.R_below (rdl HO_12) hb); replace HO_13 := ak (Kd.R_below (rdl HO_13) hb); replace HO_14 := ak (Kd.R_below (rdl HO_14) hb); replace HO376 := ak (Kd.R_below (rdl HO376) hb); replace HO380 := ak (Kd.R_below (rdl HO380) hb); replace HB := ak (below_step (belowd HB) hb); (try clear hb)) | ((with_reducible refine gate_callee (f := 54) rfl ?_); refine goesLa (some 74) rfl Try.func54 #[.slice Ao23 t363.length co23, .int .i64 1] rfl ?_; (with_reducible refine (laws_markClaimS.calls kj14 (fun k_ => some k_ = (.slice Ao23 t363.length co23 : Value).ownBlock) (.slice Ao23 t363.length co23) t363 1 t382 t383 w _ ?side1 ?side2 A41.out).mono ?_); (case side1 => repeat (first | (with_reducible first | exact HB.out | apply below_alloc | apply pw_below_drewN | apply below_drew1) | exact HB.out)); (case side2 => exact Kd.R_tight rfl HO_12.out); rintro e w50 ⟨rfl, hy0, hb, hkp⟩; refine ⟨_, rfl, ?_⟩; replace HO_10 := ak (Kd.R_mono (ok' := fun k_ => some k_ ≠ (v371 : Value).ownBlock) (Kd.R_keptB ((Kd.R_apart' HO_10.out (Kd.R_typed HO_12.out) (by decide))) hkp (fun k_ hk_ hs_ => (hk_.2) hs_)) (fun k_ hk_ => hk_.1.1)); replace HO_13 := ak (Kd.R_mono (ok' := fun k_ => some k_ ≠ (.slice Ao48 t378.length co48 : Value).ownBlock) (Kd.R_keptB ((Kd.R_apart' HO_13.out (Kd.R_typed HO_12.out) (by decide))) hkp (fun k_ hk_ hs_ => (hk_.2) hs_)) (fun k_ hk_ => hk_.1.1.2)); replace HO_14 := ak (Kd.R_mono (ok' := fun k_ => some k_ ≠ (v361 : Value).ownBlock) (Kd.R_keptB ((Kd.R_apart' HO_14.out (Kd.R_typed HO_12.out) (by decide))) hkp (fun k_ hk_ hs_ => (hk_.2) hs_)) (fun k_ hk_ => hk_.1.1)); replace HO376 := ak (Kd.R_mono (ok' := fun k_ => some k_ ≠ (.slice Ao23 t363.length co23 : Value).ownBlock) (Kd.R_keptB (HO376.out) hkp (fun k_ hk_ hs_ => (hk_.2) hs_)) (fun k_ hk_ => hk_.1.2)); replace HO380 := ak (Kd.R_mono (ok' := fun k_ => some k_ ≠ (.slice Ao24 t366.length co24 : Value).ownBlock) (Kd.R_keptB ((Kd.R_apart' HO380.out (Kd.R_typed HO_12.out) (by decide))) hkp (fun k_ hk_ hs_ => (hk_.2) hs_)) (fun k_ hk_ => hk_.1.1.2)); replace HO_12 := ak (Kd.R_reok rfl hy0 (fun k_ e_ => HO_12.out.1 k_ e_)); replace HB := ak (hb); (try clear hb); (try clear hkp); (try clear hy0)) | ((with_reducible refine gate_callee (f := 53) rfl ?_); refine goesLa (some 77) rfl Try.func53 #[.slice Ao24 t366.length co24, .int .i64 t382] rfl ?_; (with_reducible refine (laws_markStatementS.calls kj14 (fun k_ => some k_ = (.slice Ao24 t366.length co24 : Value).ownBlock) (.slice Ao24 t366.length co24) t366 t382 t384 t385 w _ ?side1 ?side2 A42.out).mono ?_); (case side1 => repeat (first | (with_reducible first | exact HB.out | apply below_alloc | apply pw_below_drewN | apply below_drew1) | exact HB.out)); (case side2 => exact Kd.R_tight rfl HO_13.out); rintro e w51 ⟨rfl, hy0, hb, hkp⟩; refine ⟨_, rfl, ?_⟩; replace HO_10 := ak (Kd.R_mono (ok' := fun k_ => some k_ ≠ (v371 : Value).ownBlock) (Kd.R_keptB ((Kd.R_apart' HO_10.out (Kd.R_typed HO_13.out) (by decide))) hkp (fun k_ hk_ hs_ => (hk_.2) hs_)) (fun k_ hk_ => hk_.1.1)); replace HO_12 := ak (Kd.R_mono (ok' := fun k_ => some k_ ≠ (.slice Ao45 t374.length co45 : Value).ownBlock) (Kd.R_keptB ((Kd.R_apart' HO_12.out (Kd.R_typed HO_13.out) (by decide))) hkp (fun k_ hk_ hs_ => (hk_.2) hs_)) (fun k_ hk_ => hk_.1.1.2)); replace HO_14 := ak (Kd.R_mono (ok' := fun k_ => some k_ ≠ (v361 : Value).ownBlock) (Kd.R_keptB ((Kd.R_apart' HO_14.out (Kd.R_typed HO_13.out) (by decide))) hkp (fun k_ hk_ hs_ => (hk_.2) hs_)) (fun k_ hk_ => hk_.1.1)); replace HO376 := ak (Kd.R_mono (ok' := fun k_ => some k_ ≠ (.slice Ao23 t363.length co23 : Value).ownBlock) (Kd.R_keptB ((Kd.R_apart' HO376.out (Kd.R_typed HO_13.out) (by decide))) hkp (fun k_ hk_ hs_ => (hk_.2) hs_)) (fun k_ hk_ => hk_.1.1)); replace HO_13 := ak (Kd.R_reok rfl hy0 (fun k_ e_ => HO_13.out.1 k_ e_)); replace HO380 := ak (Kd.R_mono (ok' := fun k_ => some k_ ≠ (.slice Ao24 t366.length co24 : Value).ownBlock) (Kd.R_keptB (HO380.out) hkp (fun k_ hk_ hs_ => (hk_) hs_)) (fun k_ hk_ => hk_.1)); replace HB := ak (hb); (try clear hb); (try clear hkp); (try clear hy0)))
        (try simp only [Act.put, List.setIfInBounds_toArray, List.set_cons_zero, List.set_cons_succ])
        go_cut [90] (fun v90 wc => ∃ (kq : Nat) (x90_42 : Bool), v90 = .bool x90_42 ∧ Aside0 (laws_FnExactTallyOf.j1 kq a0 a1 l2 l3 t359 t360 t369 x90_42 = some r) ∧ Aside0 (kq ≤ kj14) ∧ Aside0 (Kd.R k110 110 wc w.heap.size (fun k_ => some k_ ≠ (v371 : Value).ownBlock) v361 t359) ∧ Aside0 (Kd.R k110 110 wc w.heap.size (fun k_ => some k_ ≠ (v361 : Value).ownBlock) v371 t369) ∧ Aside0 (Below w.heap.size w wc))
        case first =>
         have H := HC43.out; clear HC43
         by_cases c52 : t384 < 0
         ·rw [if_pos c52] at H
          have c52b0 : decide (t384 < 0) = true := decide_eq_true c52
          clear c52
          (first | rw [c52b0] | (simp only [i64_w, i32_w]; rw [c52b0]) | skip)
          have H' := Aside0.mk H
          clear H; go_wp2
          go_meet
          case rel => exact ⟨_, (true), er, H', ⟨by have := HJ14.out; first | omega | exact Nat.le_refl _⟩, ⟨rdl HO_10⟩, ⟨rdl HO_14⟩, ⟨belowd HB⟩⟩
         ·rw [if_neg c52] at H
          have c52b0 : decide (t384 < 0) = false := decide_eq_false c52
          clear c52
          (first | rw [c52b0] | (simp only [i64_w, i32_w]; rw [c52b0]) | skip)
          replace H := bS H; obtain ⟨t386, A53, H⟩ := H
          replace H : (if t386 = true then (laws_FnExactTallyOf.j1 kj14 a0 a1 l2 l3 t359 t360 t369 (t370 != t360)) else (laws_FnExactTallyOf.j1 kj14 a0 a1 l2 l3 t359 t360 t369 true)) = some r := H
          by_cases c54 : t386 = true
          ·subst c54
           have H1 : (laws_FnExactTallyOf.j1 kj14 a0 a1 l2 l3 t359 t360 t369 (t370 != t360)) = some r := by rw [if_pos rfl] at H; exact H
           clear H
           have H := H1
           clear H1
           have H' := Aside0.mk H
           clear H
           obtain ⟨Ao55, co55, eo55⟩ := Kd.R_slice HO_14.out
           subst eo55
           obtain ⟨Ao56, co56, eo56⟩ := Kd.R_slice HO_10.out
           subst eo56
           go_wp2_with (first | (go_at_call 72; (with_reducible refine (laws_eqTallyS.calls kj14 _ _ t369 _ _ t359 true _ ?side1 ?side2 ?side3 ?side4 A53.out).mono ?_); (case side1 => exact cd (Kd.R_reads' HO_14.out).2.2); (case side2 => exact (Kd.R_reads' HO_14.out).2.1); (case side3 => exact cd (Kd.R_reads' HO_10.out).2.2); (case side4 => exact (Kd.R_reads' HO_10.out).2.1); rintro e w57 ⟨rfl, hb⟩; replace HO_10 := ak (Kd.R_below (rdl HO_10) hb); replace HO_12 := ak (Kd.R_below (rdl HO_12) hb); replace HO_13 := ak (Kd.R_below (rdl HO_13) hb); replace HO_14 := ak (Kd.R_below (rdl HO_14) hb); replace HO376 := ak (Kd.R_below (rdl HO376) hb); replace HO380 := ak (Kd.R_below (rdl HO380) hb); replace HB := ak (below_step (belowd HB) hb); (try clear hb)))
           go_meet
           case rel => exact ⟨_, ((t370 != t360)), er, H', ⟨by have := HJ14.out; first | omega | exact Nat.le_refl _⟩, ⟨rdl HO_10⟩, ⟨rdl HO_14⟩, ⟨belowd HB⟩⟩
          ·replace c54 := Bool.eq_false_iff.mpr c54
           subst c54
           have H1 : (laws_FnExactTallyOf.j1 kj14 a0 a1 l2 l3 t359 t360 t369 true) = some r := by rw [if_neg (show ¬ (false = true) by decide)] at H; exact H
           clear H
           have H := H1
           clear H1
           have H' := Aside0.mk H
           clear H
           obtain ⟨Ao58, co58, eo58⟩ := Kd.R_slice HO_14.out
           subst eo58
           obtain ⟨Ao59, co59, eo59⟩ := Kd.R_slice HO_10.out
           subst eo59
           go_wp2_with (first | (go_at_call 72; (with_reducible refine (laws_eqTallyS.calls kj14 _ _ t369 _ _ t359 false _ ?side1 ?side2 ?side3 ?side4 A53.out).mono ?_); (case side1 => exact cd (Kd.R_reads' HO_14.out).2.2); (case side2 => exact (Kd.R_reads' HO_14.out).2.1); (case side3 => exact cd (Kd.R_reads' HO_10.out).2.2); (case side4 => exact (Kd.R_reads' HO_10.out).2.1); rintro e w60 ⟨rfl, hb⟩; replace HO_10 := ak (Kd.R_below (rdl HO_10) hb); replace HO_12 := ak (Kd.R_below (rdl HO_12) hb); replace HO_13 := ak (Kd.R_below (rdl HO_13) hb); replace HO_14 := ak (Kd.R_below (rdl HO_14) hb); replace HO376 := ak (Kd.R_below (rdl HO376) hb); replace HO380 := ak (Kd.R_below (rdl HO380) hb); replace HB := ak (below_step (belowd HB) hb); (try clear hb)))
           go_meet
           case rel => exact ⟨_, (true), er, H', ⟨by have := HJ14.out; first | omega | exact Nat.le_refl _⟩, ⟨rdl HO_10⟩, ⟨rdl HO_14⟩, ⟨belowd HB⟩⟩
        case rest =>
         clear HC43; (try clear c2); (try clear c3); (try clear c34); (try clear c37); (try clear c40)
         obtain ⟨kq, x90_42, rfl, HA, HJ42, HO_10, HO_14, HB⟩ := hcut
         cases kq with
         | zero => exact absurd HA.out (by simp [laws_FnExactTallyOf.j1])
         | succ kj42 =>
          have H := HA.out; clear HA
          simp only [laws_FnExactTallyOf.j1] at H
          by_cases c61 : x90_42 = true
          ·subst c61
           have H1 : (some false) = some r := by rw [if_pos rfl] at H; exact H
           clear H
           have H := H1
           clear H1
           exact absurd (H.trans (congrArg some hr_)) (by simp)
          ·replace c61 := Bool.eq_false_iff.mpr c61
           subst c61
           have H1 : ((laws_markTallyS.f kj42 t369 1).bind fun bt387 => ((laws_heldTallyS.f kj42 bt387.2 1).bind fun t389 => (if t389 < 0 then (some false) else (if t389 = bt387.1 then ((laws_toClaimS.f kj42 l2).bind fun t390 => ((laws_toStatementS.f kj42 l3).bind fun t393 => ((impl_TallyOf.f kj42 a0 a1 t390 t393).bind fun bt396 => ((laws_eqTallyS.f kj42 bt396.1 t359).bind fun t400 => (if t400 = true then (laws_FnExactTallyOf.j2 kj42 bt387.2 bt387.1 (bt396.2 != t360)) else (laws_FnExactTallyOf.j2 kj42 bt387.2 bt387.1 true)))))) else (some false))))) = some r := by rw [if_neg (show ¬ (false = true) by decide)] at H; exact H
           clear H
           have H := H1
           clear H1; replace H := bS H; obtain ⟨⟨t387, t388⟩, A62, H⟩ := H
           replace H : ((laws_heldTallyS.f kj42 t388 1).bind fun t389 => (if t389 < 0 then (some false) else (if t389 = t387 then ((laws_toClaimS.f kj42 l2).bind fun t390 => ((laws_toStatementS.f kj42 l3).bind fun t393 => ((impl_TallyOf.f kj42 a0 a1 t390 t393).bind fun bt396 => ((laws_eqTallyS.f kj42 bt396.1 t359).bind fun t400 => (if t400 = true then (laws_FnExactTallyOf.j2 kj42 t388 t387 (bt396.2 != t360)) else (laws_FnExactTallyOf.j2 kj42 t388 t387 true)))))) else (some false)))) = some r := H
           replace H := bS H; obtain ⟨t389, A63, H⟩ := H
           replace H : (if t389 < 0 then (some false) else (if t389 = t387 then ((laws_toClaimS.f kj42 l2).bind fun t390 => ((laws_toStatementS.f kj42 l3).bind fun t393 => ((impl_TallyOf.f kj42 a0 a1 t390 t393).bind fun bt396 => ((laws_eqTallyS.f kj42 bt396.1 t359).bind fun t400 => (if t400 = true then (laws_FnExactTallyOf.j2 kj42 t388 t387 (bt396.2 != t360)) else (laws_FnExactTallyOf.j2 kj42 t388 t387 true)))))) else (some false))) = some r := H
           by_cases c64 : t389 < 0
           ·rw [if_pos c64] at H
            have c64b0 : decide (t389 < 0) = true := decide_eq_true c64
            clear c64
            exact absurd (H.trans (congrArg some hr_)) (by simp)
           ·rw [if_neg c64] at H
            have c64b0 : decide (t389 < 0) = false := decide_eq_false c64
            clear c64
            by_cases c65 : t389 = t387
            ·rw [if_pos c65] at H
             have c65b0 : (t389 == t387) = true := beq_iff_eq.mpr c65
             have c65b1 : (t389 != t387) = false := bne_eq_false_iff_eq.mpr c65
             clear c65; replace H := bS H; obtain ⟨t390, A66, H⟩ := H
             replace H : ((laws_toStatementS.f kj42 l3).bind fun t393 => ((impl_TallyOf.f kj42 a0 a1 t390 t393).bind fun bt396 => ((laws_eqTallyS.f kj42 bt396.1 t359).bind fun t400 => (if t400 = true then (laws_FnExactTallyOf.j2 kj42 t388 t387 (bt396.2 != t360)) else (laws_FnExactTallyOf.j2 kj42 t388 t387 true))))) = some r := H
             replace H := bS H; obtain ⟨t393, A67, H⟩ := H
             replace H : ((impl_TallyOf.f kj42 a0 a1 t390 t393).bind fun bt396 => ((laws_eqTallyS.f kj42 bt396.1 t359).bind fun t400 => (if t400 = true then (laws_FnExactTallyOf.j2 kj42 t388 t387 (bt396.2 != t360)) else (laws_FnExactTallyOf.j2 kj42 t388 t387 true)))) = some r := H
             replace H := bS H; obtain ⟨⟨t396, t397⟩, A68, H⟩ := H
             replace H : ((laws_eqTallyS.f kj42 t396 t359).bind fun t400 => (if t400 = true then (laws_FnExactTallyOf.j2 kj42 t388 t387 (t397 != t360)) else (laws_FnExactTallyOf.j2 kj42 t388 t387 true))) = some r := H
             have HC69 := Aside0.mk H; clear H
             obtain ⟨Ao70, co70, eo70⟩ := Kd.R_slice HO_14.out
             subst eo70
             go_upto_region 32 with (first | ((with_reducible refine gate_callee (f := 73) rfl ?_); refine goesLa (some 93) rfl Try.func73 #[.slice Ao70 t369.length co70, .int .i64 1] rfl ?_; (with_reducible refine (laws_markTallyS.calls kj42 (fun k_ => some k_ = (.slice Ao70 t369.length co70 : Value).ownBlock) (.slice Ao70 t369.length co70) t369 1 t387 t388 w _ ?side1 ?side2 A62.out).mono ?_); (case side1 => repeat (first | (with_reducible first | exact HB.out | apply below_alloc | apply pw_below_drewN | apply below_drew1) | exact HB.out)); (case side2 => exact Kd.R_tight rfl HO_14.out); rintro e w71 ⟨rfl, hy0, hb, hkp⟩; refine ⟨_, rfl, ?_⟩; replace HO_10 := ak (Kd.R_mono (ok' := fun k_ => some k_ ≠ (.slice Ao70 t369.length co70 : Value).ownBlock) (Kd.R_keptB (HO_10.out) hkp (fun k_ hk_ hs_ => (hk_) hs_)) (fun k_ hk_ => hk_.1)); replace HO_14 := ak (Kd.R_reok rfl hy0 (fun k_ e_ => HO_14.out.1 k_ e_)); replace HB := ak (hb); (try clear hb); (try clear hkp); (try clear hy0)) | ((with_reducible refine gate_callee (f := 74) rfl ?_); refine goesL_ (some 96) rfl rfl Try.func74 (by kernel_rfl) rfl #[.slice Ao70 t388.length co70, .int .i64 1] rfl (by (try simp only [List.map_toArray, List.map_cons, List.map_nil]); first | done | (rw [show t388.length = t369.length from (Kd.R_reads' HO_14.out).1.symm] <;> rfl) | rfl | (simp only [List.length_drop, List.length_take]; rfl)) ?_; (with_reducible refine (laws_heldTallyS.calls kj42 _ _ t388 1 t389 _ ?side1 ?side2 A63.out).mono ?_); (case side1 => exact cd (Kd.R_reads' HO_14.out).2.2); (case side2 => rw [show t388.length = t369.length from (Kd.R_reads' HO_14.out).1.symm]; exact (Kd.R_reads' HO_14.out).2.1); rintro e w' ⟨rfl, ⟨nd, rfl⟩⟩; refine ⟨_, rfl, ?_⟩) | ((with_reducible refine gate_callee (f := 70) rfl ?_); refine goesLa (some 106) rfl Try.func70 #[.slice A2 l2.length c2] rfl ?_; (with_reducible refine (laws_toClaimS.calls kj42 _ _ l2 t390 _ ?side1 ?side2 A66.out).mono ?_); (case side1 => exact cd (Kd.C_below HR2.out (belowd HB))); (case side2 => exact HC2.out); rintro e w72 ⟨v391, rfl, ho0, hb⟩; refine ⟨_, rfl, ?_⟩; replace HO_10 := ak (Kd.R_below (rdl HO_10) hb); replace HO_14 := ak (Kd.R_below (rdl HO_14) hb); have HO392 := ak (Kd.R_lower ho0 (below_size (belowd HB))); replace HB := ak (below_step (belowd HB) hb); (try clear hb); (try clear ho0)) | ((with_reducible refine gate_callee (f := 49) rfl ?_); refine goesLa (some 108) rfl Try.func49 #[.slice A3 l3.length c3] rfl ?_; (with_reducible refine (laws_toStatementS.calls kj42 _ _ l3 t393 _ ?side1 ?side2 A67.out).mono ?_); (case side1 => exact cd (Kd.C_below HR3.out HB.out)); (case side2 => exact HC3.out); rintro e w73 ⟨v394, rfl, ho0, hb⟩; refine ⟨_, rfl, ?_⟩; replace HO_10 := ak (Kd.R_below (rdl HO_10) hb); replace HO_14 := ak (Kd.R_below (rdl HO_14) hb); replace HO392 := ak (Kd.R_below (rdl HO392) hb); have HO395 := ak (Kd.R_lower ho0 (below_size (belowd HB))); replace HB := ak (below_step (belowd HB) hb); (try clear hb); (try clear ho0); obtain ⟨Ao74, co74, eo74⟩ := Kd.R_slice HO392.out; subst eo74; obtain ⟨Ao75, co75, eo75⟩ := Kd.R_slice HO395.out; subst eo75) | ((with_reducible refine gate_callee (f := 71) rfl ?_); refine goesLa (some 109) rfl Try.func71 #[.int .i64 a0, .int .i64 a1, .slice Ao74 t390.length co74, .slice Ao75 t393.length co75] rfl ?_; (with_reducible refine (impl_TallyOf.calls kj42 a0 a1 _ _ t390 _ _ t393 t396 t397 _ ?side1 ?side2 ?side3 ?side4 A68.out).mono ?_); (case side1 => exact cd (Kd.R_reads' HO392.out).2.2); (case side2 => exact (Kd.R_reads' HO392.out).2.1); (case side3 => exact cd (Kd.R_reads' HO395.out).2.2); (case side4 => exact (Kd.R_reads' HO395.out).2.1); rintro e w76 ⟨v398, rfl, ho0, hb⟩; refine ⟨_, rfl, ?_⟩; replace HO392 := ak (Kd.R_below (rdl HO392) hb); replace HO395 := ak (Kd.R_below (rdl HO395) hb); have HO399 := ak (Kd.R_lower (Kd.R_new' (Kd.R_new' ho0 (Kd.R_lt (rdl HO_10))) (Kd.R_lt (rdl HO_14))) (below_size (belowd HB))); replace HO_10 := ak (Kd.R_elder' (rdl HO_10) (Kd.R_base ho0) hb); replace HO_14 := ak (Kd.R_elder' (rdl HO_14) (Kd.R_base ho0) hb); replace HB := ak (below_step (belowd HB) hb); (try clear hb); (try clear ho0)))
             (try simp only [Act.put, List.setIfInBounds_toArray, List.set_cons_zero, List.set_cons_succ])
             go_cut [120] (fun v120 wc => ∃ (kq : Nat) (x120_68 : Bool), v120 = .bool x120_68 ∧ Aside0 (laws_FnExactTallyOf.j2 kq t388 t387 x120_68 = some r) ∧ Aside0 (kq ≤ kj42) ∧ Aside0 (Kd.R k110 110 wc w.heap.size (fun _ => True) (.slice Ao70 t369.length co70) t388) ∧ Aside0 (Below w.heap.size w wc))
             case first =>
              have H := HC69.out; clear HC69; replace H := bS H; obtain ⟨t400, A77, H⟩ := H
              replace H : (if t400 = true then (laws_FnExactTallyOf.j2 kj42 t388 t387 (t397 != t360)) else (laws_FnExactTallyOf.j2 kj42 t388 t387 true)) = some r := H
              by_cases c78 : t400 = true
              ·subst c78
               have H1 : (laws_FnExactTallyOf.j2 kj42 t388 t387 (t397 != t360)) = some r := by rw [if_pos rfl] at H; exact H
               clear H
               have H := H1
               clear H1
               have H' := Aside0.mk H
               clear H
               obtain ⟨Ao79, co79, eo79⟩ := Kd.R_slice HO399.out
               subst eo79
               obtain ⟨Ao80, co80, eo80⟩ := Kd.R_slice HO_10.out
               subst eo80
               go_wp2_with (first | ((with_reducible refine gate_callee (f := 72) rfl ?_); refine goesLa (some 114) rfl Try.func72 #[.slice Ao79 t396.length co79, .slice Ao80 t359.length co80] rfl ?_; (with_reducible refine (laws_eqTallyS.calls kj42 _ _ t396 _ _ t359 true _ ?side1 ?side2 ?side3 ?side4 A77.out).mono ?_); (case side1 => exact cd (Kd.R_reads' HO399.out).2.2); (case side2 => exact (Kd.R_reads' HO399.out).2.1); (case side3 => exact cd (Kd.R_reads' HO_10.out).2.2); (case side4 => exact (Kd.R_reads' HO_10.out).2.1); rintro e w81 ⟨rfl, hb⟩; refine ⟨_, rfl, ?_⟩; replace HO_10 := ak (Kd.R_below (rdl HO_10) hb); replace HO_14 := ak (Kd.R_below (rdl HO_14) hb); replace HO392 := ak (Kd.R_below (rdl HO392) hb); replace HO395 := ak (Kd.R_below (rdl HO395) hb); replace HO399 := ak (Kd.R_below (rdl HO399) hb); replace HB := ak (below_step (belowd HB) hb); (try clear hb)))
               go_meet
               case rel => exact ⟨_, ((t397 != t360)), er, H', ⟨by have := HJ14.out; have := HJ42.out; first | omega | exact Nat.le_refl _⟩, ⟨by (with_reducible repeat (first | apply Kd.R_alloc | apply Kd.R_drewN | apply Kd.R_drew)); exact Kd.R_mono HO_14.out (fun _ hk => trivial)⟩, ⟨belowd HB⟩⟩
              ·replace c78 := Bool.eq_false_iff.mpr c78
               subst c78
               have H1 : (laws_FnExactTallyOf.j2 kj42 t388 t387 true) = some r := by rw [if_neg (show ¬ (false = true) by decide)] at H; exact H
               clear H
               have H := H1
               clear H1
               have H' := Aside0.mk H
               clear H
               obtain ⟨Ao82, co82, eo82⟩ := Kd.R_slice HO399.out
               subst eo82
               obtain ⟨Ao83, co83, eo83⟩ := Kd.R_slice HO_10.out
               subst eo83
               go_wp2_with (first | ((with_reducible refine gate_callee (f := 72) rfl ?_); refine goesLa (some 114) rfl Try.func72 #[.slice Ao82 t396.length co82, .slice Ao83 t359.length co83] rfl ?_; (with_reducible refine (laws_eqTallyS.calls kj42 _ _ t396 _ _ t359 false _ ?side1 ?side2 ?side3 ?side4 A77.out).mono ?_); (case side1 => exact cd (Kd.R_reads' HO399.out).2.2); (case side2 => exact (Kd.R_reads' HO399.out).2.1); (case side3 => exact cd (Kd.R_reads' HO_10.out).2.2); (case side4 => exact (Kd.R_reads' HO_10.out).2.1); rintro e w84 ⟨rfl, hb⟩; refine ⟨_, rfl, ?_⟩; replace HO_10 := ak (Kd.R_below (rdl HO_10) hb); replace HO_14 := ak (Kd.R_below (rdl HO_14) hb); replace HO392 := ak (Kd.R_below (rdl HO392) hb); replace HO395 := ak (Kd.R_below (rdl HO395) hb); replace HO399 := ak (Kd.R_below (rdl HO399) hb); replace HB := ak (below_step (belowd HB) hb); (try clear hb)))
               go_meet
               case rel => exact ⟨_, (true), er, H', ⟨by have := HJ14.out; have := HJ42.out; first | omega | exact Nat.le_refl _⟩, ⟨by (with_reducible repeat (first | apply Kd.R_alloc | apply Kd.R_drewN | apply Kd.R_drew)); exact Kd.R_mono HO_14.out (fun _ hk => trivial)⟩, ⟨belowd HB⟩⟩
             case rest =>
              clear HC69; (try clear c2); (try clear c3); (try clear c61); (try clear c64b0); (try clear c65b0); (try clear c65b1)
              obtain ⟨kq, x120_68, rfl, HA, HJ68, HO_14, HB⟩ := hcut
              have hl14_68 := (Kd.R_reads' HO_14.out).1
              rw [hl14_68] at HO_14
              (try simp only [hl14_68])
              cases kq with
              | zero => exact absurd HA.out (by simp [laws_FnExactTallyOf.j2])
              | succ kj68 =>
               have H := HA.out; clear HA
               simp only [laws_FnExactTallyOf.j2] at H
               by_cases c85 : x120_68 = true
               ·subst c85
                have H1 : (some false) = some r := by rw [if_pos rfl] at H; exact H
                clear H
                have H := H1
                clear H1
                exact absurd (H.trans (congrArg some hr_)) (by simp)
               ·replace c85 := Bool.eq_false_iff.mpr c85
                subst c85
                have H1 : ((laws_heldTallyS.f kj68 t388 1).bind fun t401 => (if t401 < 0 then (some false) else (if t401 = t387 then (some true) else (some false)))) = some r := by rw [if_neg (show ¬ (false = true) by decide)] at H; exact H
                clear H
                have H := H1
                clear H1; replace H := bS H; obtain ⟨t401, A86, H⟩ := H
                replace H : (if t401 < 0 then (some false) else (if t401 = t387 then (some true) else (some false))) = some r := H
                by_cases c87 : t401 < 0
                ·rw [if_pos c87] at H
                 have c87b0 : decide (t401 < 0) = true := decide_eq_true c87
                 clear c87
                 exact absurd (H.trans (congrArg some hr_)) (by simp)
                ·rw [if_neg c87] at H
                 have c87b0 : decide (t401 < 0) = false := decide_eq_false c87
                 clear c87
                 by_cases c88 : t401 = t387
                 ·rw [if_pos c88] at H
                  have c88b0 : (t401 == t387) = true := beq_iff_eq.mpr c88
                  have c88b1 : (t401 != t387) = false := bne_eq_false_iff_eq.mpr c88
                  clear c88
                  obtain rfl := Option.some.inj H
                  go_wp2_with (first | ((with_reducible refine gate_callee (f := 74) rfl ?_); refine goesLa (some 123) rfl Try.func74 #[.slice Ao70 t388.length co70, .int .i64 1] rfl ?_; (with_reducible refine (laws_heldTallyS.calls kj68 _ _ t388 1 t401 _ ?side1 ?side2 A86.out).mono ?_); (case side1 => exact cd (Kd.R_reads' HO_14.out).2.2); (case side2 => exact (Kd.R_reads' HO_14.out).2.1); rintro e w' ⟨rfl, ⟨nd, rfl⟩⟩; refine ⟨_, rfl, ?_⟩))
                  go_ret
                  exact ⟨er2, belowd HB⟩
                 ·rw [if_neg c88] at H
                  have c88b0 : (t401 == t387) = false := beq_eq_false_iff_ne.mpr c88
                  have c88b1 : (t401 != t387) = true := bne_iff_ne.mpr c88
                  exact absurd (H.trans (congrArg some hr_)) (by simp)
            ·rw [if_neg c65] at H
             have c65b0 : (t389 == t387) = false := beq_eq_false_iff_ne.mpr c65
             have c65b1 : (t389 != t387) = true := bne_iff_ne.mpr c65
             exact absurd (H.trans (congrArg some hr_)) (by simp)
       ·replace c40 := Bool.eq_false_iff.mpr c40
        subst c40
        have H1 : (some false) = some r := by rw [if_neg (show ¬ (false = true) by decide)] at H; exact H
        clear H
        have H := H1
        clear H1
        exact absurd (H.trans (congrArg some hr_)) (by simp)
      ·replace c37 := Bool.eq_false_iff.mpr c37
       subst c37
       have H1 : (some false) = some r := by rw [if_neg (show ¬ (false = true) by decide)] at H; exact H
       clear H
       have H := H1
       clear H1
       exact absurd (H.trans (congrArg some hr_)) (by simp)

/-- THE ONE PURE STATEMENT of laws_FnExactTallyOf. -/
def laws_FnExactTallyOf.Pure : Prop := ∀ (a0 : Int) (a1 : Int) (l2 : List (S174)) (l3 : List (S176)), (Lit.int .i64 a0).wf = true → (Lit.int .i64 a1).wf = true → (l2.length ≤ maxLen ∧ ∀ y ∈ l2, W174 y) → (l3.length ≤ maxLen ∧ ∀ y ∈ l3, W176 y) → ∃ k, laws_FnExactTallyOf.f k a0 a1 l2 l3 = some true
theorem laws_FnExactTallyOf.walk (P : laws_FnExactTallyOf.Pure) (a0 : Int) (a1 : Int) (A2 : Option Addr) (c2 : Nat) (l2 : List (S174)) (A3 : Option Addr) (c3 : Nat) (l3 : List (S176)) (w : World) (hr2 : Kd.C k174 w A2 l2.length l2) (hc2 : l2.length ≤ c2) (hr3 : Kd.C k176 w A3 l3.length l3) (hc3 : l3.length ≤ c3) (g0 : (Lit.int .i64 a0).wf = true) (g1 : (Lit.int .i64 a1).wf = true) (g2 : (l2.length ≤ maxLen ∧ ∀ y ∈ l2, W174 y)) (g3 : (l3.length ≤ maxLen ∧ ∀ y ∈ l3, W176 y)) :
  Calls Try.prog 10 #[.int .i64 a0, .int .i64 a1, .slice A2 l2.length c2, .slice A3 l3.length c3] w fun e w' => e = .returned (.bool true) ∧ Below w.heap.size w w' := by
 obtain ⟨k, h⟩ := P a0 a1 l2 l3 g0 g1 g2 g3
 refine (laws_FnExactTallyOf.calls k a0 a1 _ _ l2 _ _ l3 true w hr2 hc2 hr3 hc3 h rfl).mono ?_
 rintro e w' ⟨rfl, hd⟩
 exact ⟨rfl, hd⟩

end Go.Proofs.Ytkgogglnipdcfaa.QFnExactTallyOf
