-- printed by this session's own program (wip/tools/pp.py: the kit's print.py with changes); Lean checks it
import Derived.Test.YtkgogglnipdcfaaQFnStatedx0
import Derived.Test.YtkgogglnipdcfaaQFnStatedx2
import Derived.Test.YtkgogglnipdcfaaQFnStatedx3
import Derived.Test.YtkgogglnipdcfaaQFnStatedx4
import Derived.Test.YtkgogglnipdcfaaQFnStatedx5
namespace Go.Proofs.Ytkgogglnipdcfaa.QFnStated
open Go.RowKit Go.Proofs.YtkgogglnipdcfaaW.PrintWords Go.Proofs.YtkgogglnipdcfaaW.PrintLast Go.Proofs.YtkgogglnipdcfaaW.PrintMore
attribute [local go_sem] max2_int min2_int max_two min_two max_three min_three max_four min_four strLss strGtr strLeq strGeq   -- for this text's walks alone
set_option linter.unusedVariables false
set_option linter.unusedSimpArgs false

attribute [local go_sem high] eqA91
/-! ### spec_MergeStatements: function 58 -/
mutual
def spec_MergeStatements.j0 : Nat → List (S91) → List (S91) → Bool → Option ((List (S91)) × Bool)
  | 0, _, _, _ => none
  | k + 1, x0, x1, x19 => if x19 = true then (some (([] : List (S91)), false)) else ((some (([] : List (S91)) : List (S91))).bind fun y321 => (if y321.length + x0.length < 3518437208883 then (spec_MergeStatements.l0 k (y321 ++ x0) x1 (x1.length : Int) 0) else (none)))
def spec_MergeStatements.l0 : Nat → List (S91) → List (S91) → Int → Int → Option ((List (S91)) × Bool)
  | 0, _, _, _, _ => none
  | k + 1, x6, x23, x24, x25 => if x25 < x24 then (if 0 ≤ x25 then (if x25 < (x23.length : Int) then (spec_MergeStatements.l1 k x6 false x23 x24 x25 (x6.length : Int) 0 ((rd_T91 x23 x25).f0) ((rd_T91 x23 x25).f1.f0) ((rd_T91 x23 x25).f1.f1) ((rd_T91 x23 x25).f1.f2) ((rd_T91 x23 x25).f2)) else (none)) else (none)) else (if (x6.length : Int) > 60 then (some (([] : List (S91)), false)) else (some (x6, true)))
def spec_MergeStatements.l1 : Nat → List (S91) → Bool → List (S91) → Int → Int → Int → Int → Int → Int → Int → Int → Bool → Option ((List (S91)) × Bool)
  | 0, _, _, _, _, _, _, _, _, _, _, _, _ => none
  | k + 1, x6, x9, x23, x24, x25, x30, x31, x329000, x329001, x329002, x329003, x329004 => if x31 < x30 then (if 0 ≤ x31 then (if x31 < (x6.length : Int) then (if x9 = true then (spec_MergeStatements.l1 k x6 true x23 x24 x25 x30 (wrap64 (x31 + 1)) x329000 x329001 x329002 x329003 x329004) else (spec_MergeStatements.l1 k x6 (((rd_T91 x6 x31).f0) == x329000 && ((((rd_T91 x6 x31).f1.f0) == x329001 && (((rd_T91 x6 x31).f1.f1) == x329002 && (((rd_T91 x6 x31).f1.f2) == x329003))) && (((rd_T91 x6 x31).f2) == x329004))) x23 x24 x25 x30 (wrap64 (x31 + 1)) x329000 x329001 x329002 x329003 x329004)) else (none)) else (none)) else (if x9 = true then (spec_MergeStatements.l0 k x6 x23 x24 (wrap64 (x25 + 1))) else (if x6.length < 3518437208883 then (spec_MergeStatements.l0 k (x6 ++ [(⟨x329000, (⟨x329001, x329002, x329003⟩ : S85), x329004⟩ : S91)]) x23 x24 (wrap64 (x25 + 1))) else (none)))
end
def spec_MergeStatements.f (k : Nat) (l0 : List (S91)) (l1 : List (S91)) : Option ((List (S91)) × Bool) := (spec_l12Good.f k l0).bind fun t319 => (if t319 = true then ((spec_l12Good.f k l1).bind fun t320 => (spec_MergeStatements.j0 k l0 l1 (!t320))) else (spec_MergeStatements.j0 k l0 l1 true))
theorem spec_MergeStatements.mono_l : ∀ k, (∀ y0 y1 y2, LeO (spec_MergeStatements.j0 k y0 y1 y2) (spec_MergeStatements.j0 (k + 1) y0 y1 y2)) ∧ (∀ y0 y1 y2 y3, LeO (spec_MergeStatements.l0 k y0 y1 y2 y3) (spec_MergeStatements.l0 (k + 1) y0 y1 y2 y3)) ∧ (∀ y0 y1 y2 y3 y4 y5 y6 y7 y8 y9 y10 y11, LeO (spec_MergeStatements.l1 k y0 y1 y2 y3 y4 y5 y6 y7 y8 y9 y10 y11) (spec_MergeStatements.l1 (k + 1) y0 y1 y2 y3 y4 y5 y6 y7 y8 y9 y10 y11))
 | 0 => ⟨fun _ _ _ r h => by simp [spec_MergeStatements.j0] at h, fun _ _ _ _ r h => by simp [spec_MergeStatements.l0] at h, fun _ _ _ _ _ _ _ _ _ _ _ _ r h => by simp [spec_MergeStatements.l1] at h⟩
 | k + 1 => by
  obtain ⟨ih0, ih1, ih2⟩ := spec_MergeStatements.mono_l k
  refine ⟨?_, ?_, ?_⟩
  ·intro y0 y1 y2
   unfold spec_MergeStatements.j0
   repeat' (first | (with_reducible first | exact ih0 _ _ _ | exact ih1 _ _ _ _ | exact ih2 _ _ _ _ _ _ _ _ _ _ _ _ | exact spec_l12Good.mono _ _ | exact LeO.refl _ | exact LeO.none _ | refine LeO.ite ?_ ?_ | refine LeO.bind ?_ (fun _ => ?_)) | exact ih0 _ _ _ | exact ih1 _ _ _ _ | exact ih2 _ _ _ _ _ _ _ _ _ _ _ _ | exact spec_l12Good.mono _ _ | exact LeO.none _ | refine LeO.ite ?_ ?_ | refine LeO.bind ?_ (fun _ => ?_))
  ·intro y0 y1 y2 y3
   unfold spec_MergeStatements.l0
   repeat' (first | (with_reducible first | exact ih0 _ _ _ | exact ih1 _ _ _ _ | exact ih2 _ _ _ _ _ _ _ _ _ _ _ _ | exact spec_l12Good.mono _ _ | exact LeO.refl _ | exact LeO.none _ | refine LeO.ite ?_ ?_ | refine LeO.bind ?_ (fun _ => ?_)) | exact ih0 _ _ _ | exact ih1 _ _ _ _ | exact ih2 _ _ _ _ _ _ _ _ _ _ _ _ | exact spec_l12Good.mono _ _ | exact LeO.none _ | refine LeO.ite ?_ ?_ | refine LeO.bind ?_ (fun _ => ?_))
  ·intro y0 y1 y2 y3 y4 y5 y6 y7 y8 y9 y10 y11
   unfold spec_MergeStatements.l1
   repeat' (first | (with_reducible first | exact ih0 _ _ _ | exact ih1 _ _ _ _ | exact ih2 _ _ _ _ _ _ _ _ _ _ _ _ | exact spec_l12Good.mono _ _ | exact LeO.refl _ | exact LeO.none _ | refine LeO.ite ?_ ?_ | refine LeO.bind ?_ (fun _ => ?_)) | exact ih0 _ _ _ | exact ih1 _ _ _ _ | exact ih2 _ _ _ _ _ _ _ _ _ _ _ _ | exact spec_l12Good.mono _ _ | exact LeO.none _ | refine LeO.ite ?_ ?_ | refine LeO.bind ?_ (fun _ => ?_))
theorem spec_MergeStatements.mono : ∀ a0 a1 k, LeO (spec_MergeStatements.f k a0 a1) (spec_MergeStatements.f (k + 1) a0 a1) := by
 intro a0 a1 k
 obtain ⟨ih0, ih1, ih2⟩ := spec_MergeStatements.mono_l k
 unfold spec_MergeStatements.f
 repeat' (first | (with_reducible first | exact ih0 _ _ _ | exact ih1 _ _ _ _ | exact ih2 _ _ _ _ _ _ _ _ _ _ _ _ | exact spec_l12Good.mono _ _ | exact LeO.refl _ | exact LeO.none _ | refine LeO.ite ?_ ?_ | refine LeO.bind ?_ (fun _ => ?_)) | exact ih0 _ _ _ | exact ih1 _ _ _ _ | exact ih2 _ _ _ _ _ _ _ _ _ _ _ _ | exact spec_l12Good.mono _ _ | exact LeO.none _ | refine LeO.ite ?_ ?_ | refine LeO.bind ?_ (fun _ => ?_))
set_option maxHeartbeats 8000000 in
set_option maxRecDepth 100000 in
theorem spec_MergeStatements.calls (k : Nat) (A0 : Option Addr) (c0 : Nat) (l0 : List (S91)) (A1 : Option Addr) (c1 : Nat) (l1 : List (S91)) (r1 : List (S91)) (r2 : Bool) (w : World) (hr0 : Kd.C k91 w A0 l0.length l0) (hc0 : l0.length ≤ c0) (hr1 : Kd.C k91 w A1 l1.length l1) (hc1 : l1.length ≤ c1) (h : spec_MergeStatements.f k l0 l1 = some (r1, r2)) :
  Calls Try.prog 58 #[.slice A0 l0.length c0, .slice A1 l1.length c1] w fun e w' => ∃ v0_ : Value, e = .returned (.tuple #[v0_, .bool r2]) ∧ Kd.R k91 91 w' w.heap.size (fun _ => True) v0_ r1 ∧ Below w.heap.size w w' := by
 have hu91 := Try.underlying91
 have HR0 := Aside0.mk hr0; have HC0 := Aside0.mk hc0; clear hr0 hc0; have HR1 := Aside0.mk hr1; have HC1 := Aside0.mk hc1; clear hr1 hc1
 have HB := Aside0.mk (Below.refl w.heap.size w)
 have H : ((spec_l12Good.f k l0).bind fun t319 => (if t319 = true then ((spec_l12Good.f k l1).bind fun t320 => (spec_MergeStatements.j0 k l0 l1 (!t320))) else (spec_MergeStatements.j0 k l0 l1 true))) = some (r1, r2) := h
 clear h; have HC3 := Aside0.mk H; clear H
 go_enter Try.func58, Try.ntmps58
 go_upto_region 1 with (fail)
 go_cut [19] (fun v19 wc => ∃ (kq : Nat) (x19_2 : Bool), v19 = .bool x19_2 ∧ Aside0 (spec_MergeStatements.j0 kq l0 l1 x19_2 = some (r1, r2)) ∧ Aside0 (kq ≤ k) ∧ Aside0 (Below w.heap.size w wc))
 case first =>
  have H := HC3.out; clear HC3; replace H := bS H; obtain ⟨t319, A4, H⟩ := H
  replace H : (if t319 = true then ((spec_l12Good.f k l1).bind fun t320 => (spec_MergeStatements.j0 k l0 l1 (!t320))) else (spec_MergeStatements.j0 k l0 l1 true)) = some (r1, r2) := H
  by_cases c5 : t319 = true
  ·subst c5
   have H1 : ((spec_l12Good.f k l1).bind fun t320 => (spec_MergeStatements.j0 k l0 l1 (!t320))) = some (r1, r2) := by rw [if_pos rfl] at H; exact H
   clear H
   have H := H1
   clear H1; replace H := bS H; obtain ⟨t320, A6, H⟩ := H
   replace H : (spec_MergeStatements.j0 k l0 l1 (!t320)) = some (r1, r2) := H
   have H' := Aside0.mk H
   clear H
   go_wp2_with (first | ((with_reducible refine gate_callee (f := 135) rfl ?_); refine goesLa (some 13) rfl Try.func135 #[.slice A0 l0.length c0] rfl ?_; (with_reducible refine (spec_l12Good.calls k _ _ l0 true _ ?side1 ?side2 A4.out).mono ?_); (case side1 => exact cd (Kd.C_below HR0.out HB.out)); (case side2 => exact HC0.out); rintro e w7 ⟨rfl, hb⟩; refine ⟨_, rfl, ?_⟩; replace HB := ak (below_step (belowd HB) hb); (try clear hb)) | (go_at_call 135; (with_reducible refine (spec_l12Good.calls k _ _ l1 t320 _ ?side1 ?side2 A6.out).mono ?_); (case side1 => exact cd (Kd.C_below HR1.out HB.out)); (case side2 => exact HC1.out); rintro e w8 ⟨rfl, hb⟩; replace HB := ak (below_step (belowd HB) hb); (try clear hb)))
   go_meet
   case rel => exact ⟨_, (!t320), er, H', ⟨by first | omega | exact Nat.le_refl _⟩, ⟨belowd HB⟩⟩
  ·replace c5 := Bool.eq_false_iff.mpr c5
   subst c5
   have H1 : (spec_MergeStatements.j0 k l0 l1 true) = some (r1, r2) := by rw [if_neg (show ¬ (false = true) by decide)] at H; exact H
   clear H
   have H := H1
   clear H1
   have H' := Aside0.mk H
   clear H
   go_wp2_with (first | ((with_reducible refine gate_callee (f := 135) rfl ?_); refine goesLa (some 13) rfl Try.func135 #[.slice A0 l0.length c0] rfl ?_; (with_reducible refine (spec_l12Good.calls k _ _ l0 false _ ?side1 ?side2 A4.out).mono ?_); (case side1 => exact cd (Kd.C_below HR0.out HB.out)); (case side2 => exact HC0.out); rintro e w9 ⟨rfl, hb⟩; refine ⟨_, rfl, ?_⟩; replace HB := ak (below_step (belowd HB) hb); (try clear hb)))
   go_meet
   case rel => exact ⟨_, (true), er, H', ⟨by first | omega | exact Nat.le_refl _⟩, ⟨belowd HB⟩⟩
 case rest =>
  clear HC3; (try clear c1)
  obtain ⟨kq, x19_2, rfl, HA, HJ2, HB⟩ := hcut
  cases kq with
  | zero => exact absurd HA.out (by simp [spec_MergeStatements.j0])
  | succ kj2 =>
   have H := HA.out; clear HA
   simp only [spec_MergeStatements.j0] at H
   by_cases c10 : x19_2 = true
   ·subst c10
    have H1 : (some (([] : List (S91)), false)) = some (r1, r2) := by rw [if_pos rfl] at H; exact H
    clear H
    have H := H1
    clear H1
    simp only [Option.some.injEq, Prod.mk.injEq] at H
    obtain ⟨rfl, rfl⟩ := H; go_wp2
    go_ret2
    exact ⟨_, er2, by first | exact Kd.R_nil _ _ _ _ _ | exact Kd.N_nil _ _ _ _ _ | exact Kd.V_nil _ _ _ _ _ | exact Kd.Q_nil _ _ _ _ _ | exact Kd.S_nil _ _ _ _ _, belowd HB⟩
   ·replace c10 := Bool.eq_false_iff.mpr c10
    subst c10
    have H1 : ((some (([] : List (S91)) : List (S91))).bind fun y321 => (if y321.length + l0.length < 3518437208883 then (spec_MergeStatements.l0 kj2 (y321 ++ l0) l1 (l1.length : Int) 0) else (none))) = some (r1, r2) := by rw [if_neg (show ¬ (false = true) by decide)] at H; exact H
    clear H
    have H := H1
    clear H1
    obtain ⟨y321, hy_⟩ : ∃ y_ : List (S91), y_ = (([] : List (S91))) := ⟨_, rfl⟩
    replace H : (if y321.length + l0.length < 3518437208883 then (spec_MergeStatements.l0 kj2 (y321 ++ l0) l1 (l1.length : Int) 0) else (none)) = some (r1, r2) := yH
    have Ny321 := ak hy_; clear hy_; replace H := ifS H; obtain ⟨c11, H⟩ := H; have LMc11 := Aside0.mk c11; clear c11
    obtain ⟨y324, hy_⟩ : ∃ y_ : List (S91), y_ = (y321 ++ l0) := ⟨_, rfl⟩
    replace H : (spec_MergeStatements.l0 kj2 y324 l1 (l1.length : Int) 0) = some (r1, r2) := yH
    have Ny324 := ak hy_; clear hy_
    have H' := Aside0.mk H
    clear H
    go_wp2_with (first | ((with_reducible refine gate_dst (N := 20) rfl ?_); refine Kd.R_lit k91 _ 91 ?hg (N := 20) ?hd (xs := ([] : List (S91))) (inner := []) (ok := fun _ => True) (okp := fun _ => True) ?hr ?hp (fun _ hk => hk) trivial (Below.refl _ _) (Nat.le_refl _) (by simp) ?_; (case hd => rfl); (case hg => rfl); (case hr => first | (go_simp; done) | (go_simp; rfl)); (case hp => exact (Reps.none _ _)); intro v322 w12 ho13 hb hg_ hnew_; clear hg_ hnew_; (first | rw [← Ny321.out] at ho13 | (simp only [Int.reduceToNat] at ho13; rw [← Ny321.out] at ho13)); have HO323 := ak (Kd.R_lower ho13 (below_size (belowd HB))); replace HB := ak (below_step (belowd HB) hb); clear hb ho13) | ((with_reducible refine gate_builtin (b := .append) (xs := #[.tmp 20, .tmp 21]) rfl ?_); at_builtin; refine Kd.R_append_rows k91 (w0 := w) w.heap.size rfl (.tmp 20) (.tmp 21) 73 91 (.agg #[(.int .i64 0), (.int .i64 0), (.int .i64 0), (.int .i64 0), (.bool false)]) 40 rfl Try.underlying73 info91 rfl (by decide) (by omega) v322 y321 l0 _ _ _ (fun _ => True) (fun _ => False) rfl rfl ?aO ?aR (fun _ _ h => h) (fun _ h => h.elim) ?aF ?aB ?aS ?aL ?_; (case aR => exact cd (Kd.C_below HR0.out HB.out)); (case aB => exact (belowd HB)); (case aF => exact (fun _ _ => trivial)); (case aO => exact (rdl HO323)); (case aS => exact (below_size (belowd HB))); (case aL => have := LMc11.out; omega); intro v325 w14 ho hb hg hat; rw [← Ny324.out] at ho; replace HB := ak (hb); have HO326 := ak (ho); clear HO323; clear ho hb hg hat))
    go_loopg [6, 25] kj2 (fun kq v6 v25 w' => ∃ (x6_2 : List (S91)) (x25_2 : Int), v25 = .int .i64 x25_2 ∧ Aside0 (spec_MergeStatements.l0 kq x6_2 l1 (l1.length : Int) x25_2 = some (r1, r2)) ∧ Aside0 (kq ≤ kj2) ∧ Aside0 (Kd.R k91 91 w' w.heap.size (fun _ => True) v6 x6_2) ∧ Aside0 (Below w.heap.size w w'))
    case atStart => exact ⟨(y324), (0), er, H', ⟨Nat.le_refl _⟩, ⟨rdl HO326⟩, ⟨belowd HB⟩⟩
    case round =>
     clear H'
     (try clear c10)
     obtain ⟨x6_2, x25_2, rfl, HA, HK2, HO_6, HB⟩ := hrel
     cases gk with
     | zero => exact absurd HA.out (by simp [spec_MergeStatements.l0])
     | succ k2 =>
      have H := HA.out; clear HA
      simp only [spec_MergeStatements.l0] at H
      by_cases c15 : x25_2 < (l1.length : Int)
      ·rw [if_pos c15] at H
       have c15b0 : decide (x25_2 < (l1.length : Int)) = true := decide_eq_true c15
       clear c15; replace H := ifS H; obtain ⟨c16, H⟩ := H; have c16b0 := decide_eq_true c16; clear c16; replace H := ifS H; obtain ⟨c17, H⟩ := H; have c17b0 := decide_eq_true c17; clear c17
       have H' := Aside0.mk H
       clear H
       have p327 : 0 ≤ (x25_2 : Int) := da
       have q327 : x25_2 < (l1.length : Int) := da
       obtain ⟨ad327, e327, hx327_0, hx327_1, hx327_2, hx327_3, hx327_4⟩ := at_T91 HR1.out x25_2 p327 q327
       cases e327
       replace hx327_0 := (HB.out.cell (World.block_lt_of_cell? w _ hx327_0)).trans hx327_0
       replace hx327_1 := (HB.out.cell (World.block_lt_of_cell? w _ hx327_1)).trans hx327_1
       replace hx327_2 := (HB.out.cell (World.block_lt_of_cell? w _ hx327_2)).trans hx327_2
       replace hx327_3 := (HB.out.cell (World.block_lt_of_cell? w _ hx327_3)).trans hx327_3
       replace hx327_4 := (HB.out.cell (World.block_lt_of_cell? w _ hx327_4)).trans hx327_4
       replace p327 := eq_true p327; replace q327 := eq_true q327
       go_wp2_with (first | ((with_reducible refine gate_dst (N := 8) rfl ?_); refine boxev 8 #[.int .i64 0, .int .i64 0, .int .i64 0, .int .i64 0, .bool false] 91 ?_; intro gb328 hg w18 hbox hb; replace HO_6 := ak (Kd.R_below (Kd.R_elderB (rdl HO_6) gb328 (Nat.le_of_eq hg.symm)) hb); have BK328 := ak (hbox); have GW328 := ak (hgl hg (belowd HB)); have GE328 := ak (hgl hg (belowd HB)); replace HB := ak (below_step (belowd HB) hb); clear hb hbox hg; obtain ⟨hcz19_0, hcz19_1, hcz19_2, hcz19_3, hcz19_4, hfz19_0, hfz19_1, hfz19_2, hfz19_3, hfz19_4⟩ := box5 BK328; obtain ⟨Ao20, co20, eo20⟩ := Kd.R_slice HO_6.out; subst eo20))
       go_loopg [9, 31] k2 (fun kq v9 v31 w' => ∃ (x9_3 : Bool) (x31_3 : Int), v9 = .bool x9_3 ∧ v31 = .int .i64 x31_3 ∧ Aside0 (spec_MergeStatements.l1 kq x6_2 x9_3 l1 (l1.length : Int) x25_2 (x6_2.length : Int) x31_3 ((rd_T91 l1 x25_2).f0) ((rd_T91 l1 x25_2).f1.f0) ((rd_T91 l1 x25_2).f1.f1) ((rd_T91 l1 x25_2).f1.f2) ((rd_T91 l1 x25_2).f2) = some (r1, r2)) ∧ Aside0 (kq ≤ k2) ∧ Aside0 (Kd.R k91 91 w' w.heap.size (fun k_ => k_ ≠ gb328) (.slice Ao20 x6_2.length co20) x6_2) ∧ Aside0 (w'.heap[gb328]? = some (.cells #[.int .i64 ((rd_T91 l1 x25_2).f0), .int .i64 ((rd_T91 l1 x25_2).f1.f0), .int .i64 ((rd_T91 l1 x25_2).f1.f1), .int .i64 ((rd_T91 l1 x25_2).f1.f2), .bool ((rd_T91 l1 x25_2).f2)] 91 (0, 0))) ∧ Aside0 (Below w.heap.size w w'))
       case atStart => exact ⟨(false), (0), er, er, H', ⟨Nat.le_refl _⟩, ⟨by (with_reducible repeat (first | apply Kd.R_alloc | apply Kd.R_drewN | apply Kd.R_drew)); exact Kd.R_mono (farsR (Kd.R_mono HO_6.out (fun k_ hk => (⟨hk, hk.2⟩ : _ ∧ k_ ≠ gb328)))) (fun _ hk => hk.1.2)⟩, ⟨by (with_reducible repeat (first | refine blk_drewN ?_ _ | refine blk_drew ?_ | refine blk_alloc ?_ _)); refine blk_put (cs := #[.int .i64 ((rd_T91 l1 x25_2).f0), .int .i64 ((rd_T91 l1 x25_2).f1.f0), .int .i64 ((rd_T91 l1 x25_2).f1.f1), .int .i64 ((rd_T91 l1 x25_2).f1.f2), .bool false]) ?_ 4 _ rfl; (with_reducible repeat (first | refine blk_drewN ?_ _ | refine blk_drew ?_ | refine blk_alloc ?_ _)); refine blk_put (cs := #[.int .i64 ((rd_T91 l1 x25_2).f0), .int .i64 ((rd_T91 l1 x25_2).f1.f0), .int .i64 ((rd_T91 l1 x25_2).f1.f1), .int .i64 0, .bool false]) ?_ 3 _ rfl; (with_reducible repeat (first | refine blk_drewN ?_ _ | refine blk_drew ?_ | refine blk_alloc ?_ _)); refine blk_put (cs := #[.int .i64 ((rd_T91 l1 x25_2).f0), .int .i64 ((rd_T91 l1 x25_2).f1.f0), .int .i64 0, .int .i64 0, .bool false]) ?_ 2 _ rfl; (with_reducible repeat (first | refine blk_drewN ?_ _ | refine blk_drew ?_ | refine blk_alloc ?_ _)); refine blk_put (cs := #[.int .i64 ((rd_T91 l1 x25_2).f0), .int .i64 0, .int .i64 0, .int .i64 0, .bool false]) ?_ 1 _ rfl; (with_reducible repeat (first | refine blk_drewN ?_ _ | refine blk_drew ?_ | refine blk_alloc ?_ _)); refine blk_put (cs := #[.int .i64 0, .int .i64 0, .int .i64 0, .int .i64 0, .bool false]) ?_ 0 _ rfl; (with_reducible repeat (first | refine blk_drewN ?_ _ | refine blk_drew ?_ | refine blk_alloc ?_ _)); exact BK328.out⟩, ⟨belowg1 HB GE328⟩⟩
       case round =>
        clear H'
        (try clear c15b0); (try clear c16b0); (try clear c17b0); (try clear hcz19_0); (try clear hcz19_1); (try clear hcz19_2); (try clear hcz19_3); (try clear hcz19_4); (try clear hfz19_0); (try clear hfz19_1); (try clear hfz19_2); (try clear hfz19_3); (try clear hfz19_4); (try clear hx327_0); (try clear hx327_1); (try clear hx327_2); (try clear hx327_3); (try clear hx327_4); (try clear p327); (try clear q327)
        obtain ⟨x9_3, x31_3, rfl, rfl, HA, HK3, HO_6, BK328, HB⟩ := hrel
        cases gk with
        | zero => exact absurd HA.out (by simp [spec_MergeStatements.l1])
        | succ k3 =>
         have H := HA.out; clear HA
         simp only [spec_MergeStatements.l1] at H
         by_cases c21 : x31_3 < (x6_2.length : Int)
         ·rw [if_pos c21] at H
          have c21b0 : decide (x31_3 < (x6_2.length : Int)) = true := decide_eq_true c21
          clear c21; replace H := ifS H; obtain ⟨c22, H⟩ := H; have c22b0 := decide_eq_true c22; clear c22; replace H := ifS H; obtain ⟨c23, H⟩ := H; have c23b0 := decide_eq_true c23; clear c23
          by_cases c24 : x9_3 = true
          ·subst c24
           have H1 : (spec_MergeStatements.l1 k3 x6_2 true l1 (l1.length : Int) x25_2 (x6_2.length : Int) (wrap64 (x31_3 + 1)) ((rd_T91 l1 x25_2).f0) ((rd_T91 l1 x25_2).f1.f0) ((rd_T91 l1 x25_2).f1.f1) ((rd_T91 l1 x25_2).f1.f2) ((rd_T91 l1 x25_2).f2)) = some (r1, r2) := by rw [if_pos rfl] at H; exact H
           clear H
           have H := H1
           clear H1
           have H' := Aside0.mk H
           clear H
           have p329 : 0 ≤ (x31_3 : Int) := da
           have q329 : x31_3 < (x6_2.length : Int) := da
           obtain ⟨ad329, e329, hx329_0, hx329_1, hx329_2, hx329_3, hx329_4⟩ := at_T91 (Kd.R_reads' HO_6.out).2.2 x31_3 p329 q329
           cases e329
           replace p329 := eq_true p329; replace q329 := eq_true q329
           go_wp2_with (first | ((with_reducible refine gate_dst (N := 11) rfl ?_); refine boxev 11 #[.int .i64 0, .int .i64 0, .int .i64 0, .int .i64 0, .bool false] 91 ?_; intro gb330 hg w25 hbox hb; replace HO_6 := ak (Kd.R_below (Kd.R_elderB (rdl HO_6) gb330 (Nat.le_of_eq hg.symm)) hb); have BK330 := ak (hbox); have GW330 := ak (hgl hg (belowg1 HB GE328)); have GE330 := ak (hgl hg (belowg1 HB GE328)); replace HB := ak (below_step (belowg1 HB GE328) hb); have NB328_330 := ak ((by rw [hg]; exact Nat.ne_of_lt (blk_lt (blkd BK328)) : gb328 ≠ gb330)); have NB330_328 := ak ((by rw [hg]; exact Nat.ne_of_gt (blk_lt (blkd BK328)) : gb330 ≠ gb328)); replace BK328 := ak (blk_below (blkd BK328) hb); clear hb hbox hg; have hnb26 := NB330_328.out; have hnc26 := NB328_330.out; obtain ⟨hcz27_0, hcz27_1, hcz27_2, hcz27_3, hcz27_4, hfz27_0, hfz27_1, hfz27_2, hfz27_3, hfz27_4⟩ := box5 BK330))
           go_roundg k3
           case measure => have := HJ2.out; have := HK2.out; have := HK3.out; omega
           case rel => exact ⟨(true), (wrap64 (x31_3 + 1)), er, er, H', ⟨by have := HJ2.out; have := HK2.out; have := HK3.out; omega⟩, ⟨by (with_reducible repeat (first | apply Kd.R_alloc | apply Kd.R_drewN | apply Kd.R_drew)); exact Kd.R_mono (farsR (Kd.R_mono HO_6.out (fun k_ hk => (⟨hk, hk.2⟩ : _ ∧ k_ ≠ gb330)))) (fun _ hk => hk.1.1)⟩, ⟨by (with_reducible repeat (first | refine blk_drewN ?_ _ | refine blk_drew ?_ | refine blk_alloc ?_ _)); refine blk_far ?_ NB328_330.out _; (with_reducible repeat (first | refine blk_drewN ?_ _ | refine blk_drew ?_ | refine blk_alloc ?_ _)); refine blk_far ?_ NB328_330.out _; (with_reducible repeat (first | refine blk_drewN ?_ _ | refine blk_drew ?_ | refine blk_alloc ?_ _)); refine blk_far ?_ NB328_330.out _; (with_reducible repeat (first | refine blk_drewN ?_ _ | refine blk_drew ?_ | refine blk_alloc ?_ _)); refine blk_far ?_ NB328_330.out _; (with_reducible repeat (first | refine blk_drewN ?_ _ | refine blk_drew ?_ | refine blk_alloc ?_ _)); refine blk_far ?_ NB328_330.out _; (with_reducible repeat (first | refine blk_drewN ?_ _ | refine blk_drew ?_ | refine blk_alloc ?_ _)); exact BK328.out⟩, ⟨belowg2 HB GE328 GE330⟩⟩
          ·replace c24 := Bool.eq_false_iff.mpr c24
           subst c24
           have H1 : (spec_MergeStatements.l1 k3 x6_2 (((rd_T91 x6_2 x31_3).f0) == ((rd_T91 l1 x25_2).f0) && ((((rd_T91 x6_2 x31_3).f1.f0) == ((rd_T91 l1 x25_2).f1.f0) && (((rd_T91 x6_2 x31_3).f1.f1) == ((rd_T91 l1 x25_2).f1.f1) && (((rd_T91 x6_2 x31_3).f1.f2) == ((rd_T91 l1 x25_2).f1.f2)))) && (((rd_T91 x6_2 x31_3).f2) == ((rd_T91 l1 x25_2).f2)))) l1 (l1.length : Int) x25_2 (x6_2.length : Int) (wrap64 (x31_3 + 1)) ((rd_T91 l1 x25_2).f0) ((rd_T91 l1 x25_2).f1.f0) ((rd_T91 l1 x25_2).f1.f1) ((rd_T91 l1 x25_2).f1.f2) ((rd_T91 l1 x25_2).f2)) = some (r1, r2) := by rw [if_neg (show ¬ (false = true) by decide)] at H; exact H
           clear H
           have H := H1
           clear H1
           have H' := Aside0.mk H
           clear H
           have p329 : 0 ≤ (x31_3 : Int) := da
           have q329 : x31_3 < (x6_2.length : Int) := da
           obtain ⟨ad329, e329, hx329_0, hx329_1, hx329_2, hx329_3, hx329_4⟩ := at_T91 (Kd.R_reads' HO_6.out).2.2 x31_3 p329 q329
           cases e329
           replace p329 := eq_true p329; replace q329 := eq_true q329
           go_wp2_with (first | ((with_reducible refine gate_dst (N := 11) rfl ?_); refine boxev 11 #[.int .i64 0, .int .i64 0, .int .i64 0, .int .i64 0, .bool false] 91 ?_; intro gb330 hg w28 hbox hb; replace HO_6 := ak (Kd.R_below (Kd.R_elderB (rdl HO_6) gb330 (Nat.le_of_eq hg.symm)) hb); have BK330 := ak (hbox); have GW330 := ak (hgl hg (belowg1 HB GE328)); have GE330 := ak (hgl hg (belowg1 HB GE328)); replace HB := ak (below_step (belowg1 HB GE328) hb); have NB328_330 := ak ((by rw [hg]; exact Nat.ne_of_lt (blk_lt (blkd BK328)) : gb328 ≠ gb330)); have NB330_328 := ak ((by rw [hg]; exact Nat.ne_of_gt (blk_lt (blkd BK328)) : gb330 ≠ gb328)); replace BK328 := ak (blk_below (blkd BK328) hb); clear hb hbox hg; have hnb29 := NB330_328.out; have hnc29 := NB328_330.out; obtain ⟨hcz30_0, hcz30_1, hcz30_2, hcz30_3, hcz30_4, hfz30_0, hfz30_1, hfz30_2, hfz30_3, hfz30_4⟩ := box5 BK330; obtain ⟨hcz31_0, hcz31_1, hcz31_2, hcz31_3, hcz31_4, hfz31_0, hfz31_1, hfz31_2, hfz31_3, hfz31_4⟩ := box5 BK328))
           go_roundg k3
           case measure => have := HJ2.out; have := HK2.out; have := HK3.out; omega
           case rel => exact ⟨((((rd_T91 x6_2 x31_3).f0) == ((rd_T91 l1 x25_2).f0) && ((((rd_T91 x6_2 x31_3).f1.f0) == ((rd_T91 l1 x25_2).f1.f0) && (((rd_T91 x6_2 x31_3).f1.f1) == ((rd_T91 l1 x25_2).f1.f1) && (((rd_T91 x6_2 x31_3).f1.f2) == ((rd_T91 l1 x25_2).f1.f2)))) && (((rd_T91 x6_2 x31_3).f2) == ((rd_T91 l1 x25_2).f2))))), (wrap64 (x31_3 + 1)), er, er, H', ⟨by have := HJ2.out; have := HK2.out; have := HK3.out; omega⟩, ⟨by (with_reducible repeat (first | apply Kd.R_alloc | apply Kd.R_drewN | apply Kd.R_drew)); exact Kd.R_mono (farsR (Kd.R_mono HO_6.out (fun k_ hk => (⟨hk, hk.2⟩ : _ ∧ k_ ≠ gb330)))) (fun _ hk => hk.1.1)⟩, ⟨by (with_reducible repeat (first | refine blk_drewN ?_ _ | refine blk_drew ?_ | refine blk_alloc ?_ _)); refine blk_far ?_ NB328_330.out _; (with_reducible repeat (first | refine blk_drewN ?_ _ | refine blk_drew ?_ | refine blk_alloc ?_ _)); refine blk_far ?_ NB328_330.out _; (with_reducible repeat (first | refine blk_drewN ?_ _ | refine blk_drew ?_ | refine blk_alloc ?_ _)); refine blk_far ?_ NB328_330.out _; (with_reducible repeat (first | refine blk_drewN ?_ _ | refine blk_drew ?_ | refine blk_alloc ?_ _)); refine blk_far ?_ NB328_330.out _; (with_reducible repeat (first | refine blk_drewN ?_ _ | refine blk_drew ?_ | refine blk_alloc ?_ _)); refine blk_far ?_ NB328_330.out _; (with_reducible repeat (first | refine blk_drewN ?_ _ | refine blk_drew ?_ | refine blk_alloc ?_ _)); exact BK328.out⟩, ⟨belowg2 HB GE328 GE330⟩⟩
         ·rw [if_neg c21] at H
          have c21b0 : decide (x31_3 < (x6_2.length : Int)) = false := decide_eq_false c21
          clear c21
          by_cases c32 : x9_3 = true
          ·subst c32
           have H1 : (spec_MergeStatements.l0 k3 x6_2 l1 (l1.length : Int) (wrap64 (x25_2 + 1))) = some (r1, r2) := by rw [if_pos rfl] at H; exact H
           clear H
           have H := H1
           clear H1
           have H' := Aside0.mk H
           clear H; go_wp2
           go_roundg k3
           case measure => have := HJ2.out; have := HK2.out; have := HK3.out; omega
           case rel => exact ⟨(x6_2), (wrap64 (x25_2 + 1)), er, H', ⟨by have := HJ2.out; have := HK2.out; have := HK3.out; omega⟩, ⟨by (with_reducible repeat (first | apply Kd.R_alloc | apply Kd.R_drewN | apply Kd.R_drew)); exact Kd.R_mono HO_6.out (fun _ hk => trivial)⟩, ⟨belowg1 HB GE328⟩⟩
          ·replace c32 := Bool.eq_false_iff.mpr c32
           subst c32
           have H1 : (if x6_2.length < 3518437208883 then (spec_MergeStatements.l0 k3 (x6_2 ++ [(⟨((rd_T91 l1 x25_2).f0), (⟨((rd_T91 l1 x25_2).f1.f0), ((rd_T91 l1 x25_2).f1.f1), ((rd_T91 l1 x25_2).f1.f2)⟩ : S85), ((rd_T91 l1 x25_2).f2)⟩ : S91)]) l1 (l1.length : Int) (wrap64 (x25_2 + 1))) else (none)) = some (r1, r2) := by rw [if_neg (show ¬ (false = true) by decide)] at H; exact H
           clear H
           have H := H1
           clear H1; replace H := ifS H; obtain ⟨c33, H⟩ := H; have LMc33 := Aside0.mk c33; clear c33
           obtain ⟨y331, hy_⟩ : ∃ y_ : List (S91), y_ = (x6_2 ++ [(⟨((rd_T91 l1 x25_2).f0), (⟨((rd_T91 l1 x25_2).f1.f0), ((rd_T91 l1 x25_2).f1.f1), ((rd_T91 l1 x25_2).f1.f2)⟩ : S85), ((rd_T91 l1 x25_2).f2)⟩ : S91)]) := ⟨_, rfl⟩
           replace H : (spec_MergeStatements.l0 k3 y331 l1 (l1.length : Int) (wrap64 (x25_2 + 1))) = some (r1, r2) := yH
           have Ny331 := ak hy_; clear hy_
           have H' := Aside0.mk H
           clear H; obtain ⟨hcz34_0, hcz34_1, hcz34_2, hcz34_3, hcz34_4, hfz34_0, hfz34_1, hfz34_2, hfz34_3, hfz34_4⟩ := box5 BK328
           go_wp2_with (first | ((with_reducible refine gate_builtin (b := .append) (xs := #[.tmp 44, .tmp 46]) rfl ?_); at_builtin; refine Kd.R_append k91 (w0 := w) w.heap.size rfl (.tmp 44) (.tmp 46) 73 91 (.agg #[(.int .i64 0), (.int .i64 0), (.int .i64 0), (.int .i64 0), (.bool false)]) 40 rfl Try.underlying73 info91 rfl (by decide) (by omega) (.slice Ao20 x6_2.length co20) x6_2 (⟨((rd_T91 l1 x25_2).f0), (⟨((rd_T91 l1 x25_2).f1.f0), ((rd_T91 l1 x25_2).f1.f1), ((rd_T91 l1 x25_2).f1.f2)⟩ : S85), ((rd_T91 l1 x25_2).f2)⟩ : S91) [.int .i64 ((rd_T91 l1 x25_2).f0), .int .i64 ((rd_T91 l1 x25_2).f1.f0), .int .i64 ((rd_T91 l1 x25_2).f1.f1), .int .i64 ((rd_T91 l1 x25_2).f1.f2), .bool ((rd_T91 l1 x25_2).f2)] (fun k_ => k_ ≠ gb328) (fun _ => False) rfl rfl ?aP (fun _ hk => hk.elim) ?aF ?aO ?aB ?aS ?aL ?_; (case aP => exact k91_mkM _ _ _ (⟨((rd_T91 l1 x25_2).f0), (⟨((rd_T91 l1 x25_2).f1.f0), ((rd_T91 l1 x25_2).f1.f1), ((rd_T91 l1 x25_2).f1.f2)⟩ : S85), ((rd_T91 l1 x25_2).f2)⟩ : S91)); (case aB => exact (belowg1 HB GE328)); (case aF => exact (fun k_ hk => Kd.freshB (blkd BK328) k_ hk)); (case aO => exact (rdl HO_6)); (case aS => exact (below_size (belowg1 HB GE328))); (case aL => have := LMc33.out; omega); intro v332 w35 ho hb hg hat; rw [← Ny331.out] at ho; replace BK328 := ak (blk_grown (blkd BK328) hg (Kd.R_away HO_6.out (fun _ hk => hk))); replace HB := ak (hb); have HO333 := ak (ho); clear HO_6; clear ho hb hg hat))
           go_roundg k3
           case measure => have := HJ2.out; have := HK2.out; have := HK3.out; omega
           case rel => exact ⟨(y331), (wrap64 (x25_2 + 1)), er, H', ⟨by have := HJ2.out; have := HK2.out; have := HK3.out; omega⟩, ⟨by (with_reducible repeat (first | apply Kd.R_alloc | apply Kd.R_drewN | apply Kd.R_drew)); exact Kd.R_mono HO333.out (fun _ hk => trivial)⟩, ⟨belowg1 HB GE328⟩⟩
      ·rw [if_neg c15] at H
       have c15b0 : decide (x25_2 < (l1.length : Int)) = false := decide_eq_false c15
       clear c15
       by_cases c36 : (x6_2.length : Int) > 60
       ·rw [if_pos c36] at H
        have c36b0 : decide (60 < (x6_2.length : Int)) = true := decide_eq_true c36
        have c36b1 : decide (60 < x6_2.length) = true := decide_eq_true (by omega)
        clear c36
        simp only [Option.some.injEq, Prod.mk.injEq] at H
        obtain ⟨rfl, rfl⟩ := H
        obtain ⟨Ao37, co37, eo37⟩ := Kd.R_slice HO_6.out
        subst eo37; go_wp2
        go_ret2
        exact ⟨_, er2, by first | exact Kd.R_nil _ _ _ _ _ | exact Kd.N_nil _ _ _ _ _ | exact Kd.V_nil _ _ _ _ _ | exact Kd.Q_nil _ _ _ _ _ | exact Kd.S_nil _ _ _ _ _, belowd HB⟩
       ·rw [if_neg c36] at H
        have c36b0 : decide (60 < (x6_2.length : Int)) = false := decide_eq_false c36
        have c36b1 : decide (60 < x6_2.length) = false := decide_eq_false (by omega)
        clear c36
        simp only [Option.some.injEq, Prod.mk.injEq] at H
        obtain ⟨rfl, rfl⟩ := H
        obtain ⟨Ao38, co38, eo38⟩ := Kd.R_slice HO_6.out
        subst eo38; go_wp2
        go_ret2
        exact ⟨_, er2, by (with_reducible repeat (first | apply Kd.R_alloc | apply Kd.R_drewN | apply Kd.R_drew)); exact HO_6.out, belowd HB⟩

/-! ### laws_sameStatements: function 59 -/
def laws_sameStatements.l0 : Nat → List (S91) → List (S91) → Int → Int → Option (Bool)
  | 0, _, _, _, _ => none
  | k + 1, x0, x1, x12, x13 => if x13 < x12 then (if 0 ≤ x13 then (if x13 < (x0.length : Int) then (if x13 < (x1.length : Int) then (if (!(((rd_T91 x0 x13).f0) == ((rd_T91 x1 x13).f0)) || ((!(((rd_T91 x0 x13).f1.f0) == ((rd_T91 x1 x13).f1.f0)) || (!(((rd_T91 x0 x13).f1.f1) == ((rd_T91 x1 x13).f1.f1)) || (!(((rd_T91 x0 x13).f1.f2) == ((rd_T91 x1 x13).f1.f2))))) || (!(((rd_T91 x0 x13).f2) == ((rd_T91 x1 x13).f2))))) = true then (some false) else (laws_sameStatements.l0 k x0 x1 x12 (wrap64 (x13 + 1)))) else (none)) else (none)) else (none)) else (some true)
def laws_sameStatements.f (k : Nat) (l0 : List (S91)) (l1 : List (S91)) : Option (Bool) := if (l0.length : Int) = (l1.length : Int) then (laws_sameStatements.l0 k l0 l1 (l0.length : Int) 0) else (some false)
theorem laws_sameStatements.mono_l : ∀ k, (∀ y0 y1 y2 y3, LeO (laws_sameStatements.l0 k y0 y1 y2 y3) (laws_sameStatements.l0 (k + 1) y0 y1 y2 y3))
 | 0 => fun _ _ _ _ r h => by simp [laws_sameStatements.l0] at h
 | k + 1 => by
  have ih0 := laws_sameStatements.mono_l k
  ·intro y0 y1 y2 y3
   unfold laws_sameStatements.l0
   repeat' (first | (with_reducible first | exact ih0 _ _ _ _ | exact LeO.refl _ | exact LeO.none _ | refine LeO.ite ?_ ?_ | refine LeO.bind ?_ (fun _ => ?_)) | exact ih0 _ _ _ _ | exact LeO.none _ | refine LeO.ite ?_ ?_ | refine LeO.bind ?_ (fun _ => ?_))
theorem laws_sameStatements.mono : ∀ a0 a1 k, LeO (laws_sameStatements.f k a0 a1) (laws_sameStatements.f (k + 1) a0 a1) := by
 intro a0 a1 k
 have ih0 := laws_sameStatements.mono_l k
 unfold laws_sameStatements.f
 repeat' (first | (with_reducible first | exact ih0 _ _ _ _ | exact LeO.refl _ | exact LeO.none _ | refine LeO.ite ?_ ?_ | refine LeO.bind ?_ (fun _ => ?_)) | exact ih0 _ _ _ _ | exact LeO.none _ | refine LeO.ite ?_ ?_ | refine LeO.bind ?_ (fun _ => ?_))
set_option maxHeartbeats 8000000 in
set_option maxRecDepth 100000 in
theorem laws_sameStatements.calls (k : Nat) (A0 : Option Addr) (c0 : Nat) (l0 : List (S91)) (A1 : Option Addr) (c1 : Nat) (l1 : List (S91)) (r : Bool) (w : World) (hr0 : Kd.C k91 w A0 l0.length l0) (hc0 : l0.length ≤ c0) (hr1 : Kd.C k91 w A1 l1.length l1) (hc1 : l1.length ≤ c1) (h : laws_sameStatements.f k l0 l1 = some r) :
  Calls Try.prog 59 #[.slice A0 l0.length c0, .slice A1 l1.length c1] w fun e w' => e = .returned (.bool r) ∧ Drawn0 w w' := by
 have hu91 := Try.underlying91
 have HR0 := Aside0.mk hr0; have HC0 := Aside0.mk hc0; clear hr0 hc0; have HR1 := Aside0.mk hr1; have HC1 := Aside0.mk hc1; clear hr1 hc1
 have H : (if (l0.length : Int) = (l1.length : Int) then (laws_sameStatements.l0 k l0 l1 (l0.length : Int) 0) else (some false)) = some r := h
 clear h
 by_cases c3 : (l0.length : Int) = (l1.length : Int)
 ·rw [if_pos c3] at H
  have c3b0 : ((l0.length : Int) == (l1.length : Int)) = true := beq_iff_eq.mpr c3
  have c3b1 : ((l0.length : Int) != (l1.length : Int)) = false := bne_eq_false_iff_eq.mpr c3
  have c3b2 : (l0.length == l1.length) = true := by first | simpa using c3 | (simp at c3 ⊢; omega)
  clear c3
  have H' := Aside0.mk H
  clear H
  go_enter Try.func59, Try.ntmps59
  go_wp2
  repeat (go_quiet (fail); try go_wp2)
  go_loopg [13] k (fun kq v13 w' => ∃ (x13_1 : Int), v13 = .int .i64 x13_1 ∧ Aside0 (laws_sameStatements.l0 kq l0 l1 (l0.length : Int) x13_1 = some r) ∧ Aside0 (kq ≤ k) ∧ Drawn0 w w')
  case atStart => exact ⟨(0), er, H', ⟨Nat.le_refl _⟩, drw⟩
  case round =>
   clear H'
   (try clear c1); (try clear c3b0); (try clear c3b1); (try clear c3b2)
   obtain ⟨x13_1, rfl, HA, HK1, ⟨m1, rfl⟩⟩ := hrel
   cases gk with
   | zero => exact absurd HA.out (by simp [laws_sameStatements.l0])
   | succ k1 =>
    have H := HA.out; clear HA
    simp only [laws_sameStatements.l0] at H
    by_cases c4 : x13_1 < (l0.length : Int)
    ·rw [if_pos c4] at H
     have c4b0 : decide (x13_1 < (l0.length : Int)) = true := decide_eq_true c4
     clear c4; replace H := ifS H; obtain ⟨c5, H⟩ := H; have c5b0 := decide_eq_true c5; clear c5; replace H := ifS H; obtain ⟨c6, H⟩ := H; have c6b0 := decide_eq_true c6; clear c6; replace H := ifS H; obtain ⟨c7, H⟩ := H; have c7b0 := decide_eq_true c7; clear c7
     by_cases c8 : (!(((rd_T91 l0 x13_1).f0) == ((rd_T91 l1 x13_1).f0)) || ((!(((rd_T91 l0 x13_1).f1.f0) == ((rd_T91 l1 x13_1).f1.f0)) || (!(((rd_T91 l0 x13_1).f1.f1) == ((rd_T91 l1 x13_1).f1.f1)) || (!(((rd_T91 l0 x13_1).f1.f2) == ((rd_T91 l1 x13_1).f1.f2))))) || (!(((rd_T91 l0 x13_1).f2) == ((rd_T91 l1 x13_1).f2))))) = true
     ·rw [if_pos c8] at H
      have c8b0 : (!(((rd_T91 l0 x13_1).f0) == ((rd_T91 l1 x13_1).f0)) || ((!(((rd_T91 l0 x13_1).f1.f0) == ((rd_T91 l1 x13_1).f1.f0)) || (!(((rd_T91 l0 x13_1).f1.f1) == ((rd_T91 l1 x13_1).f1.f1)) || (!(((rd_T91 l0 x13_1).f1.f2) == ((rd_T91 l1 x13_1).f1.f2))))) || (!(((rd_T91 l0 x13_1).f2) == ((rd_T91 l1 x13_1).f2))))) = true := c8
      clear c8
      obtain rfl := Option.some.inj H
      have p334 : 0 ≤ (x13_1 : Int) := da
      have q334 : x13_1 < (l0.length : Int) := da
      obtain ⟨ad334, e334, hx334_0, hx334_1, hx334_2, hx334_3, hx334_4⟩ := at_T91 HR0.out x13_1 p334 q334
      cases e334
      replace p334 := eq_true p334; replace q334 := eq_true q334
      have p335 : 0 ≤ (x13_1 : Int) := da
      have q335 : x13_1 < (l1.length : Int) := da
      obtain ⟨ad335, e335, hx335_0, hx335_1, hx335_2, hx335_3, hx335_4⟩ := at_T91 HR1.out x13_1 p335 q335
      cases e335
      replace p335 := eq_true p335; replace q335 := eq_true q335; go_wp2
      repeat (go_quiet (fail); try go_wp2)
      go_ret
      exact ⟨er, drw⟩
     ·rw [if_neg c8] at H
      have c8b0 : (!(((rd_T91 l0 x13_1).f0) == ((rd_T91 l1 x13_1).f0)) || ((!(((rd_T91 l0 x13_1).f1.f0) == ((rd_T91 l1 x13_1).f1.f0)) || (!(((rd_T91 l0 x13_1).f1.f1) == ((rd_T91 l1 x13_1).f1.f1)) || (!(((rd_T91 l0 x13_1).f1.f2) == ((rd_T91 l1 x13_1).f1.f2))))) || (!(((rd_T91 l0 x13_1).f2) == ((rd_T91 l1 x13_1).f2))))) = false := by simpa using c8
      clear c8
      have H' := Aside0.mk H
      clear H
      have p334 : 0 ≤ (x13_1 : Int) := da
      have q334 : x13_1 < (l0.length : Int) := da
      obtain ⟨ad334, e334, hx334_0, hx334_1, hx334_2, hx334_3, hx334_4⟩ := at_T91 HR0.out x13_1 p334 q334
      cases e334
      replace p334 := eq_true p334; replace q334 := eq_true q334
      have p335 : 0 ≤ (x13_1 : Int) := da
      have q335 : x13_1 < (l1.length : Int) := da
      obtain ⟨ad335, e335, hx335_0, hx335_1, hx335_2, hx335_3, hx335_4⟩ := at_T91 HR1.out x13_1 p335 q335
      cases e335
      replace p335 := eq_true p335; replace q335 := eq_true q335; go_wp2
      repeat (go_quiet (fail); try go_wp2)
      go_roundg k1
      case measure => have := HK1.out; omega
      case rel => exact ⟨(wrap64 (x13_1 + 1)), er, H', ⟨by have := HK1.out; omega⟩, drw⟩
    ·rw [if_neg c4] at H
     have c4b0 : decide (x13_1 < (l0.length : Int)) = false := decide_eq_false c4
     clear c4
     obtain rfl := Option.some.inj H
     go_wp2
     repeat (go_quiet (fail); try go_wp2)
     go_ret
     exact ⟨er, drw⟩
 ·rw [if_neg c3] at H
  have c3b0 : ((l0.length : Int) == (l1.length : Int)) = false := beq_eq_false_iff_ne.mpr c3
  have c3b1 : ((l0.length : Int) != (l1.length : Int)) = true := bne_iff_ne.mpr c3
  have c3b2 : (l0.length == l1.length) = false := by first | simpa using c3 | (simp at c3 ⊢; omega)
  obtain rfl := Option.some.inj H
  go_enter Try.func59, Try.ntmps59
  go_wp2
  repeat (go_quiet (fail); try go_wp2)
  go_ret
  exact ⟨er, drw⟩

/-! ### impl_refusedBy: function 146 -/
def impl_refusedBy.l0 : Nat → List (S91) → List Int → Int → Int → Int → Int → Option (List Int)
  | 0, _, _, _, _, _, _ => none
  | k + 1, x0, x5, x8, x337000, x337001, x337002 => if x8 < 7 then ((impl_Statement_144.f k x0 x8 x337000 x337001 x337002 true).bind fun t340 => (if t340 = true then ((impl_Statement_144.f k x0 x8 x337000 x337001 x337002 false).bind fun t341 => (if t341 = true then (impl_refusedBy.l0 k x0 x5 (wrap64 (x8 + 1)) x337000 x337001 x337002) else (if x5.length < 17592186044416 then (impl_refusedBy.l0 k x0 (x5 ++ [x8]) (wrap64 (x8 + 1)) x337000 x337001 x337002) else (none)))) else (impl_refusedBy.l0 k x0 x5 (wrap64 (x8 + 1)) x337000 x337001 x337002))) else (some x5)
def impl_refusedBy.f (k : Nat) (l0 : List (S91)) (a1_0 : Int) (a1_1 : Int) (a1_2 : Int) : Option (List Int) := impl_refusedBy.l0 k l0 (([] : List Int)) 0 a1_0 a1_1 a1_2
theorem impl_refusedBy.mono_l : ∀ k, (∀ y0 y1 y2 y3 y4 y5, LeO (impl_refusedBy.l0 k y0 y1 y2 y3 y4 y5) (impl_refusedBy.l0 (k + 1) y0 y1 y2 y3 y4 y5))
 | 0 => fun _ _ _ _ _ _ r h => by simp [impl_refusedBy.l0] at h
 | k + 1 => by
  have ih0 := impl_refusedBy.mono_l k
  ·intro y0 y1 y2 y3 y4 y5
   unfold impl_refusedBy.l0
   repeat' (first | (with_reducible first | exact ih0 _ _ _ _ _ _ | exact impl_Statement_144.mono _ _ _ _ _ _ _ | exact LeO.refl _ | exact LeO.none _ | refine LeO.ite ?_ ?_ | refine LeO.bind ?_ (fun _ => ?_)) | exact ih0 _ _ _ _ _ _ | exact impl_Statement_144.mono _ _ _ _ _ _ _ | exact LeO.none _ | refine LeO.ite ?_ ?_ | refine LeO.bind ?_ (fun _ => ?_))
theorem impl_refusedBy.mono : ∀ a0 a1 a2 a3 k, LeO (impl_refusedBy.f k a0 a1 a2 a3) (impl_refusedBy.f (k + 1) a0 a1 a2 a3) := by
 intro a0 a1 a2 a3 k
 have ih0 := impl_refusedBy.mono_l k
 unfold impl_refusedBy.f
 repeat' (first | (with_reducible first | exact ih0 _ _ _ _ _ _ | exact impl_Statement_144.mono _ _ _ _ _ _ _ | exact LeO.refl _ | exact LeO.none _ | refine LeO.ite ?_ ?_ | refine LeO.bind ?_ (fun _ => ?_)) | exact ih0 _ _ _ _ _ _ | exact impl_Statement_144.mono _ _ _ _ _ _ _ | exact LeO.none _ | refine LeO.ite ?_ ?_ | refine LeO.bind ?_ (fun _ => ?_))
set_option maxHeartbeats 8000000 in
set_option maxRecDepth 100000 in
theorem impl_refusedBy.calls (k : Nat) (A0 : Option Addr) (c0 : Nat) (l0 : List (S91)) (a1_0 : Int) (a1_1 : Int) (a1_2 : Int) (r : List Int) (w : World) (hr0 : Kd.C k91 w A0 l0.length l0) (hc0 : l0.length ≤ c0) (h : impl_refusedBy.f k l0 a1_0 a1_1 a1_2 = some r) :
  Calls Try.prog 146 #[.slice A0 l0.length c0, .agg #[.int .i64 a1_0, .int .i64 a1_1, .int .i64 a1_2]] w fun e w' => ∃ v0_ : Value, e = .returned (v0_) ∧ Kd.R (Kd.int .i64) 3 w' w.heap.size (fun _ => True) v0_ r ∧ Below w.heap.size w w' := by
 have hu85 := Try.underlying85
 have hu91 := Try.underlying91
 have HR0 := Aside0.mk hr0; have HC0 := Aside0.mk hc0; clear hr0 hc0
 have HB := Aside0.mk (Below.refl w.heap.size w)
 have H : (impl_refusedBy.l0 k l0 (([] : List Int)) 0 a1_0 a1_1 a1_2) = some r := h
 clear h
 obtain ⟨y337, hy_⟩ : ∃ y_ : List Int, y_ = (([] : List Int)) := ⟨_, rfl⟩
 replace H : (impl_refusedBy.l0 k l0 y337 0 a1_0 a1_1 a1_2) = some r := yH
 have Ny337 := ak hy_; clear hy_
 have H' := Aside0.mk H
 clear H
 go_enter Try.func146, Try.ntmps146
 go_wp2_with (first | ((with_reducible refine gate_dst (N := 3) rfl ?_); refine boxev 3 #[.int .i64 a1_0, .int .i64 a1_1, .int .i64 a1_2] 85 ?_; intro gb336 hg w3 hbox hb; have BK336 := ak (hbox); have GW336 := ak (hgl hg (belowd HB)); have GE336 := ak (hgl hg (belowd HB)); replace HB := ak (below_step (belowd HB) hb); clear hb hbox hg) | ((with_reducible refine gate_dst (N := 7) rfl ?_); refine Kd.R_lit (Kd.int .i64) _ 3 ?hg (N := 7) ?hd (xs := ([] : List Int)) (inner := []) (ok := fun _ => True) (okp := fun _ => True) ?hr ?hp (fun _ hk => hk) trivial (Below.refl _ _) (Nat.le_refl _) (by simp) ?_; (case hd => rfl); (case hg => rfl); (case hr => first | (go_simp; done) | (go_simp; rfl)); (case hp => exact (Reps.none _ _)); intro v338 w4 ho5 hb hg_ hnew_; clear hg_ hnew_; (first | rw [← Ny337.out] at ho5 | (simp only [Int.reduceToNat] at ho5; rw [← Ny337.out] at ho5)); have HO339 := ak (Kd.R_lower ho5 (below_size (belowg1 HB GE336))); replace BK336 := ak (blk_below (blkd BK336) hb); replace HB := ak (below_step (belowg1 HB GE336) hb); clear hb ho5))
 go_loopg [5, 8] k (fun kq v5 v8 w' => ∃ (x5_1 : List Int) (x8_1 : Int), v8 = .int .i64 x8_1 ∧ Aside0 (impl_refusedBy.l0 kq l0 x5_1 x8_1 a1_0 a1_1 a1_2 = some r) ∧ Aside0 (kq ≤ k) ∧ Aside0 (Kd.R (Kd.int .i64) 3 w' w.heap.size (fun _ => True) v5 x5_1) ∧ Aside0 (w'.heap[gb336]? = some (.cells #[.int .i64 a1_0, .int .i64 a1_1, .int .i64 a1_2] 85 (0, 0))) ∧ Aside0 (Below w.heap.size w w'))
 case atStart => exact ⟨(y337), (0), er, H', ⟨Nat.le_refl _⟩, ⟨rdl HO339⟩, ⟨blkd BK336⟩, ⟨belowg1 HB GE336⟩⟩
 case round =>
  clear H'
  obtain ⟨x5_1, x8_1, rfl, HA, HK1, HO_5, BK336, HB⟩ := hrel
  cases gk with
  | zero => exact absurd HA.out (by simp [impl_refusedBy.l0])
  | succ k1 =>
   have H := HA.out; clear HA
   simp only [impl_refusedBy.l0] at H
   by_cases c6 : x8_1 < 7
   ·rw [if_pos c6] at H
    have c6b0 : decide (x8_1 < 7) = true := decide_eq_true c6
    clear c6; replace H := bS H; obtain ⟨t340, A7, H⟩ := H
    replace H : (if t340 = true then ((impl_Statement_144.f k1 l0 x8_1 a1_0 a1_1 a1_2 false).bind fun t341 => (if t341 = true then (impl_refusedBy.l0 k1 l0 x5_1 (wrap64 (x8_1 + 1)) a1_0 a1_1 a1_2) else (if x5_1.length < 17592186044416 then (impl_refusedBy.l0 k1 l0 (x5_1 ++ [x8_1]) (wrap64 (x8_1 + 1)) a1_0 a1_1 a1_2) else (none)))) else (impl_refusedBy.l0 k1 l0 x5_1 (wrap64 (x8_1 + 1)) a1_0 a1_1 a1_2)) = some r := H
    by_cases c8 : t340 = true
    ·subst c8
     have H1 : ((impl_Statement_144.f k1 l0 x8_1 a1_0 a1_1 a1_2 false).bind fun t341 => (if t341 = true then (impl_refusedBy.l0 k1 l0 x5_1 (wrap64 (x8_1 + 1)) a1_0 a1_1 a1_2) else (if x5_1.length < 17592186044416 then (impl_refusedBy.l0 k1 l0 (x5_1 ++ [x8_1]) (wrap64 (x8_1 + 1)) a1_0 a1_1 a1_2) else (none)))) = some r := by rw [if_pos rfl] at H; exact H
     clear H
     have H := H1
     clear H1; replace H := bS H; obtain ⟨t341, A9, H⟩ := H
     replace H : (if t341 = true then (impl_refusedBy.l0 k1 l0 x5_1 (wrap64 (x8_1 + 1)) a1_0 a1_1 a1_2) else (if x5_1.length < 17592186044416 then (impl_refusedBy.l0 k1 l0 (x5_1 ++ [x8_1]) (wrap64 (x8_1 + 1)) a1_0 a1_1 a1_2) else (none))) = some r := H
     by_cases c10 : t341 = true
     ·subst c10
      have H1 : (impl_refusedBy.l0 k1 l0 x5_1 (wrap64 (x8_1 + 1)) a1_0 a1_1 a1_2) = some r := by rw [if_pos rfl] at H; exact H
      clear H
      have H := H1
      clear H1
      have H' := Aside0.mk H
      clear H; obtain ⟨hcz11_0, hcz11_1, hcz11_2, hfz11_0, hfz11_1, hfz11_2⟩ := box3 BK336
      go_wp2_with (first | ((with_reducible refine gate_callee (f := 144) rfl ?_); refine goesLa (some 15) rfl Try.func144 #[.slice A0 l0.length c0, .agg #[.int .i64 x8_1, .int .i64 a1_0, .int .i64 a1_1, .int .i64 a1_2, .bool true]] rfl ?_; (with_reducible refine (impl_Statement_144.calls k1 _ _ l0 x8_1 a1_0 a1_1 a1_2 true true _ ?side1 ?side2 A7.out).mono ?_); (case side1 => exact cd (Kd.C_below HR0.out HB.out)); (case side2 => exact HC0.out); rintro e w12 ⟨rfl, hb⟩; refine ⟨_, rfl, ?_⟩; replace HO_5 := ak (Kd.R_below (rdl HO_5) hb); replace BK336 := ak (blk_below (blkd BK336) hb); replace HB := ak (below_step (belowg1 HB GE336) hb); (try clear hb); obtain ⟨hcz13_0, hcz13_1, hcz13_2, hfz13_0, hfz13_1, hfz13_2⟩ := box3 BK336) | (go_at_call 144; (with_reducible refine (impl_Statement_144.calls k1 _ _ l0 x8_1 a1_0 a1_1 a1_2 false true _ ?side1 ?side2 A9.out).mono ?_); (case side1 => exact cd (Kd.C_below HR0.out HB.out)); (case side2 => exact HC0.out); rintro e w14 ⟨rfl, hb⟩; replace HO_5 := ak (Kd.R_below (rdl HO_5) hb); replace BK336 := ak (blk_below (blkd BK336) hb); replace HB := ak (below_step (belowg1 HB GE336) hb); (try clear hb)))
      go_roundg k1
      case measure => have := HK1.out; omega
      case rel => exact ⟨(x5_1), (wrap64 (x8_1 + 1)), er, H', ⟨by have := HK1.out; omega⟩, ⟨rdl HO_5⟩, ⟨blkd BK336⟩, ⟨belowg1 HB GE336⟩⟩
     ·replace c10 := Bool.eq_false_iff.mpr c10
      subst c10
      have H1 : (if x5_1.length < 17592186044416 then (impl_refusedBy.l0 k1 l0 (x5_1 ++ [x8_1]) (wrap64 (x8_1 + 1)) a1_0 a1_1 a1_2) else (none)) = some r := by rw [if_neg (show ¬ (false = true) by decide)] at H; exact H
      clear H
      have H := H1
      clear H1; replace H := ifS H; obtain ⟨c15, H⟩ := H; have LMc15 := Aside0.mk c15; clear c15
      obtain ⟨y342, hy_⟩ : ∃ y_ : List Int, y_ = (x5_1 ++ [x8_1]) := ⟨_, rfl⟩
      replace H : (impl_refusedBy.l0 k1 l0 y342 (wrap64 (x8_1 + 1)) a1_0 a1_1 a1_2) = some r := yH
      have Ny342 := ak hy_; clear hy_
      have H' := Aside0.mk H
      clear H; obtain ⟨hcz16_0, hcz16_1, hcz16_2, hfz16_0, hfz16_1, hfz16_2⟩ := box3 BK336
      go_wp2_with (first | ((with_reducible refine gate_callee (f := 144) rfl ?_); refine goesLa (some 15) rfl Try.func144 #[.slice A0 l0.length c0, .agg #[.int .i64 x8_1, .int .i64 a1_0, .int .i64 a1_1, .int .i64 a1_2, .bool true]] rfl ?_; (with_reducible refine (impl_Statement_144.calls k1 _ _ l0 x8_1 a1_0 a1_1 a1_2 true true _ ?side1 ?side2 A7.out).mono ?_); (case side1 => exact cd (Kd.C_below HR0.out HB.out)); (case side2 => exact HC0.out); rintro e w17 ⟨rfl, hb⟩; refine ⟨_, rfl, ?_⟩; replace HO_5 := ak (Kd.R_below (rdl HO_5) hb); replace BK336 := ak (blk_below (blkd BK336) hb); replace HB := ak (below_step (belowg1 HB GE336) hb); (try clear hb); obtain ⟨hcz18_0, hcz18_1, hcz18_2, hfz18_0, hfz18_1, hfz18_2⟩ := box3 BK336) | (go_at_call 144; (with_reducible refine (impl_Statement_144.calls k1 _ _ l0 x8_1 a1_0 a1_1 a1_2 false false _ ?side1 ?side2 A9.out).mono ?_); (case side1 => exact cd (Kd.C_below HR0.out HB.out)); (case side2 => exact HC0.out); rintro e w19 ⟨rfl, hb⟩; replace HO_5 := ak (Kd.R_below (rdl HO_5) hb); replace BK336 := ak (blk_below (blkd BK336) hb); replace HB := ak (below_step (belowg1 HB GE336) hb); (try clear hb)) | ((with_reducible refine gate_builtin (b := .append) (xs := #[.tmp 24, .tmp 26]) rfl ?_); at_builtin; refine Kd.R_append (Kd.int .i64) (w0 := w) w.heap.size rfl (.tmp 24) (.tmp 26) 23 3 (.int .i64 0) 8 rfl Try.underlying23 info3 rfl (by decide) (by omega) u5 x5_1 x8_1 [.int .i64 x8_1] (fun _ => True) (fun _ => False) rfl rfl ?aP (fun _ hk => hk.elim) ?aF ?aO ?aB ?aS ?aL ?_; (case aP => exact rfl); (case aB => exact (belowg1 HB GE336)); (case aF => exact (fun _ _ => trivial)); (case aO => exact (rdl HO_5)); (case aS => exact (below_size (belowg1 HB GE336))); (case aL => have := LMc15.out; omega); intro v343 w20 ho hb hg hat; rw [← Ny342.out] at ho; replace BK336 := ak (blk_grown (blkd BK336) hg (Kd.R_ne HO_5.out BK336.out (by decide))); replace HB := ak (hb); have HO344 := ak (ho); clear HO_5; clear ho hb hg hat))
      go_roundg k1
      case measure => have := HK1.out; omega
      case rel => exact ⟨(y342), (wrap64 (x8_1 + 1)), er, H', ⟨by have := HK1.out; omega⟩, ⟨rdl HO344⟩, ⟨blkd BK336⟩, ⟨belowg1 HB GE336⟩⟩
    ·replace c8 := Bool.eq_false_iff.mpr c8
     subst c8
     have H1 : (impl_refusedBy.l0 k1 l0 x5_1 (wrap64 (x8_1 + 1)) a1_0 a1_1 a1_2) = some r := by rw [if_neg (show ¬ (false = true) by decide)] at H; exact H
     clear H
     have H := H1
     clear H1
     have H' := Aside0.mk H
     clear H; obtain ⟨hcz21_0, hcz21_1, hcz21_2, hfz21_0, hfz21_1, hfz21_2⟩ := box3 BK336
     go_wp2_with (first | ((with_reducible refine gate_callee (f := 144) rfl ?_); refine goesLa (some 15) rfl Try.func144 #[.slice A0 l0.length c0, .agg #[.int .i64 x8_1, .int .i64 a1_0, .int .i64 a1_1, .int .i64 a1_2, .bool true]] rfl ?_; (with_reducible refine (impl_Statement_144.calls k1 _ _ l0 x8_1 a1_0 a1_1 a1_2 true false _ ?side1 ?side2 A7.out).mono ?_); (case side1 => exact cd (Kd.C_below HR0.out HB.out)); (case side2 => exact HC0.out); rintro e w22 ⟨rfl, hb⟩; refine ⟨_, rfl, ?_⟩; replace HO_5 := ak (Kd.R_below (rdl HO_5) hb); replace BK336 := ak (blk_below (blkd BK336) hb); replace HB := ak (below_step (belowg1 HB GE336) hb); (try clear hb)))
     go_roundg k1
     case measure => have := HK1.out; omega
     case rel => exact ⟨(x5_1), (wrap64 (x8_1 + 1)), er, H', ⟨by have := HK1.out; omega⟩, ⟨rdl HO_5⟩, ⟨blkd BK336⟩, ⟨belowg1 HB GE336⟩⟩
   ·rw [if_neg c6] at H
    have c6b0 : decide (x8_1 < 7) = false := decide_eq_false c6
    clear c6
    obtain rfl := Option.some.inj H
    go_wp2
    go_ret
    exact ⟨_, er2, by (with_reducible repeat (first | apply Kd.R_alloc | apply Kd.R_drewN | apply Kd.R_drew)); exact HO_5.out, belowg1 HB GE336⟩

/-! ### impl_RefusedBy: function 60 -/
def impl_RefusedBy.f (k : Nat) (l0 : List (S91)) (a1_0 : Int) (a1_1 : Int) (a1_2 : Int) : Option (List Int × Bool) := (impl_areStatements.f k l0).bind fun t346 => (if t346 = true then ((impl_GoodClaim.f a1_0 a1_1 a1_2).bind fun t347 => (if t347 = true then ((impl_refusedBy.f k l0 a1_0 a1_1 a1_2).bind fun t348 => (some (t348, true))) else (some (([] : List Int), false)))) else (some (([] : List Int), false)))
theorem impl_RefusedBy.mono : ∀ a0 a1 a2 a3 k, LeO (impl_RefusedBy.f k a0 a1 a2 a3) (impl_RefusedBy.f (k + 1) a0 a1 a2 a3) := by
 intro a0 a1 a2 a3 k
 unfold impl_RefusedBy.f
 repeat' (first | (with_reducible first | exact impl_areStatements.mono _ _ | exact impl_refusedBy.mono _ _ _ _ _ | exact LeO.refl _ | exact LeO.none _ | refine LeO.ite ?_ ?_ | refine LeO.bind ?_ (fun _ => ?_)) | exact impl_areStatements.mono _ _ | exact impl_refusedBy.mono _ _ _ _ _ | exact LeO.none _ | refine LeO.ite ?_ ?_ | refine LeO.bind ?_ (fun _ => ?_))
set_option maxHeartbeats 8000000 in
set_option maxRecDepth 100000 in
theorem impl_RefusedBy.calls (k : Nat) (A0 : Option Addr) (c0 : Nat) (l0 : List (S91)) (a1_0 : Int) (a1_1 : Int) (a1_2 : Int) (r1 : List Int) (r2 : Bool) (w : World) (hr0 : Kd.C k91 w A0 l0.length l0) (hc0 : l0.length ≤ c0) (h : impl_RefusedBy.f k l0 a1_0 a1_1 a1_2 = some (r1, r2)) :
  Calls Try.prog 60 #[.slice A0 l0.length c0, .agg #[.int .i64 a1_0, .int .i64 a1_1, .int .i64 a1_2]] w fun e w' => ∃ v0_ : Value, e = .returned (.tuple #[v0_, .bool r2]) ∧ Kd.R (Kd.int .i64) 3 w' w.heap.size (fun _ => True) v0_ r1 ∧ Below w.heap.size w w' := by
 have hu85 := Try.underlying85
 have HR0 := Aside0.mk hr0; have HC0 := Aside0.mk hc0; clear hr0 hc0
 have HB := Aside0.mk (Below.refl w.heap.size w)
 have H : ((impl_areStatements.f k l0).bind fun t346 => (if t346 = true then ((impl_GoodClaim.f a1_0 a1_1 a1_2).bind fun t347 => (if t347 = true then ((impl_refusedBy.f k l0 a1_0 a1_1 a1_2).bind fun t348 => (some (t348, true))) else (some (([] : List Int), false)))) else (some (([] : List Int), false)))) = some (r1, r2) := h
 clear h; replace H := bS H; obtain ⟨t346, A3, H⟩ := H
 replace H : (if t346 = true then ((impl_GoodClaim.f a1_0 a1_1 a1_2).bind fun t347 => (if t347 = true then ((impl_refusedBy.f k l0 a1_0 a1_1 a1_2).bind fun t348 => (some (t348, true))) else (some (([] : List Int), false)))) else (some (([] : List Int), false))) = some (r1, r2) := H
 by_cases c4 : t346 = true
 ·subst c4
  have H1 : ((impl_GoodClaim.f a1_0 a1_1 a1_2).bind fun t347 => (if t347 = true then ((impl_refusedBy.f k l0 a1_0 a1_1 a1_2).bind fun t348 => (some (t348, true))) else (some (([] : List Int), false)))) = some (r1, r2) := by rw [if_pos rfl] at H; exact H
  clear H
  have H := H1
  clear H1; replace H := bS H; obtain ⟨t347, A5, H⟩ := H
  replace H : (if t347 = true then ((impl_refusedBy.f k l0 a1_0 a1_1 a1_2).bind fun t348 => (some (t348, true))) else (some (([] : List Int), false))) = some (r1, r2) := H
  by_cases c6 : t347 = true
  ·subst c6
   have H1 : ((impl_refusedBy.f k l0 a1_0 a1_1 a1_2).bind fun t348 => (some (t348, true))) = some (r1, r2) := by rw [if_pos rfl] at H; exact H
   clear H
   have H := H1
   clear H1; replace H := bS H; obtain ⟨t348, A7, H⟩ := H
   replace H : (some (t348, true)) = some (r1, r2) := H
   simp only [Option.some.injEq, Prod.mk.injEq] at H
   obtain ⟨rfl, rfl⟩ := H
   go_enter Try.func60, Try.ntmps60
   go_wp2_with (first | ((with_reducible refine gate_dst (N := 3) rfl ?_); refine boxev 3 #[.int .i64 a1_0, .int .i64 a1_1, .int .i64 a1_2] 85 ?_; intro gb345 hg w8 hbox hb; have BK345 := ak (hbox); have GW345 := ak (hgl hg (belowd HB)); have GE345 := ak (hgl hg (belowd HB)); replace HB := ak (below_step (belowd HB) hb); clear hb hbox hg) | ((with_reducible refine gate_callee (f := 138) rfl ?_); refine goesLa (some 7) rfl Try.func138 #[.slice A0 l0.length c0] rfl ?_; (with_reducible refine (impl_areStatements.calls k _ _ l0 true _ ?side1 ?side2 A3.out).mono ?_); (case side1 => exact cd (Kd.C_below HR0.out HB.out)); (case side2 => exact HC0.out); rintro e w9 ⟨rfl, hb⟩; refine ⟨_, rfl, ?_⟩; replace BK345 := ak (blk_below (blkd BK345) hb); replace HB := ak (below_step (belowg1 HB GE345) hb); (try clear hb); obtain ⟨hcz10_0, hcz10_1, hcz10_2, hfz10_0, hfz10_1, hfz10_2⟩ := box3 BK345) | (go_at_call 145; (with_reducible refine (impl_GoodClaim.calls a1_0 a1_1 a1_2 true _ A5.out).mono ?_); rintro e w11 ⟨rfl, hb⟩; replace BK345 := ak (blk_below (blkd BK345) hb); replace HB := ak (below_step (belowg1 HB GE345) hb); (try clear hb); obtain ⟨hcz12_0, hcz12_1, hcz12_2, hfz12_0, hfz12_1, hfz12_2⟩ := box3 BK345) | ((with_reducible refine gate_callee (f := 146) rfl ?_); refine goesLa (some 16) rfl Try.func146 #[.slice A0 l0.length c0, .agg #[.int .i64 a1_0, .int .i64 a1_1, .int .i64 a1_2]] rfl ?_; (with_reducible refine (impl_refusedBy.calls k _ _ l0 a1_0 a1_1 a1_2 t348 _ ?side1 ?side2 A7.out).mono ?_); (case side1 => exact cd (Kd.C_below HR0.out HB.out)); (case side2 => exact HC0.out); rintro e w13 ⟨v349, rfl, ho0, hb⟩; refine ⟨_, rfl, ?_⟩; have HO350 := ak (Kd.R_lower ho0 (below_size (belowg1 HB GE345))); replace BK345 := ak (blk_below (blkd BK345) hb); replace HB := ak (below_step (belowg1 HB GE345) hb); (try clear hb); (try clear ho0)))
   go_ret2
   exact ⟨_, er2, by (with_reducible repeat (first | apply Kd.R_alloc | apply Kd.R_drewN | apply Kd.R_drew)); exact HO350.out, belowg1 HB GE345⟩
  ·replace c6 := Bool.eq_false_iff.mpr c6
   subst c6
   have H1 : (some (([] : List Int), false)) = some (r1, r2) := by rw [if_neg (show ¬ (false = true) by decide)] at H; exact H
   clear H
   have H := H1
   clear H1
   simp only [Option.some.injEq, Prod.mk.injEq] at H
   obtain ⟨rfl, rfl⟩ := H
   go_enter Try.func60, Try.ntmps60
   go_wp2_with (first | ((with_reducible refine gate_dst (N := 3) rfl ?_); refine boxev 3 #[.int .i64 a1_0, .int .i64 a1_1, .int .i64 a1_2] 85 ?_; intro gb345 hg w14 hbox hb; have BK345 := ak (hbox); have GW345 := ak (hgl hg (belowd HB)); have GE345 := ak (hgl hg (belowd HB)); replace HB := ak (below_step (belowd HB) hb); clear hb hbox hg) | ((with_reducible refine gate_callee (f := 138) rfl ?_); refine goesLa (some 7) rfl Try.func138 #[.slice A0 l0.length c0] rfl ?_; (with_reducible refine (impl_areStatements.calls k _ _ l0 true _ ?side1 ?side2 A3.out).mono ?_); (case side1 => exact cd (Kd.C_below HR0.out HB.out)); (case side2 => exact HC0.out); rintro e w15 ⟨rfl, hb⟩; refine ⟨_, rfl, ?_⟩; replace BK345 := ak (blk_below (blkd BK345) hb); replace HB := ak (below_step (belowg1 HB GE345) hb); (try clear hb); obtain ⟨hcz16_0, hcz16_1, hcz16_2, hfz16_0, hfz16_1, hfz16_2⟩ := box3 BK345) | (go_at_call 145; (with_reducible refine (impl_GoodClaim.calls a1_0 a1_1 a1_2 false _ A5.out).mono ?_); rintro e w17 ⟨rfl, hb⟩; replace BK345 := ak (blk_below (blkd BK345) hb); replace HB := ak (below_step (belowg1 HB GE345) hb); (try clear hb)))
   go_ret2
   exact ⟨_, er2, by first | exact Kd.R_nil _ _ _ _ _ | exact Kd.N_nil _ _ _ _ _ | exact Kd.V_nil _ _ _ _ _ | exact Kd.Q_nil _ _ _ _ _ | exact Kd.S_nil _ _ _ _ _, belowg1 HB GE345⟩
 ·replace c4 := Bool.eq_false_iff.mpr c4
  subst c4
  have H1 : (some (([] : List Int), false)) = some (r1, r2) := by rw [if_neg (show ¬ (false = true) by decide)] at H; exact H
  clear H
  have H := H1
  clear H1
  simp only [Option.some.injEq, Prod.mk.injEq] at H
  obtain ⟨rfl, rfl⟩ := H
  go_enter Try.func60, Try.ntmps60
  go_wp2_with (first | ((with_reducible refine gate_dst (N := 3) rfl ?_); refine boxev 3 #[.int .i64 a1_0, .int .i64 a1_1, .int .i64 a1_2] 85 ?_; intro gb345 hg w18 hbox hb; have BK345 := ak (hbox); have GW345 := ak (hgl hg (belowd HB)); have GE345 := ak (hgl hg (belowd HB)); replace HB := ak (below_step (belowd HB) hb); clear hb hbox hg) | ((with_reducible refine gate_callee (f := 138) rfl ?_); refine goesLa (some 7) rfl Try.func138 #[.slice A0 l0.length c0] rfl ?_; (with_reducible refine (impl_areStatements.calls k _ _ l0 false _ ?side1 ?side2 A3.out).mono ?_); (case side1 => exact cd (Kd.C_below HR0.out HB.out)); (case side2 => exact HC0.out); rintro e w19 ⟨rfl, hb⟩; refine ⟨_, rfl, ?_⟩; replace BK345 := ak (blk_below (blkd BK345) hb); replace HB := ak (below_step (belowg1 HB GE345) hb); (try clear hb)))
  go_ret2
  exact ⟨_, er2, by first | exact Kd.R_nil _ _ _ _ _ | exact Kd.N_nil _ _ _ _ _ | exact Kd.V_nil _ _ _ _ _ | exact Kd.Q_nil _ _ _ _ _ | exact Kd.S_nil _ _ _ _ _, belowg1 HB GE345⟩

/-! ### laws_sameInts: function 61 -/
def laws_sameInts.l0 : Nat → List Int → List Int → Int → Int → Option (Bool)
  | 0, _, _, _, _ => none
  | k + 1, x0, x1, x12, x13 => if x13 < x12 then (if 0 ≤ x13 then (if x13 < (x0.length : Int) then (if x13 < (x1.length : Int) then (if (rd x0 x13) = (rd x1 x13) then (laws_sameInts.l0 k x0 x1 x12 (wrap64 (x13 + 1))) else (some false)) else (none)) else (none)) else (none)) else (some true)
def laws_sameInts.f (k : Nat) (l0 : List Int) (l1 : List Int) : Option (Bool) := if (l0.length : Int) = (l1.length : Int) then (laws_sameInts.l0 k l0 l1 (l0.length : Int) 0) else (some false)
theorem laws_sameInts.mono_l : ∀ k, (∀ y0 y1 y2 y3, LeO (laws_sameInts.l0 k y0 y1 y2 y3) (laws_sameInts.l0 (k + 1) y0 y1 y2 y3))
 | 0 => fun _ _ _ _ r h => by simp [laws_sameInts.l0] at h
 | k + 1 => by
  have ih0 := laws_sameInts.mono_l k
  ·intro y0 y1 y2 y3
   unfold laws_sameInts.l0
   repeat' (first | (with_reducible first | exact ih0 _ _ _ _ | exact LeO.refl _ | exact LeO.none _ | refine LeO.ite ?_ ?_ | refine LeO.bind ?_ (fun _ => ?_)) | exact ih0 _ _ _ _ | exact LeO.none _ | refine LeO.ite ?_ ?_ | refine LeO.bind ?_ (fun _ => ?_))
theorem laws_sameInts.mono : ∀ a0 a1 k, LeO (laws_sameInts.f k a0 a1) (laws_sameInts.f (k + 1) a0 a1) := by
 intro a0 a1 k
 have ih0 := laws_sameInts.mono_l k
 unfold laws_sameInts.f
 repeat' (first | (with_reducible first | exact ih0 _ _ _ _ | exact LeO.refl _ | exact LeO.none _ | refine LeO.ite ?_ ?_ | refine LeO.bind ?_ (fun _ => ?_)) | exact ih0 _ _ _ _ | exact LeO.none _ | refine LeO.ite ?_ ?_ | refine LeO.bind ?_ (fun _ => ?_))
set_option maxHeartbeats 8000000 in
set_option maxRecDepth 100000 in
theorem laws_sameInts.calls (k : Nat) (A0 : Option Addr) (c0 : Nat) (l0 : List Int) (A1 : Option Addr) (c1 : Nat) (l1 : List Int) (r : Bool) (w : World) (hr0 : Kd.C (Kd.int .i64) w A0 l0.length l0) (hc0 : l0.length ≤ c0) (hr1 : Kd.C (Kd.int .i64) w A1 l1.length l1) (hc1 : l1.length ≤ c1) (h : laws_sameInts.f k l0 l1 = some r) :
  Calls Try.prog 61 #[.slice A0 l0.length c0, .slice A1 l1.length c1] w fun e w' => e = .returned (.bool r) ∧ Drawn0 w w' := by
 have HR0 := Aside0.mk hr0; have HC0 := Aside0.mk hc0; clear hr0 hc0; have HR1 := Aside0.mk hr1; have HC1 := Aside0.mk hc1; clear hr1 hc1
 have H : (if (l0.length : Int) = (l1.length : Int) then (laws_sameInts.l0 k l0 l1 (l0.length : Int) 0) else (some false)) = some r := h
 clear h
 by_cases c3 : (l0.length : Int) = (l1.length : Int)
 ·rw [if_pos c3] at H
  have c3b0 : ((l0.length : Int) == (l1.length : Int)) = true := beq_iff_eq.mpr c3
  have c3b1 : ((l0.length : Int) != (l1.length : Int)) = false := bne_eq_false_iff_eq.mpr c3
  have c3b2 : (l0.length == l1.length) = true := by first | simpa using c3 | (simp at c3 ⊢; omega)
  clear c3
  have H' := Aside0.mk H
  clear H
  go_enter Try.func61, Try.ntmps61
  go_wp2
  repeat (go_quiet (fail); try go_wp2)
  go_loopg [13] k (fun kq v13 w' => ∃ (x13_1 : Int), v13 = .int .i64 x13_1 ∧ Aside0 (laws_sameInts.l0 kq l0 l1 (l0.length : Int) x13_1 = some r) ∧ Aside0 (kq ≤ k) ∧ Drawn0 w w')
  case atStart => exact ⟨(0), er, H', ⟨Nat.le_refl _⟩, drw⟩
  case round =>
   clear H'
   (try clear c1); (try clear c3b0); (try clear c3b1); (try clear c3b2)
   obtain ⟨x13_1, rfl, HA, HK1, ⟨m1, rfl⟩⟩ := hrel
   cases gk with
   | zero => exact absurd HA.out (by simp [laws_sameInts.l0])
   | succ k1 =>
    have H := HA.out; clear HA
    simp only [laws_sameInts.l0] at H
    by_cases c4 : x13_1 < (l0.length : Int)
    ·rw [if_pos c4] at H
     have c4b0 : decide (x13_1 < (l0.length : Int)) = true := decide_eq_true c4
     clear c4; replace H := ifS H; obtain ⟨c5, H⟩ := H; have c5b0 := decide_eq_true c5; clear c5; replace H := ifS H; obtain ⟨c6, H⟩ := H; have c6b0 := decide_eq_true c6; clear c6; replace H := ifS H; obtain ⟨c7, H⟩ := H; have c7b0 := decide_eq_true c7; clear c7
     by_cases c8 : (rd l0 x13_1) = (rd l1 x13_1)
     ·rw [if_pos c8] at H
      have c8b0 : ((rd l0 x13_1) == (rd l1 x13_1)) = true := beq_iff_eq.mpr c8
      have c8b1 : ((rd l0 x13_1) != (rd l1 x13_1)) = false := bne_eq_false_iff_eq.mpr c8
      clear c8
      have H' := Aside0.mk H
      clear H
      have p351 : 0 ≤ (x13_1 : Int) := da
      have q351 : x13_1 < (l0.length : Int) := da
      obtain ⟨ad351, e351, hx351_0⟩ := Kd.at_int HR0.out x13_1 p351 q351
      cases e351
      replace p351 := eq_true p351; replace q351 := eq_true q351
      have p352 : 0 ≤ (x13_1 : Int) := da
      have q352 : x13_1 < (l1.length : Int) := da
      obtain ⟨ad352, e352, hx352_0⟩ := Kd.at_int HR1.out x13_1 p352 q352
      cases e352
      replace p352 := eq_true p352; replace q352 := eq_true q352; go_wp2
      repeat (go_quiet (fail); try go_wp2)
      go_roundg k1
      case measure => have := HK1.out; omega
      case rel => exact ⟨(wrap64 (x13_1 + 1)), er, H', ⟨by have := HK1.out; omega⟩, drw⟩
     ·rw [if_neg c8] at H
      have c8b0 : ((rd l0 x13_1) == (rd l1 x13_1)) = false := beq_eq_false_iff_ne.mpr c8
      have c8b1 : ((rd l0 x13_1) != (rd l1 x13_1)) = true := bne_iff_ne.mpr c8
      obtain rfl := Option.some.inj H
      have p351 : 0 ≤ (x13_1 : Int) := da
      have q351 : x13_1 < (l0.length : Int) := da
      obtain ⟨ad351, e351, hx351_0⟩ := Kd.at_int HR0.out x13_1 p351 q351
      cases e351
      replace p351 := eq_true p351; replace q351 := eq_true q351
      have p352 : 0 ≤ (x13_1 : Int) := da
      have q352 : x13_1 < (l1.length : Int) := da
      obtain ⟨ad352, e352, hx352_0⟩ := Kd.at_int HR1.out x13_1 p352 q352
      cases e352
      replace p352 := eq_true p352; replace q352 := eq_true q352; go_wp2
      repeat (go_quiet (fail); try go_wp2)
      go_ret
      exact ⟨er, drw⟩
    ·rw [if_neg c4] at H
     have c4b0 : decide (x13_1 < (l0.length : Int)) = false := decide_eq_false c4
     clear c4
     obtain rfl := Option.some.inj H
     go_wp2
     repeat (go_quiet (fail); try go_wp2)
     go_ret
     exact ⟨er, drw⟩
 ·rw [if_neg c3] at H
  have c3b0 : ((l0.length : Int) == (l1.length : Int)) = false := beq_eq_false_iff_ne.mpr c3
  have c3b1 : ((l0.length : Int) != (l1.length : Int)) = true := bne_iff_ne.mpr c3
  have c3b2 : (l0.length == l1.length) = false := by first | simpa using c3 | (simp at c3 ⊢; omega)
  obtain rfl := Option.some.inj H
  go_enter Try.func61, Try.ntmps61
  go_wp2
  repeat (go_quiet (fail); try go_wp2)
  go_ret
  exact ⟨er, drw⟩

/-! ### spec_DrawClaimsIn: function 62 -/
def spec_DrawClaimsIn.f (k : Nat) (l0 : List Int) : Option ((List (S91))) := (spec_l1Cur_statements.f k l0 0 0).bind fun bt354 => (some bt354.1)
theorem spec_DrawClaimsIn.mono : ∀ a0 k, LeO (spec_DrawClaimsIn.f k a0) (spec_DrawClaimsIn.f (k + 1) a0) := by
 intro a0 k
 unfold spec_DrawClaimsIn.f
 repeat' (first | (with_reducible first | exact spec_l1Cur_statements.mono _ _ _ _ | exact LeO.refl _ | exact LeO.none _ | refine LeO.ite ?_ ?_ | refine LeO.bind ?_ (fun _ => ?_)) | exact spec_l1Cur_statements.mono _ _ _ _ | exact LeO.none _ | refine LeO.ite ?_ ?_ | refine LeO.bind ?_ (fun _ => ?_))
set_option maxHeartbeats 8000000 in
set_option maxRecDepth 100000 in
theorem spec_DrawClaimsIn.calls (k : Nat) (A0 : Option Addr) (c0 : Nat) (l0 : List Int) (r : List (S91)) (w : World) (hr0 : Kd.C (Kd.int .u8) w A0 l0.length l0) (hc0 : l0.length ≤ c0) (h : spec_DrawClaimsIn.f k l0 = some r) :
  Calls Try.prog 62 #[.slice A0 l0.length c0] w fun e w' => ∃ v0_ : Value, e = .returned (v0_) ∧ Kd.R k91 91 w' w.heap.size (fun _ => True) v0_ r ∧ Below w.heap.size w w' := by
 have hu151 := Try.underlying151
 have HR0 := Aside0.mk hr0; have HC0 := Aside0.mk hc0; clear hr0 hc0
 have HB := Aside0.mk (Below.refl w.heap.size w)
 have H : ((spec_l1Cur_statements.f k l0 0 0).bind fun bt354 => (some bt354.1)) = some r := h
 clear h; replace H := bS H; obtain ⟨⟨t354, t357, t358⟩, A2, H⟩ := H
 replace H : (some t354) = some r := H
 obtain rfl := Option.some.inj H
 go_enter Try.func62, Try.ntmps62
 go_wp2_with (first | ((with_reducible refine gate_dst (N := 6) rfl ?_); refine boxev 6 #[.slice A0 l0.length c0, .int .i64 0, .int .u64 0] 151 ?_; intro gb353 hg w3 hbox hb; have HI353 := ak ((show IsS151 w w3 gb353 l0 0 0 from IsS151.of_blk hbox (by rw [hg]; exact (below_size (belowd HB))) HR0.out)); replace HB := ak (below_step (belowd HB) hb); clear hb hbox hg) | ((with_reducible refine gate_callee (f := 142) rfl ?_); refine goesLa (some 8) rfl Try.func142 #[.pointer (some ⟨gb353, 0, none⟩)] rfl ?_; (with_reducible refine (spec_l1Cur_statements.calls k gb353 l0 0 0 t354 t357 t358 w _ ?side1 ?side2 A2.out).mono ?_); (case side1 => repeat (first | (with_reducible first | exact HI353.out | apply IsS151.alloc | apply IsS151.drewN | apply IsS151.drew | apply IsS151.set_1 | apply IsS151.set_2) | exact HI353.out)); (case side2 => repeat (first | (with_reducible first | exact HB.out | apply below_alloc | apply pw_below_drewN | apply below_drew1 | refine below_set ?_ (IsS151.ge HI353.out)) | exact HB.out)); rintro e w4 ⟨v355, rfl, ho0, hi, hb, hk⟩; refine ⟨_, rfl, ?_⟩; have HO356 := ak (Kd.R_lower ho0 (below_size (by repeat (first | (with_reducible first | exact HB.out | apply below_alloc | apply pw_below_drewN | apply below_drew1 | refine below_set ?_ (IsS151.ge HI353.out)) | exact HB.out)))); replace HB := ak (hb); replace HI353 := ak (hi); (try clear hb); (try clear hk); (try clear hi); (try clear ho0)))
 go_ret
 exact ⟨_, er2, by (with_reducible repeat (first | apply Kd.R_alloc | apply Kd.R_drewN | apply Kd.R_drew)); exact HO356.out, by repeat (first | (with_reducible first | exact HB.out | apply below_alloc | apply pw_below_drewN | apply below_drew1 | refine below_set ?_ (IsS151.ge HI353.out)) | exact HB.out)⟩

/-! ### spec_DrawStateFor: function 63 -/
def spec_DrawStateFor.f (l0 : List Int) : Option (Int × Int × Int × Int × Bool) := (spec_l1Cur_pick.f l0 0 0 9).bind fun bt361 => ((spec_l1Cur_claim.f l0 bt361.2.1 bt361.2.2).bind fun bt364 => ((spec_l1Cur_one.f l0 bt364.2.2.2.1 bt364.2.2.2.2 2).bind fun bt369 => (some (wrap64 (bt361.1 - 1), bt364.1, bt364.2.1, bt364.2.2.1, bt369.1))))
set_option maxHeartbeats 8000000 in
set_option maxRecDepth 100000 in
theorem spec_DrawStateFor.calls (A0 : Option Addr) (c0 : Nat) (l0 : List Int) (r1 : Int) (r2 : Int) (r3 : Int) (r4 : Int) (r5 : Bool) (w : World) (hr0 : Kd.C (Kd.int .u8) w A0 l0.length l0) (hc0 : l0.length ≤ c0) (h : spec_DrawStateFor.f l0 = some (r1, r2, r3, r4, r5)) :
  Calls Try.prog 63 #[.slice A0 l0.length c0] w fun e w' => e = .returned (.tuple #[.int .i64 r1, .agg #[.int .i64 r2, .int .i64 r3, .int .i64 r4], .bool r5]) ∧ Below w.heap.size w w' := by
 have hu85 := Try.underlying85
 have hu151 := Try.underlying151
 have HR0 := Aside0.mk hr0; have HC0 := Aside0.mk hc0; clear hr0 hc0
 have HB := Aside0.mk (Below.refl w.heap.size w)
 have H : ((spec_l1Cur_pick.f l0 0 0 9).bind fun bt361 => ((spec_l1Cur_claim.f l0 bt361.2.1 bt361.2.2).bind fun bt364 => ((spec_l1Cur_one.f l0 bt364.2.2.2.1 bt364.2.2.2.2 2).bind fun bt369 => (some (wrap64 (bt361.1 - 1), bt364.1, bt364.2.1, bt364.2.2.1, bt369.1))))) = some (r1, r2, r3, r4, r5) := h
 clear h; replace H := bS H; obtain ⟨⟨t361, t362, t363⟩, A2, H⟩ := H
 replace H : ((spec_l1Cur_claim.f l0 t362 t363).bind fun bt364 => ((spec_l1Cur_one.f l0 bt364.2.2.2.1 bt364.2.2.2.2 2).bind fun bt369 => (some (wrap64 (t361 - 1), bt364.1, bt364.2.1, bt364.2.2.1, bt369.1)))) = some (r1, r2, r3, r4, r5) := H
 replace H := bS H; obtain ⟨⟨t364, t365, t366, t367, t368⟩, A3, H⟩ := H
 replace H : ((spec_l1Cur_one.f l0 t367 t368 2).bind fun bt369 => (some (wrap64 (t361 - 1), t364, t365, t366, bt369.1))) = some (r1, r2, r3, r4, r5) := H
 replace H := bS H; obtain ⟨⟨t369, t370, t371⟩, A4, H⟩ := H
 replace H : (some (wrap64 (t361 - 1), t364, t365, t366, t369)) = some (r1, r2, r3, r4, r5) := H
 simp only [Option.some.injEq, Prod.mk.injEq] at H
 obtain ⟨rfl, rfl, rfl, rfl, rfl⟩ := H
 go_enter Try.func63, Try.ntmps63
 go_wp2_with (first | ((with_reducible refine gate_dst (N := 3) rfl ?_); refine boxev 3 #[.int .i64 0, .int .i64 0, .int .i64 0] 85 ?_; intro gb359 hg w5 hbox hb; have BK359 := ak (hbox); have GW359 := ak (hgl hg (belowd HB)); have GE359 := ak (hgl hg (belowd HB)); replace HB := ak (below_step (belowd HB) hb); clear hb hbox hg) | ((with_reducible refine gate_dst (N := 8) rfl ?_); refine boxev 8 #[.slice A0 l0.length c0, .int .i64 0, .int .u64 0] 151 ?_; intro gb360 hg w6 hbox hb; have HI360 := ak ((show IsS151 w w6 gb360 l0 0 0 from IsS151.of_blk hbox (by rw [hg]; exact (below_size (belowg1 HB GE359))) HR0.out)); replace HB := ak (below_step (belowg1 HB GE359) hb); have NB359_360 := ak ((by rw [hg]; exact Nat.ne_of_lt (blk_lt (blkd BK359)) : gb359 ≠ gb360)); have NB360_359 := ak ((by rw [hg]; exact Nat.ne_of_gt (blk_lt (blkd BK359)) : gb360 ≠ gb359)); replace BK359 := ak (blk_below (blkd BK359) hb); clear hb hbox hg) | ((with_reducible refine gate_callee (f := 147) rfl ?_); refine goesLa (some 10) rfl Try.func147 #[.pointer (some ⟨gb360, 0, none⟩), .int .i64 9] rfl ?_; (with_reducible refine (spec_l1Cur_pick.calls gb360 l0 0 0 9 t361 t362 t363 w _ ?side1 ?side2 A2.out).mono ?_); (case side1 => repeat (first | (with_reducible first | exact HI360.out | apply IsS151.alloc | apply IsS151.drewN | apply IsS151.drew | apply IsS151.set_1 | apply IsS151.set_2 | refine IsS151.far ?_ NB360_359.out _) | exact HI360.out)); (case side2 => repeat (first | (with_reducible first | exact HB.out | apply below_alloc | apply pw_below_drewN | apply below_drew1 | refine below_set ?_ (IsS151.ge HI360.out) | refine below_set ?_ GE359.out) | exact HB.out)); rintro e w7 ⟨rfl, hi, hb, hk⟩; refine ⟨_, rfl, ?_⟩; replace BK359 := ak (KeepBut.blk hk (g' := gb359) (blkd BK359) NB359_360.out (by simp)); replace HB := ak (hb); replace HI360 := ak (hi); (try clear hb); (try clear hk); (try clear hi)) | ((with_reducible refine gate_callee (f := 148) rfl ?_); refine goesLa (some 13) rfl Try.func148 #[.pointer (some ⟨gb360, 0, none⟩)] rfl ?_; (with_reducible refine (spec_l1Cur_claim.calls gb360 l0 t362 t363 t364 t365 t366 t367 t368 w _ ?side1 ?side2 A3.out).mono ?_); (case side1 => repeat (first | (with_reducible first | exact HI360.out | apply IsS151.alloc | apply IsS151.drewN | apply IsS151.drew | apply IsS151.set_1 | apply IsS151.set_2 | refine IsS151.far ?_ NB360_359.out _) | exact HI360.out)); (case side2 => repeat (first | (with_reducible first | exact HB.out | apply below_alloc | apply pw_below_drewN | apply below_drew1 | refine below_set ?_ (IsS151.ge HI360.out) | refine below_set ?_ GE359.out) | exact HB.out)); rintro e w8 ⟨rfl, hi, hb, hk⟩; refine ⟨_, rfl, ?_⟩; replace BK359 := ak (KeepBut.blk hk (g' := gb359) (blkd BK359) NB359_360.out (by simp)); replace HB := ak (hb); replace HI360 := ak (hi); (try clear hb); (try clear hk); (try clear hi)) | ((with_reducible refine gate_callee (f := 149) rfl ?_); refine goesLa (some 15) rfl Try.func149 #[.pointer (some ⟨gb360, 0, none⟩), .int .i64 2] rfl ?_; (with_reducible refine (spec_l1Cur_one.calls gb360 l0 t367 t368 2 t369 t370 t371 w _ ?side1 ?side2 A4.out).mono ?_); (case side1 => repeat (first | (with_reducible first | exact HI360.out | apply IsS151.alloc | apply IsS151.drewN | apply IsS151.drew | apply IsS151.set_1 | apply IsS151.set_2 | refine IsS151.far ?_ NB360_359.out _) | exact HI360.out)); (case side2 => repeat (first | (with_reducible first | exact HB.out | apply below_alloc | apply pw_below_drewN | apply below_drew1 | refine below_set ?_ (IsS151.ge HI360.out) | refine below_set ?_ GE359.out) | exact HB.out)); rintro e w9 ⟨rfl, hi, hb, hk⟩; refine ⟨_, rfl, ?_⟩; replace BK359 := ak (KeepBut.blk hk (g' := gb359) (blkd BK359) NB359_360.out (by simp)); replace HB := ak (hb); replace HI360 := ak (hi); (try clear hb); (try clear hk); (try clear hi); have hnb10 := NB359_360.out; have hnc10 := NB360_359.out; obtain ⟨hcz11_0, hcz11_1, hcz11_2, hfz11_0, hfz11_1, hfz11_2⟩ := box3 BK359))
 refine bodyPost_ret (results_list (rs := [.tmp 2, .cell 3 85, .tmp 4]) rfl (by simp) (.tmp (.cell gb359 85 #[.int .i64 t364, .int .i64 t365, .int .i64 t366] (0, 0) _ rfl (by (with_reducible repeat (first | refine blk_drewN ?_ _ | refine blk_drew ?_ | refine blk_alloc ?_ _)); refine blk_put (cs := #[.int .i64 t364, .int .i64 t365, .int .i64 0]) ?_ 2 _ rfl; (with_reducible repeat (first | refine blk_drewN ?_ _ | refine blk_drew ?_ | refine blk_alloc ?_ _)); refine blk_put (cs := #[.int .i64 t364, .int .i64 0, .int .i64 0]) ?_ 1 _ rfl; (with_reducible repeat (first | refine blk_drewN ?_ _ | refine blk_drew ?_ | refine blk_alloc ?_ _)); refine blk_put (cs := #[.int .i64 0, .int .i64 0, .int .i64 0]) ?_ 0 _ rfl; (with_reducible repeat (first | refine blk_drewN ?_ _ | refine blk_drew ?_ | refine blk_alloc ?_ _)); exact BK359.out) Try.underlying85 rfl (by kernel_rfl) (.tmp .nil)))) rfl ?_
 exact ⟨er2, by repeat (first | (with_reducible first | exact HB.out | apply below_alloc | apply pw_below_drewN | apply below_drew1 | refine below_set ?_ (IsS151.ge HI360.out) | refine below_set ?_ GE359.out) | exact HB.out)⟩

/-! ### impl_StateFor: function 64 -/
def impl_StateFor.f (a0 : Int) (a1_0 : Int) (a1_1 : Int) (a1_2 : Int) (a2 : Bool) : Option (Int × Int × Int × Int × Bool × Bool) := (impl_isStatement.f a0 a1_0 a1_1 a1_2 a2).bind fun t375 => (if t375 = true then (some (a0, a1_0, a1_1, a1_2, a2, true)) else (some (0, 0, 0, 0, false, false)))
set_option maxHeartbeats 8000000 in
set_option maxRecDepth 100000 in
theorem impl_StateFor.calls (a0 : Int) (a1_0 : Int) (a1_1 : Int) (a1_2 : Int) (a2 : Bool) (r1 : Int) (r2 : Int) (r3 : Int) (r4 : Int) (r5 : Bool) (r6 : Bool) (w : World) (h : impl_StateFor.f a0 a1_0 a1_1 a1_2 a2 = some (r1, r2, r3, r4, r5, r6)) :
  Calls Try.prog 64 #[.int .i64 a0, .agg #[.int .i64 a1_0, .int .i64 a1_1, .int .i64 a1_2], .bool a2] w fun e w' => e = .returned (.tuple #[.agg #[.int .i64 r1, .int .i64 r2, .int .i64 r3, .int .i64 r4, .bool r5], .bool r6]) ∧ Below w.heap.size w w' := by
 have hu85 := Try.underlying85
 have hu91 := Try.underlying91
 have HB := Aside0.mk (Below.refl w.heap.size w)
 have H : ((impl_isStatement.f a0 a1_0 a1_1 a1_2 a2).bind fun t375 => (if t375 = true then (some (a0, a1_0, a1_1, a1_2, a2, true)) else (some (0, 0, 0, 0, false, false)))) = some (r1, r2, r3, r4, r5, r6) := h
 clear h; replace H := bS H; obtain ⟨t375, A4, H⟩ := H
 replace H : (if t375 = true then (some (a0, a1_0, a1_1, a1_2, a2, true)) else (some (0, 0, 0, 0, false, false))) = some (r1, r2, r3, r4, r5, r6) := H
 by_cases c5 : t375 = true
 ·subst c5
  have H1 : (some (a0, a1_0, a1_1, a1_2, a2, true)) = some (r1, r2, r3, r4, r5, r6) := by rw [if_pos rfl] at H; exact H
  clear H
  have H := H1
  clear H1
  simp only [Option.some.injEq, Prod.mk.injEq] at H
  obtain ⟨rfl, rfl, rfl, rfl, rfl, rfl⟩ := H
  go_enter Try.func64, Try.ntmps64
  go_wp2_with (first | ((with_reducible refine gate_dst (N := 4) rfl ?_); refine boxev 4 #[.int .i64 a1_0, .int .i64 a1_1, .int .i64 a1_2] 85 ?_; intro gb372 hg w6 hbox hb; have BK372 := ak (hbox); have GW372 := ak (hgl hg (belowd HB)); have GE372 := ak (hgl hg (belowd HB)); replace HB := ak (below_step (belowd HB) hb); clear hb hbox hg) | ((with_reducible refine gate_dst (N := 6) rfl ?_); refine boxev 6 #[.int .i64 0, .int .i64 0, .int .i64 0, .int .i64 0, .bool false] 91 ?_; intro gb373 hg w7 hbox hb; have BK373 := ak (hbox); have GW373 := ak (hgl hg (belowg1 HB GE372)); have GE373 := ak (hgl hg (belowg1 HB GE372)); replace HB := ak (below_step (belowg1 HB GE372) hb); have NB372_373 := ak ((by rw [hg]; exact Nat.ne_of_lt (blk_lt (blkd BK372)) : gb372 ≠ gb373)); have NB373_372 := ak ((by rw [hg]; exact Nat.ne_of_gt (blk_lt (blkd BK372)) : gb373 ≠ gb372)); replace BK372 := ak (blk_below (blkd BK372) hb); clear hb hbox hg; have hnb8 := NB372_373.out; have hnc8 := NB373_372.out; obtain ⟨hcz9_0, hcz9_1, hcz9_2, hfz9_0, hfz9_1, hfz9_2⟩ := box3 BK372) | ((with_reducible refine gate_dst (N := 8) rfl ?_); refine boxev 8 #[.int .i64 0, .int .i64 0, .int .i64 0, .int .i64 0, .bool false] 91 ?_; intro gb374 hg w10 hbox hb; have BK374 := ak (hbox); have GW374 := ak (hgl hg (belowg2 HB GE372 GE373)); have GE374 := ak (hgl hg (belowg2 HB GE372 GE373)); replace HB := ak (below_step (belowg2 HB GE372 GE373) hb); have NB372_374 := ak ((by rw [hg]; exact Nat.ne_of_lt (blk_lt (blkd BK372)) : gb372 ≠ gb374)); have NB374_372 := ak ((by rw [hg]; exact Nat.ne_of_gt (blk_lt (blkd BK372)) : gb374 ≠ gb372)); replace BK372 := ak (blk_below (blkd BK372) hb); have NB373_374 := ak ((by rw [hg]; exact Nat.ne_of_lt (blk_lt (blkd BK373)) : gb373 ≠ gb374)); have NB374_373 := ak ((by rw [hg]; exact Nat.ne_of_gt (blk_lt (blkd BK373)) : gb374 ≠ gb373)); replace BK373 := ak (blk_below (blkd BK373) hb); clear hb hbox hg; have hnb11 := NB374_372.out; have hnc11 := NB372_374.out; have hnb12 := NB374_373.out; have hnc12 := NB373_374.out; obtain ⟨hcz13_0, hcz13_1, hcz13_2, hcz13_3, hcz13_4, hfz13_0, hfz13_1, hfz13_2, hfz13_3, hfz13_4⟩ := box5 BK374) | ((with_reducible refine gate_callee (f := 150) rfl ?_); refine goesLa (some 14) rfl Try.func150 #[.agg #[.int .i64 a0, .int .i64 a1_0, .int .i64 a1_1, .int .i64 a1_2, .bool a2]] rfl ?_; (with_reducible refine (impl_isStatement.calls a0 a1_0 a1_1 a1_2 a2 true _ A4.out).mono ?_); rintro e w14 ⟨rfl, hb⟩; refine ⟨_, rfl, ?_⟩; replace BK372 := ak (blk_below (g := gb372) (o := .cells #[.int .i64 a1_0, .int .i64 a1_1, .int .i64 a1_2] 85 (0, 0)) (by (with_reducible repeat (first | refine blk_drewN ?_ _ | refine blk_drew ?_ | refine blk_alloc ?_ _)); refine blk_far ?_ NB372_374.out _; (with_reducible repeat (first | refine blk_drewN ?_ _ | refine blk_drew ?_ | refine blk_alloc ?_ _)); refine blk_far ?_ NB372_374.out _; (with_reducible repeat (first | refine blk_drewN ?_ _ | refine blk_drew ?_ | refine blk_alloc ?_ _)); refine blk_far ?_ NB372_374.out _; (with_reducible repeat (first | refine blk_drewN ?_ _ | refine blk_drew ?_ | refine blk_alloc ?_ _)); refine blk_far ?_ NB372_374.out _; (with_reducible repeat (first | refine blk_drewN ?_ _ | refine blk_drew ?_ | refine blk_alloc ?_ _)); refine blk_far ?_ NB372_374.out _; (with_reducible repeat (first | refine blk_drewN ?_ _ | refine blk_drew ?_ | refine blk_alloc ?_ _)); exact BK372.out) hb); replace BK373 := ak (blk_below (g := gb373) (o := .cells #[.int .i64 0, .int .i64 0, .int .i64 0, .int .i64 0, .bool false] 91 (0, 0)) (by (with_reducible repeat (first | refine blk_drewN ?_ _ | refine blk_drew ?_ | refine blk_alloc ?_ _)); refine blk_far ?_ NB373_374.out _; (with_reducible repeat (first | refine blk_drewN ?_ _ | refine blk_drew ?_ | refine blk_alloc ?_ _)); refine blk_far ?_ NB373_374.out _; (with_reducible repeat (first | refine blk_drewN ?_ _ | refine blk_drew ?_ | refine blk_alloc ?_ _)); refine blk_far ?_ NB373_374.out _; (with_reducible repeat (first | refine blk_drewN ?_ _ | refine blk_drew ?_ | refine blk_alloc ?_ _)); refine blk_far ?_ NB373_374.out _; (with_reducible repeat (first | refine blk_drewN ?_ _ | refine blk_drew ?_ | refine blk_alloc ?_ _)); refine blk_far ?_ NB373_374.out _; (with_reducible repeat (first | refine blk_drewN ?_ _ | refine blk_drew ?_ | refine blk_alloc ?_ _)); exact BK373.out) hb); replace BK374 := ak (blk_below (g := gb374) (o := .cells #[.int .i64 a0, .int .i64 a1_0, .int .i64 a1_1, .int .i64 a1_2, .bool a2] 91 (0, 0)) (by (with_reducible repeat (first | refine blk_drewN ?_ _ | refine blk_drew ?_ | refine blk_alloc ?_ _)); refine blk_put (cs := #[.int .i64 a0, .int .i64 a1_0, .int .i64 a1_1, .int .i64 a1_2, .bool false]) ?_ 4 _ rfl; (with_reducible repeat (first | refine blk_drewN ?_ _ | refine blk_drew ?_ | refine blk_alloc ?_ _)); refine blk_put (cs := #[.int .i64 a0, .int .i64 a1_0, .int .i64 a1_1, .int .i64 0, .bool false]) ?_ 3 _ rfl; (with_reducible repeat (first | refine blk_drewN ?_ _ | refine blk_drew ?_ | refine blk_alloc ?_ _)); refine blk_put (cs := #[.int .i64 a0, .int .i64 a1_0, .int .i64 0, .int .i64 0, .bool false]) ?_ 2 _ rfl; (with_reducible repeat (first | refine blk_drewN ?_ _ | refine blk_drew ?_ | refine blk_alloc ?_ _)); refine blk_put (cs := #[.int .i64 a0, .int .i64 0, .int .i64 0, .int .i64 0, .bool false]) ?_ 1 _ rfl; (with_reducible repeat (first | refine blk_drewN ?_ _ | refine blk_drew ?_ | refine blk_alloc ?_ _)); refine blk_put (cs := #[.int .i64 0, .int .i64 0, .int .i64 0, .int .i64 0, .bool false]) ?_ 0 _ rfl; (with_reducible repeat (first | refine blk_drewN ?_ _ | refine blk_drew ?_ | refine blk_alloc ?_ _)); exact BK374.out) hb); replace HB := ak (below_step (belowg3 HB GE372 GE373 GE374) hb); (try clear hb); obtain ⟨hcz15_0, hcz15_1, hcz15_2, hcz15_3, hcz15_4, hfz15_0, hfz15_1, hfz15_2, hfz15_3, hfz15_4⟩ := box5 BK374; obtain ⟨hcz16_0, hcz16_1, hcz16_2, hcz16_3, hcz16_4, hfz16_0, hfz16_1, hfz16_2, hfz16_3, hfz16_4⟩ := box5 BK373))
  refine bodyPost_ret (results_ct rfl _ _ gb373 91 #[.int .i64 a0, .int .i64 a1_0, .int .i64 a1_1, .int .i64 a1_2, .bool a2] (0, 0) _ rfl (by (with_reducible repeat (first | refine blk_drewN ?_ _ | refine blk_drew ?_ | refine blk_alloc ?_ _)); refine blk_put (cs := #[.int .i64 a0, .int .i64 a1_0, .int .i64 a1_1, .int .i64 a1_2, .bool false]) ?_ 4 _ rfl; (with_reducible repeat (first | refine blk_drewN ?_ _ | refine blk_drew ?_ | refine blk_alloc ?_ _)); refine blk_put (cs := #[.int .i64 a0, .int .i64 a1_0, .int .i64 a1_1, .int .i64 0, .bool false]) ?_ 3 _ rfl; (with_reducible repeat (first | refine blk_drewN ?_ _ | refine blk_drew ?_ | refine blk_alloc ?_ _)); refine blk_put (cs := #[.int .i64 a0, .int .i64 a1_0, .int .i64 0, .int .i64 0, .bool false]) ?_ 2 _ rfl; (with_reducible repeat (first | refine blk_drewN ?_ _ | refine blk_drew ?_ | refine blk_alloc ?_ _)); refine blk_put (cs := #[.int .i64 a0, .int .i64 0, .int .i64 0, .int .i64 0, .bool false]) ?_ 1 _ rfl; (with_reducible repeat (first | refine blk_drewN ?_ _ | refine blk_drew ?_ | refine blk_alloc ?_ _)); refine blk_put (cs := #[.int .i64 0, .int .i64 0, .int .i64 0, .int .i64 0, .bool false]) ?_ 0 _ rfl; (with_reducible repeat (first | refine blk_drewN ?_ _ | refine blk_drew ?_ | refine blk_alloc ?_ _)); exact BK373.out) Try.underlying91 rfl (by kernel_rfl)) rfl ?_
  exact ⟨er2, belowg3 HB GE372 GE373 GE374⟩
 ·replace c5 := Bool.eq_false_iff.mpr c5
  subst c5
  have H1 : (some (0, 0, 0, 0, false, false)) = some (r1, r2, r3, r4, r5, r6) := by rw [if_neg (show ¬ (false = true) by decide)] at H; exact H
  clear H
  have H := H1
  clear H1
  simp only [Option.some.injEq, Prod.mk.injEq] at H
  obtain ⟨rfl, rfl, rfl, rfl, rfl, rfl⟩ := H
  go_enter Try.func64, Try.ntmps64
  go_wp2_with (first | ((with_reducible refine gate_dst (N := 4) rfl ?_); refine boxev 4 #[.int .i64 a1_0, .int .i64 a1_1, .int .i64 a1_2] 85 ?_; intro gb372 hg w17 hbox hb; have BK372 := ak (hbox); have GW372 := ak (hgl hg (belowd HB)); have GE372 := ak (hgl hg (belowd HB)); replace HB := ak (below_step (belowd HB) hb); clear hb hbox hg) | ((with_reducible refine gate_dst (N := 6) rfl ?_); refine boxev 6 #[.int .i64 0, .int .i64 0, .int .i64 0, .int .i64 0, .bool false] 91 ?_; intro gb373 hg w18 hbox hb; have BK373 := ak (hbox); have GW373 := ak (hgl hg (belowg1 HB GE372)); have GE373 := ak (hgl hg (belowg1 HB GE372)); replace HB := ak (below_step (belowg1 HB GE372) hb); have NB372_373 := ak ((by rw [hg]; exact Nat.ne_of_lt (blk_lt (blkd BK372)) : gb372 ≠ gb373)); have NB373_372 := ak ((by rw [hg]; exact Nat.ne_of_gt (blk_lt (blkd BK372)) : gb373 ≠ gb372)); replace BK372 := ak (blk_below (blkd BK372) hb); clear hb hbox hg; have hnb19 := NB372_373.out; have hnc19 := NB373_372.out; obtain ⟨hcz20_0, hcz20_1, hcz20_2, hfz20_0, hfz20_1, hfz20_2⟩ := box3 BK372) | ((with_reducible refine gate_dst (N := 8) rfl ?_); refine boxev 8 #[.int .i64 0, .int .i64 0, .int .i64 0, .int .i64 0, .bool false] 91 ?_; intro gb374 hg w21 hbox hb; have BK374 := ak (hbox); have GW374 := ak (hgl hg (belowg2 HB GE372 GE373)); have GE374 := ak (hgl hg (belowg2 HB GE372 GE373)); replace HB := ak (below_step (belowg2 HB GE372 GE373) hb); have NB372_374 := ak ((by rw [hg]; exact Nat.ne_of_lt (blk_lt (blkd BK372)) : gb372 ≠ gb374)); have NB374_372 := ak ((by rw [hg]; exact Nat.ne_of_gt (blk_lt (blkd BK372)) : gb374 ≠ gb372)); replace BK372 := ak (blk_below (blkd BK372) hb); have NB373_374 := ak ((by rw [hg]; exact Nat.ne_of_lt (blk_lt (blkd BK373)) : gb373 ≠ gb374)); have NB374_373 := ak ((by rw [hg]; exact Nat.ne_of_gt (blk_lt (blkd BK373)) : gb374 ≠ gb373)); replace BK373 := ak (blk_below (blkd BK373) hb); clear hb hbox hg; have hnb22 := NB374_372.out; have hnc22 := NB372_374.out; have hnb23 := NB374_373.out; have hnc23 := NB373_374.out; obtain ⟨hcz24_0, hcz24_1, hcz24_2, hcz24_3, hcz24_4, hfz24_0, hfz24_1, hfz24_2, hfz24_3, hfz24_4⟩ := box5 BK374) | ((with_reducible refine gate_callee (f := 150) rfl ?_); refine goesLa (some 14) rfl Try.func150 #[.agg #[.int .i64 a0, .int .i64 a1_0, .int .i64 a1_1, .int .i64 a1_2, .bool a2]] rfl ?_; (with_reducible refine (impl_isStatement.calls a0 a1_0 a1_1 a1_2 a2 false _ A4.out).mono ?_); rintro e w25 ⟨rfl, hb⟩; refine ⟨_, rfl, ?_⟩; replace BK372 := ak (blk_below (g := gb372) (o := .cells #[.int .i64 a1_0, .int .i64 a1_1, .int .i64 a1_2] 85 (0, 0)) (by (with_reducible repeat (first | refine blk_drewN ?_ _ | refine blk_drew ?_ | refine blk_alloc ?_ _)); refine blk_far ?_ NB372_374.out _; (with_reducible repeat (first | refine blk_drewN ?_ _ | refine blk_drew ?_ | refine blk_alloc ?_ _)); refine blk_far ?_ NB372_374.out _; (with_reducible repeat (first | refine blk_drewN ?_ _ | refine blk_drew ?_ | refine blk_alloc ?_ _)); refine blk_far ?_ NB372_374.out _; (with_reducible repeat (first | refine blk_drewN ?_ _ | refine blk_drew ?_ | refine blk_alloc ?_ _)); refine blk_far ?_ NB372_374.out _; (with_reducible repeat (first | refine blk_drewN ?_ _ | refine blk_drew ?_ | refine blk_alloc ?_ _)); refine blk_far ?_ NB372_374.out _; (with_reducible repeat (first | refine blk_drewN ?_ _ | refine blk_drew ?_ | refine blk_alloc ?_ _)); exact BK372.out) hb); replace BK373 := ak (blk_below (g := gb373) (o := .cells #[.int .i64 0, .int .i64 0, .int .i64 0, .int .i64 0, .bool false] 91 (0, 0)) (by (with_reducible repeat (first | refine blk_drewN ?_ _ | refine blk_drew ?_ | refine blk_alloc ?_ _)); refine blk_far ?_ NB373_374.out _; (with_reducible repeat (first | refine blk_drewN ?_ _ | refine blk_drew ?_ | refine blk_alloc ?_ _)); refine blk_far ?_ NB373_374.out _; (with_reducible repeat (first | refine blk_drewN ?_ _ | refine blk_drew ?_ | refine blk_alloc ?_ _)); refine blk_far ?_ NB373_374.out _; (with_reducible repeat (first | refine blk_drewN ?_ _ | refine blk_drew ?_ | refine blk_alloc ?_ _)); refine blk_far ?_ NB373_374.out _; (with_reducible repeat (first | refine blk_drewN ?_ _ | refine blk_drew ?_ | refine blk_alloc ?_ _)); refine blk_far ?_ NB373_374.out _; (with_reducible repeat (first | refine blk_drewN ?_ _ | refine blk_drew ?_ | refine blk_alloc ?_ _)); exact BK373.out) hb); replace BK374 := ak (blk_below (g := gb374) (o := .cells #[.int .i64 a0, .int .i64 a1_0, .int .i64 a1_1, .int .i64 a1_2, .bool a2] 91 (0, 0)) (by (with_reducible repeat (first | refine blk_drewN ?_ _ | refine blk_drew ?_ | refine blk_alloc ?_ _)); refine blk_put (cs := #[.int .i64 a0, .int .i64 a1_0, .int .i64 a1_1, .int .i64 a1_2, .bool false]) ?_ 4 _ rfl; (with_reducible repeat (first | refine blk_drewN ?_ _ | refine blk_drew ?_ | refine blk_alloc ?_ _)); refine blk_put (cs := #[.int .i64 a0, .int .i64 a1_0, .int .i64 a1_1, .int .i64 0, .bool false]) ?_ 3 _ rfl; (with_reducible repeat (first | refine blk_drewN ?_ _ | refine blk_drew ?_ | refine blk_alloc ?_ _)); refine blk_put (cs := #[.int .i64 a0, .int .i64 a1_0, .int .i64 0, .int .i64 0, .bool false]) ?_ 2 _ rfl; (with_reducible repeat (first | refine blk_drewN ?_ _ | refine blk_drew ?_ | refine blk_alloc ?_ _)); refine blk_put (cs := #[.int .i64 a0, .int .i64 0, .int .i64 0, .int .i64 0, .bool false]) ?_ 1 _ rfl; (with_reducible repeat (first | refine blk_drewN ?_ _ | refine blk_drew ?_ | refine blk_alloc ?_ _)); refine blk_put (cs := #[.int .i64 0, .int .i64 0, .int .i64 0, .int .i64 0, .bool false]) ?_ 0 _ rfl; (with_reducible repeat (first | refine blk_drewN ?_ _ | refine blk_drew ?_ | refine blk_alloc ?_ _)); exact BK374.out) hb); replace HB := ak (below_step (belowg3 HB GE372 GE373 GE374) hb); (try clear hb); obtain ⟨hcz26_0, hcz26_1, hcz26_2, hcz26_3, hcz26_4, hfz26_0, hfz26_1, hfz26_2, hfz26_3, hfz26_4⟩ := box5 BK373))
  refine bodyPost_ret (results_ct rfl _ _ gb373 91 #[.int .i64 0, .int .i64 0, .int .i64 0, .int .i64 0, .bool false] (0, 0) _ rfl (by (with_reducible repeat (first | refine blk_drewN ?_ _ | refine blk_drew ?_ | refine blk_alloc ?_ _)); refine blk_put (cs := #[.int .i64 0, .int .i64 0, .int .i64 0, .int .i64 0, .bool false]) ?_ 4 _ rfl; (with_reducible repeat (first | refine blk_drewN ?_ _ | refine blk_drew ?_ | refine blk_alloc ?_ _)); refine blk_put (cs := #[.int .i64 0, .int .i64 0, .int .i64 0, .int .i64 0, .bool false]) ?_ 3 _ rfl; (with_reducible repeat (first | refine blk_drewN ?_ _ | refine blk_drew ?_ | refine blk_alloc ?_ _)); refine blk_put (cs := #[.int .i64 0, .int .i64 0, .int .i64 0, .int .i64 0, .bool false]) ?_ 2 _ rfl; (with_reducible repeat (first | refine blk_drewN ?_ _ | refine blk_drew ?_ | refine blk_alloc ?_ _)); refine blk_put (cs := #[.int .i64 0, .int .i64 0, .int .i64 0, .int .i64 0, .bool false]) ?_ 1 _ rfl; (with_reducible repeat (first | refine blk_drewN ?_ _ | refine blk_drew ?_ | refine blk_alloc ?_ _)); refine blk_put (cs := #[.int .i64 0, .int .i64 0, .int .i64 0, .int .i64 0, .bool false]) ?_ 0 _ rfl; (with_reducible repeat (first | refine blk_drewN ?_ _ | refine blk_drew ?_ | refine blk_alloc ?_ _)); exact BK373.out) Try.underlying91 rfl (by kernel_rfl)) rfl ?_
  exact ⟨er2, belowg3 HB GE372 GE373 GE374⟩

/-! ### spec_StateFor: function 65 -/
def spec_StateFor.f (a0 : Int) (a1_0 : Int) (a1_1 : Int) (a1_2 : Int) (a2 : Bool) : Option (Int × Int × Int × Int × Bool × Bool) := (spec_l12Witness.f a0).bind fun t378 => (if t378 = true then ((spec_GoodClaim.f a1_0 a1_1 a1_2).bind fun t379 => (if t379 = true then (some (a0, a1_0, a1_1, a1_2, a2, true)) else (some (0, 0, 0, 0, false, false)))) else (some (0, 0, 0, 0, false, false)))
set_option maxHeartbeats 8000000 in
set_option maxRecDepth 100000 in
theorem spec_StateFor.calls (a0 : Int) (a1_0 : Int) (a1_1 : Int) (a1_2 : Int) (a2 : Bool) (r1 : Int) (r2 : Int) (r3 : Int) (r4 : Int) (r5 : Bool) (r6 : Bool) (w : World) (h : spec_StateFor.f a0 a1_0 a1_1 a1_2 a2 = some (r1, r2, r3, r4, r5, r6)) :
  Calls Try.prog 65 #[.int .i64 a0, .agg #[.int .i64 a1_0, .int .i64 a1_1, .int .i64 a1_2], .bool a2] w fun e w' => e = .returned (.tuple #[.agg #[.int .i64 r1, .int .i64 r2, .int .i64 r3, .int .i64 r4, .bool r5], .bool r6]) ∧ Below w.heap.size w w' := by
 have hu85 := Try.underlying85
 have hu91 := Try.underlying91
 have HB := Aside0.mk (Below.refl w.heap.size w)
 have H : ((spec_l12Witness.f a0).bind fun t378 => (if t378 = true then ((spec_GoodClaim.f a1_0 a1_1 a1_2).bind fun t379 => (if t379 = true then (some (a0, a1_0, a1_1, a1_2, a2, true)) else (some (0, 0, 0, 0, false, false)))) else (some (0, 0, 0, 0, false, false)))) = some (r1, r2, r3, r4, r5, r6) := h
 clear h; replace H := bS H; obtain ⟨t378, A4, H⟩ := H
 replace H : (if t378 = true then ((spec_GoodClaim.f a1_0 a1_1 a1_2).bind fun t379 => (if t379 = true then (some (a0, a1_0, a1_1, a1_2, a2, true)) else (some (0, 0, 0, 0, false, false)))) else (some (0, 0, 0, 0, false, false))) = some (r1, r2, r3, r4, r5, r6) := H
 by_cases c5 : t378 = true
 ·subst c5
  have H1 : ((spec_GoodClaim.f a1_0 a1_1 a1_2).bind fun t379 => (if t379 = true then (some (a0, a1_0, a1_1, a1_2, a2, true)) else (some (0, 0, 0, 0, false, false)))) = some (r1, r2, r3, r4, r5, r6) := by rw [if_pos rfl] at H; exact H
  clear H
  have H := H1
  clear H1; replace H := bS H; obtain ⟨t379, A6, H⟩ := H
  replace H : (if t379 = true then (some (a0, a1_0, a1_1, a1_2, a2, true)) else (some (0, 0, 0, 0, false, false))) = some (r1, r2, r3, r4, r5, r6) := H
  by_cases c7 : t379 = true
  ·subst c7
   have H1 : (some (a0, a1_0, a1_1, a1_2, a2, true)) = some (r1, r2, r3, r4, r5, r6) := by rw [if_pos rfl] at H; exact H
   clear H
   have H := H1
   clear H1
   simp only [Option.some.injEq, Prod.mk.injEq] at H
   obtain ⟨rfl, rfl, rfl, rfl, rfl, rfl⟩ := H
   go_enter Try.func65, Try.ntmps65
   go_wp2_with (first | ((with_reducible refine gate_dst (N := 4) rfl ?_); refine boxev 4 #[.int .i64 a1_0, .int .i64 a1_1, .int .i64 a1_2] 85 ?_; intro gb376 hg w8 hbox hb; have BK376 := ak (hbox); have GW376 := ak (hgl hg (belowd HB)); have GE376 := ak (hgl hg (belowd HB)); replace HB := ak (below_step (belowd HB) hb); clear hb hbox hg) | ((with_reducible refine gate_dst (N := 6) rfl ?_); refine boxev 6 #[.int .i64 0, .int .i64 0, .int .i64 0, .int .i64 0, .bool false] 91 ?_; intro gb377 hg w9 hbox hb; have BK377 := ak (hbox); have GW377 := ak (hgl hg (belowg1 HB GE376)); have GE377 := ak (hgl hg (belowg1 HB GE376)); replace HB := ak (below_step (belowg1 HB GE376) hb); have NB376_377 := ak ((by rw [hg]; exact Nat.ne_of_lt (blk_lt (blkd BK376)) : gb376 ≠ gb377)); have NB377_376 := ak ((by rw [hg]; exact Nat.ne_of_gt (blk_lt (blkd BK376)) : gb377 ≠ gb376)); replace BK376 := ak (blk_below (blkd BK376) hb); clear hb hbox hg) | ((with_reducible refine gate_callee (f := 151) rfl ?_); refine goesLa (some 9) rfl Try.func151 #[.int .i64 a0] rfl ?_; (with_reducible refine (spec_l12Witness.calls a0 true _ A4.out).mono ?_); rintro e w' ⟨rfl, ⟨nd, rfl⟩⟩; refine ⟨_, rfl, ?_⟩; (try (rw [drewN_self w9]; generalize hq_ : World.drewN w9 _ = w9; have n0_ : Aside0 (w9.heap[gb376]? = some (.cells #[.int .i64 a1_0, .int .i64 a1_1, .int .i64 a1_2] 85 (0, 0))) := ⟨by rw [← hq_]; exact (blkd BK376)⟩; have n1_ : Aside0 (w9.heap[gb377]? = some (.cells #[.int .i64 0, .int .i64 0, .int .i64 0, .int .i64 0, .bool false] 91 (0, 0))) := ⟨by rw [← hq_]; exact (blkd BK377)⟩; have n2_ : Aside0 (Below w.heap.size w w9) := ⟨by rw [← hq_]; exact (belowg2 HB GE376 GE377)⟩; clear BK376 BK377 HB hq_; have BK376 := n0_; have BK377 := n1_; have HB := n2_; clear n0_ n1_ n2_)); have hnb10 := NB376_377.out; have hnc10 := NB377_376.out; obtain ⟨hcz11_0, hcz11_1, hcz11_2, hfz11_0, hfz11_1, hfz11_2⟩ := box3 BK376) | (go_at_call 152; (with_reducible refine (spec_GoodClaim.calls a1_0 a1_1 a1_2 true _ A6.out).mono ?_); rintro e w12 ⟨rfl, hb⟩; replace BK376 := ak (blk_below (blkd BK376) hb); replace BK377 := ak (blk_below (blkd BK377) hb); replace HB := ak (below_step (belowg2 HB GE376 GE377) hb); (try clear hb); obtain ⟨hcz13_0, hcz13_1, hcz13_2, hfz13_0, hfz13_1, hfz13_2⟩ := box3 BK376; obtain ⟨hcz14_0, hcz14_1, hcz14_2, hcz14_3, hcz14_4, hfz14_0, hfz14_1, hfz14_2, hfz14_3, hfz14_4⟩ := box5 BK377))
   refine bodyPost_ret (results_ct rfl _ _ gb377 91 #[.int .i64 a0, .int .i64 a1_0, .int .i64 a1_1, .int .i64 a1_2, .bool a2] (0, 0) _ rfl (by (with_reducible repeat (first | refine blk_drewN ?_ _ | refine blk_drew ?_ | refine blk_alloc ?_ _)); refine blk_put (cs := #[.int .i64 a0, .int .i64 a1_0, .int .i64 a1_1, .int .i64 a1_2, .bool false]) ?_ 4 _ rfl; (with_reducible repeat (first | refine blk_drewN ?_ _ | refine blk_drew ?_ | refine blk_alloc ?_ _)); refine blk_put (cs := #[.int .i64 a0, .int .i64 a1_0, .int .i64 a1_1, .int .i64 0, .bool false]) ?_ 3 _ rfl; (with_reducible repeat (first | refine blk_drewN ?_ _ | refine blk_drew ?_ | refine blk_alloc ?_ _)); refine blk_put (cs := #[.int .i64 a0, .int .i64 a1_0, .int .i64 0, .int .i64 0, .bool false]) ?_ 2 _ rfl; (with_reducible repeat (first | refine blk_drewN ?_ _ | refine blk_drew ?_ | refine blk_alloc ?_ _)); refine blk_put (cs := #[.int .i64 a0, .int .i64 0, .int .i64 0, .int .i64 0, .bool false]) ?_ 1 _ rfl; (with_reducible repeat (first | refine blk_drewN ?_ _ | refine blk_drew ?_ | refine blk_alloc ?_ _)); refine blk_put (cs := #[.int .i64 0, .int .i64 0, .int .i64 0, .int .i64 0, .bool false]) ?_ 0 _ rfl; (with_reducible repeat (first | refine blk_drewN ?_ _ | refine blk_drew ?_ | refine blk_alloc ?_ _)); exact BK377.out) Try.underlying91 rfl (by kernel_rfl)) rfl ?_
   exact ⟨er2, belowg2 HB GE376 GE377⟩
  ·replace c7 := Bool.eq_false_iff.mpr c7
   subst c7
   have H1 : (some (0, 0, 0, 0, false, false)) = some (r1, r2, r3, r4, r5, r6) := by rw [if_neg (show ¬ (false = true) by decide)] at H; exact H
   clear H
   have H := H1
   clear H1
   simp only [Option.some.injEq, Prod.mk.injEq] at H
   obtain ⟨rfl, rfl, rfl, rfl, rfl, rfl⟩ := H
   go_enter Try.func65, Try.ntmps65
   go_wp2_with (first | ((with_reducible refine gate_dst (N := 4) rfl ?_); refine boxev 4 #[.int .i64 a1_0, .int .i64 a1_1, .int .i64 a1_2] 85 ?_; intro gb376 hg w15 hbox hb; have BK376 := ak (hbox); have GW376 := ak (hgl hg (belowd HB)); have GE376 := ak (hgl hg (belowd HB)); replace HB := ak (below_step (belowd HB) hb); clear hb hbox hg) | ((with_reducible refine gate_dst (N := 6) rfl ?_); refine boxev 6 #[.int .i64 0, .int .i64 0, .int .i64 0, .int .i64 0, .bool false] 91 ?_; intro gb377 hg w16 hbox hb; have BK377 := ak (hbox); have GW377 := ak (hgl hg (belowg1 HB GE376)); have GE377 := ak (hgl hg (belowg1 HB GE376)); replace HB := ak (below_step (belowg1 HB GE376) hb); have NB376_377 := ak ((by rw [hg]; exact Nat.ne_of_lt (blk_lt (blkd BK376)) : gb376 ≠ gb377)); have NB377_376 := ak ((by rw [hg]; exact Nat.ne_of_gt (blk_lt (blkd BK376)) : gb377 ≠ gb376)); replace BK376 := ak (blk_below (blkd BK376) hb); clear hb hbox hg) | ((with_reducible refine gate_callee (f := 151) rfl ?_); refine goesLa (some 9) rfl Try.func151 #[.int .i64 a0] rfl ?_; (with_reducible refine (spec_l12Witness.calls a0 true _ A4.out).mono ?_); rintro e w' ⟨rfl, ⟨nd, rfl⟩⟩; refine ⟨_, rfl, ?_⟩; (try (rw [drewN_self w16]; generalize hq_ : World.drewN w16 _ = w16; have n0_ : Aside0 (w16.heap[gb376]? = some (.cells #[.int .i64 a1_0, .int .i64 a1_1, .int .i64 a1_2] 85 (0, 0))) := ⟨by rw [← hq_]; exact (blkd BK376)⟩; have n1_ : Aside0 (w16.heap[gb377]? = some (.cells #[.int .i64 0, .int .i64 0, .int .i64 0, .int .i64 0, .bool false] 91 (0, 0))) := ⟨by rw [← hq_]; exact (blkd BK377)⟩; have n2_ : Aside0 (Below w.heap.size w w16) := ⟨by rw [← hq_]; exact (belowg2 HB GE376 GE377)⟩; clear BK376 BK377 HB hq_; have BK376 := n0_; have BK377 := n1_; have HB := n2_; clear n0_ n1_ n2_)); have hnb17 := NB376_377.out; have hnc17 := NB377_376.out; obtain ⟨hcz18_0, hcz18_1, hcz18_2, hfz18_0, hfz18_1, hfz18_2⟩ := box3 BK376) | (go_at_call 152; (with_reducible refine (spec_GoodClaim.calls a1_0 a1_1 a1_2 false _ A6.out).mono ?_); rintro e w19 ⟨rfl, hb⟩; replace BK376 := ak (blk_below (blkd BK376) hb); replace BK377 := ak (blk_below (blkd BK377) hb); replace HB := ak (below_step (belowg2 HB GE376 GE377) hb); (try clear hb); obtain ⟨hcz20_0, hcz20_1, hcz20_2, hcz20_3, hcz20_4, hfz20_0, hfz20_1, hfz20_2, hfz20_3, hfz20_4⟩ := box5 BK377))
   refine bodyPost_ret (results_ct rfl _ _ gb377 91 #[.int .i64 0, .int .i64 0, .int .i64 0, .int .i64 0, .bool false] (0, 0) _ rfl (by (with_reducible repeat (first | refine blk_drewN ?_ _ | refine blk_drew ?_ | refine blk_alloc ?_ _)); refine blk_put (cs := #[.int .i64 0, .int .i64 0, .int .i64 0, .int .i64 0, .bool false]) ?_ 4 _ rfl; (with_reducible repeat (first | refine blk_drewN ?_ _ | refine blk_drew ?_ | refine blk_alloc ?_ _)); refine blk_put (cs := #[.int .i64 0, .int .i64 0, .int .i64 0, .int .i64 0, .bool false]) ?_ 3 _ rfl; (with_reducible repeat (first | refine blk_drewN ?_ _ | refine blk_drew ?_ | refine blk_alloc ?_ _)); refine blk_put (cs := #[.int .i64 0, .int .i64 0, .int .i64 0, .int .i64 0, .bool false]) ?_ 2 _ rfl; (with_reducible repeat (first | refine blk_drewN ?_ _ | refine blk_drew ?_ | refine blk_alloc ?_ _)); refine blk_put (cs := #[.int .i64 0, .int .i64 0, .int .i64 0, .int .i64 0, .bool false]) ?_ 1 _ rfl; (with_reducible repeat (first | refine blk_drewN ?_ _ | refine blk_drew ?_ | refine blk_alloc ?_ _)); refine blk_put (cs := #[.int .i64 0, .int .i64 0, .int .i64 0, .int .i64 0, .bool false]) ?_ 0 _ rfl; (with_reducible repeat (first | refine blk_drewN ?_ _ | refine blk_drew ?_ | refine blk_alloc ?_ _)); exact BK377.out) Try.underlying91 rfl (by kernel_rfl)) rfl ?_
   exact ⟨er2, belowg2 HB GE376 GE377⟩
 ·replace c5 := Bool.eq_false_iff.mpr c5
  subst c5
  have H1 : (some (0, 0, 0, 0, false, false)) = some (r1, r2, r3, r4, r5, r6) := by rw [if_neg (show ¬ (false = true) by decide)] at H; exact H
  clear H
  have H := H1
  clear H1
  simp only [Option.some.injEq, Prod.mk.injEq] at H
  obtain ⟨rfl, rfl, rfl, rfl, rfl, rfl⟩ := H
  go_enter Try.func65, Try.ntmps65
  go_wp2_with (first | ((with_reducible refine gate_dst (N := 4) rfl ?_); refine boxev 4 #[.int .i64 a1_0, .int .i64 a1_1, .int .i64 a1_2] 85 ?_; intro gb376 hg w21 hbox hb; have BK376 := ak (hbox); have GW376 := ak (hgl hg (belowd HB)); have GE376 := ak (hgl hg (belowd HB)); replace HB := ak (below_step (belowd HB) hb); clear hb hbox hg) | ((with_reducible refine gate_dst (N := 6) rfl ?_); refine boxev 6 #[.int .i64 0, .int .i64 0, .int .i64 0, .int .i64 0, .bool false] 91 ?_; intro gb377 hg w22 hbox hb; have BK377 := ak (hbox); have GW377 := ak (hgl hg (belowg1 HB GE376)); have GE377 := ak (hgl hg (belowg1 HB GE376)); replace HB := ak (below_step (belowg1 HB GE376) hb); have NB376_377 := ak ((by rw [hg]; exact Nat.ne_of_lt (blk_lt (blkd BK376)) : gb376 ≠ gb377)); have NB377_376 := ak ((by rw [hg]; exact Nat.ne_of_gt (blk_lt (blkd BK376)) : gb377 ≠ gb376)); replace BK376 := ak (blk_below (blkd BK376) hb); clear hb hbox hg) | ((with_reducible refine gate_callee (f := 151) rfl ?_); refine goesLa (some 9) rfl Try.func151 #[.int .i64 a0] rfl ?_; (with_reducible refine (spec_l12Witness.calls a0 false _ A4.out).mono ?_); rintro e w' ⟨rfl, ⟨nd, rfl⟩⟩; refine ⟨_, rfl, ?_⟩; (try (rw [drewN_self w22]; generalize hq_ : World.drewN w22 _ = w22; have n0_ : Aside0 (w22.heap[gb376]? = some (.cells #[.int .i64 a1_0, .int .i64 a1_1, .int .i64 a1_2] 85 (0, 0))) := ⟨by rw [← hq_]; exact (blkd BK376)⟩; have n1_ : Aside0 (w22.heap[gb377]? = some (.cells #[.int .i64 0, .int .i64 0, .int .i64 0, .int .i64 0, .bool false] 91 (0, 0))) := ⟨by rw [← hq_]; exact (blkd BK377)⟩; have n2_ : Aside0 (Below w.heap.size w w22) := ⟨by rw [← hq_]; exact (belowg2 HB GE376 GE377)⟩; clear BK376 BK377 HB hq_; have BK376 := n0_; have BK377 := n1_; have HB := n2_; clear n0_ n1_ n2_)); have hnb23 := NB377_376.out; have hnc23 := NB376_377.out; obtain ⟨hcz24_0, hcz24_1, hcz24_2, hcz24_3, hcz24_4, hfz24_0, hfz24_1, hfz24_2, hfz24_3, hfz24_4⟩ := box5 BK377))
  refine bodyPost_ret (results_ct rfl _ _ gb377 91 #[.int .i64 0, .int .i64 0, .int .i64 0, .int .i64 0, .bool false] (0, 0) _ rfl (by (with_reducible repeat (first | refine blk_drewN ?_ _ | refine blk_drew ?_ | refine blk_alloc ?_ _)); refine blk_put (cs := #[.int .i64 0, .int .i64 0, .int .i64 0, .int .i64 0, .bool false]) ?_ 4 _ rfl; (with_reducible repeat (first | refine blk_drewN ?_ _ | refine blk_drew ?_ | refine blk_alloc ?_ _)); refine blk_put (cs := #[.int .i64 0, .int .i64 0, .int .i64 0, .int .i64 0, .bool false]) ?_ 3 _ rfl; (with_reducible repeat (first | refine blk_drewN ?_ _ | refine blk_drew ?_ | refine blk_alloc ?_ _)); refine blk_put (cs := #[.int .i64 0, .int .i64 0, .int .i64 0, .int .i64 0, .bool false]) ?_ 2 _ rfl; (with_reducible repeat (first | refine blk_drewN ?_ _ | refine blk_drew ?_ | refine blk_alloc ?_ _)); refine blk_put (cs := #[.int .i64 0, .int .i64 0, .int .i64 0, .int .i64 0, .bool false]) ?_ 1 _ rfl; (with_reducible repeat (first | refine blk_drewN ?_ _ | refine blk_drew ?_ | refine blk_alloc ?_ _)); refine blk_put (cs := #[.int .i64 0, .int .i64 0, .int .i64 0, .int .i64 0, .bool false]) ?_ 0 _ rfl; (with_reducible repeat (first | refine blk_drewN ?_ _ | refine blk_drew ?_ | refine blk_alloc ?_ _)); exact BK377.out) Try.underlying91 rfl (by kernel_rfl)) rfl ?_
  exact ⟨er2, belowg2 HB GE376 GE377⟩

end Go.Proofs.Ytkgogglnipdcfaa.QFnStated
