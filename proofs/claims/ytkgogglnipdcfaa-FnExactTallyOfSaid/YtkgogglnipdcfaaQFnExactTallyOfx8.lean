-- printed by this session's own program (wip/tools/pp.py: the kit's print.py with changes); Lean checks it
import Derived.Test.YtkgogglnipdcfaaQFnExactTallyOfx0
import Derived.Test.YtkgogglnipdcfaaQFnExactTallyOfx1
import Derived.Test.YtkgogglnipdcfaaQFnExactTallyOfx6
import Derived.Test.YtkgogglnipdcfaaQFnExactTallyOfx7
namespace Go.Proofs.Ytkgogglnipdcfaa.QFnExactTallyOf
open Go.RowKit Go.Proofs.YtkgogglnipdcfaaW.PrintWords Go.Proofs.YtkgogglnipdcfaaW.PrintLast Go.Proofs.YtkgogglnipdcfaaW.PrintMore
attribute [local go_sem] max2_int min2_int max_two min_two max_three min_three max_four min_four strLss strGtr strLeq strGeq   -- for this text's walks alone
set_option linter.unusedVariables false
set_option linter.unusedSimpArgs false

attribute [local go_sem high] eqA85
/-! ### impl_refusedBy: function 146 -/
def impl_refusedBy.l0 : Nat → List (S91) → List Int → Int → Int → Int → Int → Option (List Int)
  | 0, _, _, _, _, _, _ => none
  | k + 1, x0, x5, x8, x288000, x288001, x288002 => if x8 < 7 then ((impl_Statement_144.f k x0 x8 x288000 x288001 x288002 true).bind fun t291 => (if t291 = true then ((impl_Statement_144.f k x0 x8 x288000 x288001 x288002 false).bind fun t292 => (if t292 = true then (impl_refusedBy.l0 k x0 x5 (wrap64 (x8 + 1)) x288000 x288001 x288002) else (if x5.length < 17592186044416 then (impl_refusedBy.l0 k x0 (x5 ++ [x8]) (wrap64 (x8 + 1)) x288000 x288001 x288002) else (none)))) else (impl_refusedBy.l0 k x0 x5 (wrap64 (x8 + 1)) x288000 x288001 x288002))) else (some x5)
def impl_refusedBy.f (k : Nat) (l0 : List (S91)) (a1_0 : Int) (a1_1 : Int) (a1_2 : Int) : Option (List Int) := impl_refusedBy.l0 k l0 (([] : List Int)) 0 a1_0 a1_1 a1_2
theorem impl_refusedBy.mono_l : ∀ k, (∀ y0 y1 y2 y3 y4 y5, LeO (impl_refusedBy.l0 k y0 y1 y2 y3 y4 y5) (impl_refusedBy.l0 (k + 1) y0 y1 y2 y3 y4 y5))
 | 0 => fun _ _ _ _ _ _ r h => by simp [impl_refusedBy.l0] at h
 | k + 1 => by
  have ih0 := impl_refusedBy.mono_l k
  ·intro y0 y1 y2 y3 y4 y5
   unfold impl_refusedBy.l0
   repeat' (first | (with_reducible first | exact ih0 _ _ _ _ _ _ | exact impl_Statement_144.mono _ _ _ _ _ _ _ | exact LeO.refl _ | exact LeO.none _ | refine LeO.ite ?_ ?_ | refine LeO.bind ?_ (fun _ => ?_)) | exact ih0 _ _ _ _ _ _ | exact impl_Statement_144.mono _ _ _ _ _ _ _ | exact LeO.none _ | refine LeO.ite ?_ ?_ | refine LeO.bind ?_ (fun _ => ?_))
theorem impl_refusedBy.mono : ∀ a0 a1 a2 a3 k, LeO (impl_refusedBy.f k a0 a1 a2 a3) (impl_refusedBy.f (k + 1) a0 a1 a2 a3) := by
 intro a0 a1 a2 a3 k
 have ih0 := impl_refusedBy.mono_l k
 unfold impl_refusedBy.f
 repeat' (first | (with_reducible first | exact ih0 _ _ _ _ _ _ | exact impl_Statement_144.mono _ _ _ _ _ _ _ | exact LeO.refl _ | exact LeO.none _ | refine LeO.ite ?_ ?_ | refine LeO.bind ?_ (fun _ => ?_)) | exact ih0 _ _ _ _ _ _ | exact impl_Statement_144.mono _ _ _ _ _ _ _ | exact LeO.none _ | refine LeO.ite ?_ ?_ | refine LeO.bind ?_ (fun _ => ?_))
set_option maxHeartbeats 8000000 in
set_option maxRecDepth 100000 in
theorem impl_refusedBy.calls (k : Nat) (A0 : Option Addr) (c0 : Nat) (l0 : List (S91)) (a1_0 : Int) (a1_1 : Int) (a1_2 : Int) (r : List Int) (w : World) (hr0 : Kd.C k91 w A0 l0.length l0) (hc0 : l0.length ≤ c0) (h : impl_refusedBy.f k l0 a1_0 a1_1 a1_2 = some r) :
  Calls Try.prog 146 #[.slice A0 l0.length c0, .agg #[.int .i64 a1_0, .int .i64 a1_1, .int .i64 a1_2]] w fun e w' => ∃ v0_ : Value, e = .returned (v0_) ∧ Kd.R (Kd.int .i64) 3 w' w.heap.size (fun _ => True) v0_ r ∧ Below w.heap.size w w' := by
 have hu85 := Try.underlying85
 have hu91 := Try.underlying91
 have HR0 := Aside0.mk hr0; have HC0 := Aside0.mk hc0; clear hr0 hc0
 have HB := Aside0.mk (Below.refl w.heap.size w)
 have H : (impl_refusedBy.l0 k l0 (([] : List Int)) 0 a1_0 a1_1 a1_2) = some r := h
 clear h
 obtain ⟨y288, hy_⟩ : ∃ y_ : List Int, y_ = (([] : List Int)) := ⟨_, rfl⟩
 replace H : (impl_refusedBy.l0 k l0 y288 0 a1_0 a1_1 a1_2) = some r := yH
 have Ny288 := ak hy_; clear hy_
 have H' := Aside0.mk H
 clear H
 go_enter Try.func146, Try.ntmps146
 go_wp2_with (first | ((with_reducible refine gate_dst (N := 3) rfl ?_); refine boxev 3 #[.int .i64 a1_0, .int .i64 a1_1, .int .i64 a1_2] 85 ?_; intro gb287 hg w3 hbox hb; have BK287 := ak (hbox); have GW287 := ak (hgl hg (belowd HB)); have GE287 := ak (hgl hg (belowd HB)); replace HB := ak (below_step (belowd HB) hb); clear hb hbox hg) | ((with_reducible refine gate_dst (N := 7) rfl ?_); refine Kd.R_lit (Kd.int .i64) _ 3 ?hg (N := 7) ?hd (xs := ([] : List Int)) (inner := []) (ok := fun _ => True) (okp := fun _ => True) ?hr ?hp (fun _ hk => hk) trivial (Below.refl _ _) (Nat.le_refl _) (by simp) ?_; (case hd => rfl); (case hg => rfl); (case hr => first | (go_simp; done) | (go_simp; rfl)); (case hp => exact (Reps.none _ _)); intro v289 w4 ho5 hb hg_ hnew_; clear hg_ hnew_; (first | rw [← Ny288.out] at ho5 | (simp only [Int.reduceToNat] at ho5; rw [← Ny288.out] at ho5)); have HO290 := ak (Kd.R_lower ho5 (below_size (belowg1 HB GE287))); replace BK287 := ak (blk_below (blkd BK287) hb); replace HB := ak (below_step (belowg1 HB GE287) hb); clear hb ho5))
 go_loopg [5, 8] k (fun kq v5 v8 w' => ∃ (x5_1 : List Int) (x8_1 : Int), v8 = .int .i64 x8_1 ∧ Aside0 (impl_refusedBy.l0 kq l0 x5_1 x8_1 a1_0 a1_1 a1_2 = some r) ∧ Aside0 (kq ≤ k) ∧ Aside0 (Kd.R (Kd.int .i64) 3 w' w.heap.size (fun _ => True) v5 x5_1) ∧ Aside0 (w'.heap[gb287]? = some (.cells #[.int .i64 a1_0, .int .i64 a1_1, .int .i64 a1_2] 85 (0, 0))) ∧ Aside0 (Below w.heap.size w w'))
 case atStart => exact ⟨(y288), (0), er, H', ⟨Nat.le_refl _⟩, ⟨rdl HO290⟩, ⟨blkd BK287⟩, ⟨belowg1 HB GE287⟩⟩
 case round =>
  clear H'
  obtain ⟨x5_1, x8_1, rfl, HA, HK1, HO_5, BK287, HB⟩ := hrel
  cases gk with
  | zero => exact absurd HA.out (by simp [impl_refusedBy.l0])
  | succ k1 =>
   have H := HA.out; clear HA
   simp only [impl_refusedBy.l0] at H
   by_cases c6 : x8_1 < 7
   ·rw [if_pos c6] at H
    have c6b0 : decide (x8_1 < 7) = true := decide_eq_true c6
    clear c6; replace H := bS H; obtain ⟨t291, A7, H⟩ := H
    replace H : (if t291 = true then ((impl_Statement_144.f k1 l0 x8_1 a1_0 a1_1 a1_2 false).bind fun t292 => (if t292 = true then (impl_refusedBy.l0 k1 l0 x5_1 (wrap64 (x8_1 + 1)) a1_0 a1_1 a1_2) else (if x5_1.length < 17592186044416 then (impl_refusedBy.l0 k1 l0 (x5_1 ++ [x8_1]) (wrap64 (x8_1 + 1)) a1_0 a1_1 a1_2) else (none)))) else (impl_refusedBy.l0 k1 l0 x5_1 (wrap64 (x8_1 + 1)) a1_0 a1_1 a1_2)) = some r := H
    by_cases c8 : t291 = true
    ·subst c8
     have H1 : ((impl_Statement_144.f k1 l0 x8_1 a1_0 a1_1 a1_2 false).bind fun t292 => (if t292 = true then (impl_refusedBy.l0 k1 l0 x5_1 (wrap64 (x8_1 + 1)) a1_0 a1_1 a1_2) else (if x5_1.length < 17592186044416 then (impl_refusedBy.l0 k1 l0 (x5_1 ++ [x8_1]) (wrap64 (x8_1 + 1)) a1_0 a1_1 a1_2) else (none)))) = some r := by rw [if_pos rfl] at H; exact H
     clear H
     have H := H1
     clear H1; replace H := bS H; obtain ⟨t292, A9, H⟩ := H
     replace H : (if t292 = true then (impl_refusedBy.l0 k1 l0 x5_1 (wrap64 (x8_1 + 1)) a1_0 a1_1 a1_2) else (if x5_1.length < 17592186044416 then (impl_refusedBy.l0 k1 l0 (x5_1 ++ [x8_1]) (wrap64 (x8_1 + 1)) a1_0 a1_1 a1_2) else (none))) = some r := H
     by_cases c10 : t292 = true
     ·subst c10
      have H1 : (impl_refusedBy.l0 k1 l0 x5_1 (wrap64 (x8_1 + 1)) a1_0 a1_1 a1_2) = some r := by rw [if_pos rfl] at H; exact H
      clear H
      have H := H1
      clear H1
      have H' := Aside0.mk H
      clear H; obtain ⟨hcz11_0, hcz11_1, hcz11_2, hfz11_0, hfz11_1, hfz11_2⟩ := box3 BK287
      go_wp2_with (first | ((with_reducible refine gate_callee (f := 144) rfl ?_); refine goesLa (some 15) rfl Try.func144 #[.slice A0 l0.length c0, .agg #[.int .i64 x8_1, .int .i64 a1_0, .int .i64 a1_1, .int .i64 a1_2, .bool true]] rfl ?_; (with_reducible refine (impl_Statement_144.calls k1 _ _ l0 x8_1 a1_0 a1_1 a1_2 true true _ ?side1 ?side2 A7.out).mono ?_); (case side1 => exact cd (Kd.C_below HR0.out HB.out)); (case side2 => exact HC0.out); rintro e w12 ⟨rfl, hb⟩; refine ⟨_, rfl, ?_⟩; replace HO_5 := ak (Kd.R_below (rdl HO_5) hb); replace BK287 := ak (blk_below (blkd BK287) hb); replace HB := ak (below_step (belowg1 HB GE287) hb); (try clear hb); obtain ⟨hcz13_0, hcz13_1, hcz13_2, hfz13_0, hfz13_1, hfz13_2⟩ := box3 BK287) | (go_at_call 144; (with_reducible refine (impl_Statement_144.calls k1 _ _ l0 x8_1 a1_0 a1_1 a1_2 false true _ ?side1 ?side2 A9.out).mono ?_); (case side1 => exact cd (Kd.C_below HR0.out HB.out)); (case side2 => exact HC0.out); rintro e w14 ⟨rfl, hb⟩; replace HO_5 := ak (Kd.R_below (rdl HO_5) hb); replace BK287 := ak (blk_below (blkd BK287) hb); replace HB := ak (below_step (belowg1 HB GE287) hb); (try clear hb)))
      go_roundg k1
      case measure => have := HK1.out; omega
      case rel => exact ⟨(x5_1), (wrap64 (x8_1 + 1)), er, H', ⟨by have := HK1.out; omega⟩, ⟨rdl HO_5⟩, ⟨blkd BK287⟩, ⟨belowg1 HB GE287⟩⟩
     ·replace c10 := Bool.eq_false_iff.mpr c10
      subst c10
      have H1 : (if x5_1.length < 17592186044416 then (impl_refusedBy.l0 k1 l0 (x5_1 ++ [x8_1]) (wrap64 (x8_1 + 1)) a1_0 a1_1 a1_2) else (none)) = some r := by rw [if_neg (show ¬ (false = true) by decide)] at H; exact H
      clear H
      have H := H1
      clear H1; replace H := ifS H; obtain ⟨c15, H⟩ := H; have LMc15 := Aside0.mk c15; clear c15
      obtain ⟨y293, hy_⟩ : ∃ y_ : List Int, y_ = (x5_1 ++ [x8_1]) := ⟨_, rfl⟩
      replace H : (impl_refusedBy.l0 k1 l0 y293 (wrap64 (x8_1 + 1)) a1_0 a1_1 a1_2) = some r := yH
      have Ny293 := ak hy_; clear hy_
      have H' := Aside0.mk H
      clear H; obtain ⟨hcz16_0, hcz16_1, hcz16_2, hfz16_0, hfz16_1, hfz16_2⟩ := box3 BK287
      go_wp2_with (first | ((with_reducible refine gate_callee (f := 144) rfl ?_); refine goesLa (some 15) rfl Try.func144 #[.slice A0 l0.length c0, .agg #[.int .i64 x8_1, .int .i64 a1_0, .int .i64 a1_1, .int .i64 a1_2, .bool true]] rfl ?_; (with_reducible refine (impl_Statement_144.calls k1 _ _ l0 x8_1 a1_0 a1_1 a1_2 true true _ ?side1 ?side2 A7.out).mono ?_); (case side1 => exact cd (Kd.C_below HR0.out HB.out)); (case side2 => exact HC0.out); rintro e w17 ⟨rfl, hb⟩; refine ⟨_, rfl, ?_⟩; replace HO_5 := ak (Kd.R_below (rdl HO_5) hb); replace BK287 := ak (blk_below (blkd BK287) hb); replace HB := ak (below_step (belowg1 HB GE287) hb); (try clear hb); obtain ⟨hcz18_0, hcz18_1, hcz18_2, hfz18_0, hfz18_1, hfz18_2⟩ := box3 BK287) | (go_at_call 144; (with_reducible refine (impl_Statement_144.calls k1 _ _ l0 x8_1 a1_0 a1_1 a1_2 false false _ ?side1 ?side2 A9.out).mono ?_); (case side1 => exact cd (Kd.C_below HR0.out HB.out)); (case side2 => exact HC0.out); rintro e w19 ⟨rfl, hb⟩; replace HO_5 := ak (Kd.R_below (rdl HO_5) hb); replace BK287 := ak (blk_below (blkd BK287) hb); replace HB := ak (below_step (belowg1 HB GE287) hb); (try clear hb)) | ((with_reducible refine gate_builtin (b := .append) (xs := #[.tmp 24, .tmp 26]) rfl ?_); at_builtin; refine Kd.R_append (Kd.int .i64) (w0 := w) w.heap.size rfl (.tmp 24) (.tmp 26) 23 3 (.int .i64 0) 8 rfl Try.underlying23 info3 rfl (by decide) (by omega) u5 x5_1 x8_1 [.int .i64 x8_1] (fun _ => True) (fun _ => False) rfl rfl ?aP (fun _ hk => hk.elim) ?aF ?aO ?aB ?aS ?aL ?_; (case aP => exact rfl); (case aB => exact (belowg1 HB GE287)); (case aF => exact (fun _ _ => trivial)); (case aO => exact (rdl HO_5)); (case aS => exact (below_size (belowg1 HB GE287))); (case aL => have := LMc15.out; omega); intro v294 w20 ho hb hg hat; rw [← Ny293.out] at ho; replace BK287 := ak (blk_grown (blkd BK287) hg (Kd.R_ne HO_5.out BK287.out (by decide))); replace HB := ak (hb); have HO295 := ak (ho); clear HO_5; clear ho hb hg hat))
      go_roundg k1
      case measure => have := HK1.out; omega
      case rel => exact ⟨(y293), (wrap64 (x8_1 + 1)), er, H', ⟨by have := HK1.out; omega⟩, ⟨rdl HO295⟩, ⟨blkd BK287⟩, ⟨belowg1 HB GE287⟩⟩
    ·replace c8 := Bool.eq_false_iff.mpr c8
     subst c8
     have H1 : (impl_refusedBy.l0 k1 l0 x5_1 (wrap64 (x8_1 + 1)) a1_0 a1_1 a1_2) = some r := by rw [if_neg (show ¬ (false = true) by decide)] at H; exact H
     clear H
     have H := H1
     clear H1
     have H' := Aside0.mk H
     clear H; obtain ⟨hcz21_0, hcz21_1, hcz21_2, hfz21_0, hfz21_1, hfz21_2⟩ := box3 BK287
     go_wp2_with (first | ((with_reducible refine gate_callee (f := 144) rfl ?_); refine goesLa (some 15) rfl Try.func144 #[.slice A0 l0.length c0, .agg #[.int .i64 x8_1, .int .i64 a1_0, .int .i64 a1_1, .int .i64 a1_2, .bool true]] rfl ?_; (with_reducible refine (impl_Statement_144.calls k1 _ _ l0 x8_1 a1_0 a1_1 a1_2 true false _ ?side1 ?side2 A7.out).mono ?_); (case side1 => exact cd (Kd.C_below HR0.out HB.out)); (case side2 => exact HC0.out); rintro e w22 ⟨rfl, hb⟩; refine ⟨_, rfl, ?_⟩; replace HO_5 := ak (Kd.R_below (rdl HO_5) hb); replace BK287 := ak (blk_below (blkd BK287) hb); replace HB := ak (below_step (belowg1 HB GE287) hb); (try clear hb)))
     go_roundg k1
     case measure => have := HK1.out; omega
     case rel => exact ⟨(x5_1), (wrap64 (x8_1 + 1)), er, H', ⟨by have := HK1.out; omega⟩, ⟨rdl HO_5⟩, ⟨blkd BK287⟩, ⟨belowg1 HB GE287⟩⟩
   ·rw [if_neg c6] at H
    have c6b0 : decide (x8_1 < 7) = false := decide_eq_false c6
    clear c6
    obtain rfl := Option.some.inj H
    go_wp2
    go_ret
    exact ⟨_, er2, by (with_reducible repeat (first | apply Kd.R_alloc | apply Kd.R_drewN | apply Kd.R_drew)); exact HO_5.out, belowg1 HB GE287⟩

/-! ### impl_debits: function 155 -/
def impl_debits.l0 : Nat → Int → List (S91) → Int → List (S85) → List (S85) → Int → Int → Option ((List (S85)))
  | 0, _, _, _, _, _, _, _ => none
  | k + 1, x0, x1, x2, x7, x12, x13, x14 => if x14 < x13 then (if 0 ≤ x14 then (if x14 < (x12.length : Int) then (if ((rd_T85 x12 x14).f0) = x2 then ((impl_refusedBy.f k x1 ((rd_T85 x12 x14).f0) ((rd_T85 x12 x14).f1) ((rd_T85 x12 x14).f2)).bind fun t304 => (if (t304.length : Int) > x0 then (if x7.length < 5864062014805 then (impl_debits.l0 k x0 x1 x2 (x7 ++ [(⟨(rd_T85 x12 x14).f0, (rd_T85 x12 x14).f1, (rd_T85 x12 x14).f2⟩ : S85)]) x12 x13 (wrap64 (x14 + 1))) else (none)) else (impl_debits.l0 k x0 x1 x2 x7 x12 x13 (wrap64 (x14 + 1))))) else (impl_debits.l0 k x0 x1 x2 x7 x12 x13 (wrap64 (x14 + 1)))) else (none)) else (none)) else (some x7)
def impl_debits.f (k : Nat) (a0 : Int) (l1 : List (S91)) (a2 : Int) : Option ((List (S85))) := (impl_claimsIn.f k l1).bind fun t299 => (impl_debits.l0 k a0 l1 a2 (([] : List (S85))) t299 (t299.length : Int) 0)
theorem impl_debits.mono_l : ∀ k, (∀ y0 y1 y2 y3 y4 y5 y6, LeO (impl_debits.l0 k y0 y1 y2 y3 y4 y5 y6) (impl_debits.l0 (k + 1) y0 y1 y2 y3 y4 y5 y6))
 | 0 => fun _ _ _ _ _ _ _ r h => by simp [impl_debits.l0] at h
 | k + 1 => by
  have ih0 := impl_debits.mono_l k
  ·intro y0 y1 y2 y3 y4 y5 y6
   unfold impl_debits.l0
   repeat' (first | (with_reducible first | exact ih0 _ _ _ _ _ _ _ | exact impl_claimsIn.mono _ _ | exact impl_refusedBy.mono _ _ _ _ _ | exact LeO.refl _ | exact LeO.none _ | refine LeO.ite ?_ ?_ | refine LeO.bind ?_ (fun _ => ?_)) | exact ih0 _ _ _ _ _ _ _ | exact impl_claimsIn.mono _ _ | exact impl_refusedBy.mono _ _ _ _ _ | exact LeO.none _ | refine LeO.ite ?_ ?_ | refine LeO.bind ?_ (fun _ => ?_))
theorem impl_debits.mono : ∀ a0 a1 a2 k, LeO (impl_debits.f k a0 a1 a2) (impl_debits.f (k + 1) a0 a1 a2) := by
 intro a0 a1 a2 k
 have ih0 := impl_debits.mono_l k
 unfold impl_debits.f
 repeat' (first | (with_reducible first | exact ih0 _ _ _ _ _ _ _ | exact impl_claimsIn.mono _ _ | exact impl_refusedBy.mono _ _ _ _ _ | exact LeO.refl _ | exact LeO.none _ | refine LeO.ite ?_ ?_ | refine LeO.bind ?_ (fun _ => ?_)) | exact ih0 _ _ _ _ _ _ _ | exact impl_claimsIn.mono _ _ | exact impl_refusedBy.mono _ _ _ _ _ | exact LeO.none _ | refine LeO.ite ?_ ?_ | refine LeO.bind ?_ (fun _ => ?_))
set_option maxHeartbeats 8000000 in
set_option maxRecDepth 100000 in
theorem impl_debits.calls (k : Nat) (a0 : Int) (A1 : Option Addr) (c1 : Nat) (l1 : List (S91)) (a2 : Int) (r : List (S85)) (w : World) (hr1 : Kd.C k91 w A1 l1.length l1) (hc1 : l1.length ≤ c1) (h : impl_debits.f k a0 l1 a2 = some r) :
  Calls Try.prog 155 #[.int .i64 a0, .slice A1 l1.length c1, .int .i64 a2] w fun e w' => ∃ v0_ : Value, e = .returned (v0_) ∧ Kd.R k85 85 w' w.heap.size (fun _ => True) v0_ r ∧ Below w.heap.size w w' := by
 have hu85 := Try.underlying85
 have HR1 := Aside0.mk hr1; have HC1 := Aside0.mk hc1; clear hr1 hc1
 have HB := Aside0.mk (Below.refl w.heap.size w)
 have H : ((impl_claimsIn.f k l1).bind fun t299 => (impl_debits.l0 k a0 l1 a2 (([] : List (S85))) t299 (t299.length : Int) 0)) = some r := h
 clear h
 obtain ⟨y296, hy_⟩ : ∃ y_ : List (S85), y_ = (([] : List (S85))) := ⟨_, rfl⟩
 replace H : ((impl_claimsIn.f k l1).bind fun t299 => (impl_debits.l0 k a0 l1 a2 y296 t299 (t299.length : Int) 0)) = some r := yH
 have Ny296 := ak hy_; clear hy_; replace H := bS H; obtain ⟨t299, A4, H⟩ := H
 replace H : (impl_debits.l0 k a0 l1 a2 y296 t299 (t299.length : Int) 0) = some r := H
 have H' := Aside0.mk H
 clear H
 go_enter Try.func155, Try.ntmps155
 go_wp2_with (first | ((with_reducible refine gate_dst (N := 10) rfl ?_); (try (refine gate_guard (by rfl) ?_; dsimp only)); refine Kd.R_lit k85 _ 85 ?hg (N := 10) ?hd (xs := ([] : List (S85))) (inner := []) (ok := fun _ => True) (okp := fun _ => True) ?hr ?hp (fun _ hk => hk) trivial (Below.refl _ _) (Nat.le_refl _) (by simp) ?_; (case hd => rfl); (case hg => rfl); (case hr => first | (go_simp; done) | (go_simp; rfl)); (case hp => exact (Reps.none _ _)); intro v297 w5 ho6 hb hg_ hnew_; clear hg_ hnew_; (first | rw [← Ny296.out] at ho6 | (simp only [Int.reduceToNat] at ho6; rw [← Ny296.out] at ho6)); have HO298 := ak (Kd.R_lower ho6 (below_size (belowd HB))); replace HB := ak (below_step (belowd HB) hb); clear hb ho6) | ((with_reducible refine gate_callee (f := 139) rfl ?_); refine goesLa (some 12) rfl Try.func139 #[.slice A1 l1.length c1] rfl ?_; (with_reducible refine (impl_claimsIn.calls k _ _ l1 t299 _ ?side1 ?side2 A4.out).mono ?_); (case side1 => exact cd (Kd.C_below HR1.out HB.out)); (case side2 => exact HC1.out); rintro e w7 ⟨v300, rfl, ho0, hb⟩; refine ⟨_, rfl, ?_⟩; have HO301 := ak (Kd.R_lower (Kd.R_new' ho0 (Kd.R_lt (rdl HO298))) (below_size (belowd HB))); replace HO298 := ak (Kd.R_elder' (rdl HO298) (Kd.R_base ho0) hb); replace HB := ak (below_step (belowd HB) hb); (try clear hb); (try clear ho0); obtain ⟨Ao8, co8, eo8⟩ := Kd.R_slice HO301.out; subst eo8))
 go_loopg [7, 14] k (fun kq v7 v14 w' => ∃ (x7_1 : List (S85)) (x14_1 : Int), v14 = .int .i64 x14_1 ∧ Aside0 (impl_debits.l0 kq a0 l1 a2 x7_1 t299 (t299.length : Int) x14_1 = some r) ∧ Aside0 (kq ≤ k) ∧ Aside0 (Kd.R k85 85 w' w.heap.size (fun k_ => some k_ ≠ ((.slice Ao8 t299.length co8) : Value).ownBlock) v7 x7_1) ∧ Aside0 (Kd.R k85 85 w' w.heap.size (fun k_ => some k_ ≠ (v7 : Value).ownBlock) (.slice Ao8 t299.length co8) t299) ∧ Aside0 (Below w.heap.size w w'))
 case atStart => exact ⟨(y296), (0), er, H', ⟨Nat.le_refl _⟩, ⟨by (with_reducible repeat (first | apply Kd.R_alloc | apply Kd.R_drewN | apply Kd.R_drew)); exact Kd.R_mono HO298.out (fun _ hk => hk.2)⟩, ⟨by (with_reducible repeat (first | apply Kd.R_alloc | apply Kd.R_drewN | apply Kd.R_drew)); exact Kd.R_mono HO301.out (fun _ hk => hk.2)⟩, ⟨belowd HB⟩⟩
 case round =>
  clear H'
  (try clear c1)
  obtain ⟨x7_1, x14_1, rfl, HA, HK1, HO_7, HO_12, HB⟩ := hrel
  cases gk with
  | zero => exact absurd HA.out (by simp [impl_debits.l0])
  | succ k1 =>
   have H := HA.out; clear HA
   simp only [impl_debits.l0] at H
   by_cases c9 : x14_1 < (t299.length : Int)
   ·rw [if_pos c9] at H
    have c9b0 : decide (x14_1 < (t299.length : Int)) = true := decide_eq_true c9
    clear c9; replace H := ifS H; obtain ⟨c10, H⟩ := H; have c10b0 := decide_eq_true c10; clear c10; replace H := ifS H; obtain ⟨c11, H⟩ := H; have c11b0 := decide_eq_true c11; clear c11
    by_cases c12 : ((rd_T85 t299 x14_1).f0) = a2
    ·rw [if_pos c12] at H
     have c12b0 : (((rd_T85 t299 x14_1).f0) == a2) = true := beq_iff_eq.mpr c12
     have c12b1 : (((rd_T85 t299 x14_1).f0) != a2) = false := bne_eq_false_iff_eq.mpr c12
     clear c12; replace H := bS H; obtain ⟨t304, A13, H⟩ := H
     replace H : (if (t304.length : Int) > a0 then (if x7_1.length < 5864062014805 then (impl_debits.l0 k1 a0 l1 a2 (x7_1 ++ [(⟨(rd_T85 t299 x14_1).f0, (rd_T85 t299 x14_1).f1, (rd_T85 t299 x14_1).f2⟩ : S85)]) t299 (t299.length : Int) (wrap64 (x14_1 + 1))) else (none)) else (impl_debits.l0 k1 a0 l1 a2 x7_1 t299 (t299.length : Int) (wrap64 (x14_1 + 1)))) = some r := H
     by_cases c14 : (t304.length : Int) > a0
     ·rw [if_pos c14] at H
      have c14b0 : decide (a0 < (t304.length : Int)) = true := decide_eq_true c14
      clear c14; replace H := ifS H; obtain ⟨c15, H⟩ := H; have LMc15 := Aside0.mk c15; clear c15
      obtain ⟨y307, hy_⟩ : ∃ y_ : List (S85), y_ = (x7_1 ++ [(⟨(rd_T85 t299 x14_1).f0, (rd_T85 t299 x14_1).f1, (rd_T85 t299 x14_1).f2⟩ : S85)]) := ⟨_, rfl⟩
      replace H : (impl_debits.l0 k1 a0 l1 a2 y307 t299 (t299.length : Int) (wrap64 (x14_1 + 1))) = some r := yH
      have Ny307 := ak hy_; clear hy_
      have H' := Aside0.mk H
      clear H
      have p302 : 0 ≤ (x14_1 : Int) := da
      have q302 : x14_1 < (t299.length : Int) := da
      obtain ⟨ad302, e302, hx302_0, hx302_1, hx302_2⟩ := at_T85 (Kd.R_reads' HO_12.out).2.2 x14_1 p302 q302
      cases e302
      replace p302 := eq_true p302; replace q302 := eq_true q302
      go_wp2_with (first | ((with_reducible refine gate_dst (N := 9) rfl ?_); (try (refine gate_guard (by rfl) ?_; dsimp only)); refine boxev 9 #[.int .i64 0, .int .i64 0, .int .i64 0] 85 ?_; intro gb303 hg w16 hbox hb; replace HO_7 := ak (Kd.R_below (Kd.R_elderB (rdl HO_7) gb303 (Nat.le_of_eq hg.symm)) hb); replace HO_12 := ak (Kd.R_below (Kd.R_elderB (rdl HO_12) gb303 (Nat.le_of_eq hg.symm)) hb); have BK303 := ak (hbox); have GW303 := ak (hgl hg (belowd HB)); have GE303 := ak (hgl hg (belowd HB)); replace HB := ak (below_step (belowd HB) hb); clear hb hbox hg; obtain ⟨hcz17_0, hcz17_1, hcz17_2, hfz17_0, hfz17_1, hfz17_2⟩ := box3 BK303) | (go_at_call 146; (with_reducible refine (impl_refusedBy.calls k1 _ _ l1 ((rd_T85 t299 x14_1).f0) ((rd_T85 t299 x14_1).f1) ((rd_T85 t299 x14_1).f2) t304 _ ?side1 ?side2 A13.out).mono ?_); (case side1 => exact Kd.C_below HR1.out (belowg1 HB GE303)); (case side2 => exact HC1.out); rintro e w18 ⟨v305, rfl, ho0, hb⟩; replace HO_7 := ak (Kd.R_below (by (with_reducible repeat (first | apply Kd.R_alloc | apply Kd.R_drewN | apply Kd.R_drew)); exact (Kd.R_mono (farsR (Kd.R_mono HO_7.out (fun k_ hk => (⟨hk, hk.2⟩ : _ ∧ k_ ≠ gb303)))) (fun _ h_ => h_.1))) hb); replace HO_12 := ak (Kd.R_below (by (with_reducible repeat (first | apply Kd.R_alloc | apply Kd.R_drewN | apply Kd.R_drew)); exact (Kd.R_mono (farsR (Kd.R_mono HO_12.out (fun k_ hk => (⟨hk, hk.2⟩ : _ ∧ k_ ≠ gb303)))) (fun _ h_ => h_.1))) hb); have HO306 := ak (Kd.R_lower ho0 (below_size (belowg1 HB GE303))); replace BK303 := ak (blk_below (g := gb303) (o := .cells #[.int .i64 ((rd_T85 t299 x14_1).f0), .int .i64 ((rd_T85 t299 x14_1).f1), .int .i64 ((rd_T85 t299 x14_1).f2)] 85 (0, 0)) (by (with_reducible repeat (first | refine blk_drewN ?_ _ | refine blk_drew ?_ | refine blk_alloc ?_ _)); refine blk_put (cs := #[.int .i64 ((rd_T85 t299 x14_1).f0), .int .i64 ((rd_T85 t299 x14_1).f1), .int .i64 0]) ?_ 2 _ rfl; (with_reducible repeat (first | refine blk_drewN ?_ _ | refine blk_drew ?_ | refine blk_alloc ?_ _)); refine blk_put (cs := #[.int .i64 ((rd_T85 t299 x14_1).f0), .int .i64 0, .int .i64 0]) ?_ 1 _ rfl; (with_reducible repeat (first | refine blk_drewN ?_ _ | refine blk_drew ?_ | refine blk_alloc ?_ _)); refine blk_put (cs := #[.int .i64 0, .int .i64 0, .int .i64 0]) ?_ 0 _ rfl; (with_reducible repeat (first | refine blk_drewN ?_ _ | refine blk_drew ?_ | refine blk_alloc ?_ _)); exact BK303.out) hb); replace HB := ak (below_step (belowg1 HB GE303) hb); (try clear hb); (try clear ho0); obtain ⟨Ao19, co19, eo19⟩ := Kd.R_slice HO306.out; subst eo19; obtain ⟨hcz20_0, hcz20_1, hcz20_2, hfz20_0, hfz20_1, hfz20_2⟩ := box3 BK303) | ((with_reducible refine gate_builtin (b := .append) (xs := #[.tmp 30, .tmp 32]) rfl ?_); (try (refine gate_guard (by rfl) ?_; dsimp only)); at_builtin; refine Kd.R_append k85 (w0 := w) w.heap.size rfl (.tmp 30) (.tmp 32) 70 85 (.agg #[(.int .i64 0), (.int .i64 0), (.int .i64 0)]) 24 rfl Try.underlying70 info85 rfl (by decide) (by omega) u7 x7_1 (⟨(rd_T85 t299 x14_1).f0, (rd_T85 t299 x14_1).f1, (rd_T85 t299 x14_1).f2⟩ : S85) [.int .i64 ((rd_T85 t299 x14_1).f0), .int .i64 ((rd_T85 t299 x14_1).f1), .int .i64 ((rd_T85 t299 x14_1).f2)] (fun k_ => some k_ ≠ (.slice (some ad302) t299.length co8 : Value).ownBlock ∧ k_ ≠ gb303) (fun _ => False) rfl rfl ?aP (fun _ hk => hk.elim) ?aF ?aO ?aB ?aS ?aL ?_; (case aP => exact k85_mkM _ _ _ (⟨(rd_T85 t299 x14_1).f0, (rd_T85 t299 x14_1).f1, (rd_T85 t299 x14_1).f2⟩ : S85)); (case aB => exact (belowg1 HB GE303)); (case aF => exact (fun k_ hk => ⟨Kd.fresh' (Kd.R_lt (rdl HO_12)) k_ hk, Kd.freshB (blkd BK303) k_ hk⟩)); (case aO => exact (rdl HO_7)); (case aS => exact (below_size (belowg1 HB GE303))); (case aL => have := LMc15.out; omega); intro v308 w21 ho hb hg hat; rw [← Ny307.out] at ho; replace HO_12 := ak (Kd.R_after (ok := (fun k_ => k_ ≠ gb303)) (by (with_reducible repeat (first | apply Kd.R_alloc | apply Kd.R_drewN | apply Kd.R_drew)); exact Kd.R_mono HO_12.out (fun _ hk => ⟨hk.2, hk.1⟩)) hg hat); replace BK303 := ak (blk_grown (blkd BK303) hg (Kd.R_away HO_7.out (fun _ hk => hk.2))); replace HO306 := ak (Kd.R_over' (rdl HO306) (Kd.R_typed (rdl HO_7)) (by decide) hg); replace HB := ak (hb); have HO309 := ak (ho); clear HO_7; clear ho hb hg hat))
      go_roundg k1
      case measure => have := HK1.out; omega
      case rel => exact ⟨(y307), (wrap64 (x14_1 + 1)), er, H', ⟨by have := HK1.out; omega⟩, ⟨by (with_reducible repeat (first | apply Kd.R_alloc | apply Kd.R_drewN | apply Kd.R_drew)); exact Kd.R_mono HO309.out (fun _ hk => hk.1)⟩, ⟨by (with_reducible repeat (first | apply Kd.R_alloc | apply Kd.R_drewN | apply Kd.R_drew)); exact Kd.R_mono HO_12.out (fun _ hk => hk.2)⟩, ⟨belowg1 HB GE303⟩⟩
     ·rw [if_neg c14] at H
      have c14b0 : decide (a0 < (t304.length : Int)) = false := decide_eq_false c14
      clear c14
      have H' := Aside0.mk H
      clear H
      have p302 : 0 ≤ (x14_1 : Int) := da
      have q302 : x14_1 < (t299.length : Int) := da
      obtain ⟨ad302, e302, hx302_0, hx302_1, hx302_2⟩ := at_T85 (Kd.R_reads' HO_12.out).2.2 x14_1 p302 q302
      cases e302
      replace p302 := eq_true p302; replace q302 := eq_true q302
      go_wp2_with (first | ((with_reducible refine gate_dst (N := 9) rfl ?_); (try (refine gate_guard (by rfl) ?_; dsimp only)); refine boxev 9 #[.int .i64 0, .int .i64 0, .int .i64 0] 85 ?_; intro gb303 hg w22 hbox hb; replace HO_7 := ak (Kd.R_below (Kd.R_elderB (rdl HO_7) gb303 (Nat.le_of_eq hg.symm)) hb); replace HO_12 := ak (Kd.R_below (Kd.R_elderB (rdl HO_12) gb303 (Nat.le_of_eq hg.symm)) hb); have BK303 := ak (hbox); have GW303 := ak (hgl hg (belowd HB)); have GE303 := ak (hgl hg (belowd HB)); replace HB := ak (below_step (belowd HB) hb); clear hb hbox hg; obtain ⟨hcz23_0, hcz23_1, hcz23_2, hfz23_0, hfz23_1, hfz23_2⟩ := box3 BK303) | (go_at_call 146; (with_reducible refine (impl_refusedBy.calls k1 _ _ l1 ((rd_T85 t299 x14_1).f0) ((rd_T85 t299 x14_1).f1) ((rd_T85 t299 x14_1).f2) t304 _ ?side1 ?side2 A13.out).mono ?_); (case side1 => exact Kd.C_below HR1.out (belowg1 HB GE303)); (case side2 => exact HC1.out); rintro e w24 ⟨v305, rfl, ho0, hb⟩; replace HO_7 := ak (Kd.R_below (by (with_reducible repeat (first | apply Kd.R_alloc | apply Kd.R_drewN | apply Kd.R_drew)); exact (Kd.R_mono (farsR (Kd.R_mono HO_7.out (fun k_ hk => (⟨hk, hk.2⟩ : _ ∧ k_ ≠ gb303)))) (fun _ h_ => h_.1))) hb); replace HO_12 := ak (Kd.R_below (by (with_reducible repeat (first | apply Kd.R_alloc | apply Kd.R_drewN | apply Kd.R_drew)); exact (Kd.R_mono (farsR (Kd.R_mono HO_12.out (fun k_ hk => (⟨hk, hk.2⟩ : _ ∧ k_ ≠ gb303)))) (fun _ h_ => h_.1))) hb); have HO306 := ak (Kd.R_lower ho0 (below_size (belowg1 HB GE303))); replace BK303 := ak (blk_below (g := gb303) (o := .cells #[.int .i64 ((rd_T85 t299 x14_1).f0), .int .i64 ((rd_T85 t299 x14_1).f1), .int .i64 ((rd_T85 t299 x14_1).f2)] 85 (0, 0)) (by (with_reducible repeat (first | refine blk_drewN ?_ _ | refine blk_drew ?_ | refine blk_alloc ?_ _)); refine blk_put (cs := #[.int .i64 ((rd_T85 t299 x14_1).f0), .int .i64 ((rd_T85 t299 x14_1).f1), .int .i64 0]) ?_ 2 _ rfl; (with_reducible repeat (first | refine blk_drewN ?_ _ | refine blk_drew ?_ | refine blk_alloc ?_ _)); refine blk_put (cs := #[.int .i64 ((rd_T85 t299 x14_1).f0), .int .i64 0, .int .i64 0]) ?_ 1 _ rfl; (with_reducible repeat (first | refine blk_drewN ?_ _ | refine blk_drew ?_ | refine blk_alloc ?_ _)); refine blk_put (cs := #[.int .i64 0, .int .i64 0, .int .i64 0]) ?_ 0 _ rfl; (with_reducible repeat (first | refine blk_drewN ?_ _ | refine blk_drew ?_ | refine blk_alloc ?_ _)); exact BK303.out) hb); replace HB := ak (below_step (belowg1 HB GE303) hb); (try clear hb); (try clear ho0); obtain ⟨Ao25, co25, eo25⟩ := Kd.R_slice HO306.out; subst eo25))
      go_roundg k1
      case measure => have := HK1.out; omega
      case rel => exact ⟨(x7_1), (wrap64 (x14_1 + 1)), er, H', ⟨by have := HK1.out; omega⟩, ⟨by (with_reducible repeat (first | apply Kd.R_alloc | apply Kd.R_drewN | apply Kd.R_drew)); exact Kd.R_mono HO_7.out (fun _ hk => hk.1)⟩, ⟨by (with_reducible repeat (first | apply Kd.R_alloc | apply Kd.R_drewN | apply Kd.R_drew)); exact Kd.R_mono HO_12.out (fun _ hk => hk.1)⟩, ⟨belowg1 HB GE303⟩⟩
    ·rw [if_neg c12] at H
     have c12b0 : (((rd_T85 t299 x14_1).f0) == a2) = false := beq_eq_false_iff_ne.mpr c12
     have c12b1 : (((rd_T85 t299 x14_1).f0) != a2) = true := bne_iff_ne.mpr c12
     have H' := Aside0.mk H
     clear H
     have p302 : 0 ≤ (x14_1 : Int) := da
     have q302 : x14_1 < (t299.length : Int) := da
     obtain ⟨ad302, e302, hx302_0, hx302_1, hx302_2⟩ := at_T85 (Kd.R_reads' HO_12.out).2.2 x14_1 p302 q302
     cases e302
     replace p302 := eq_true p302; replace q302 := eq_true q302
     go_wp2_with (first | ((with_reducible refine gate_dst (N := 9) rfl ?_); (try (refine gate_guard (by rfl) ?_; dsimp only)); refine boxev 9 #[.int .i64 0, .int .i64 0, .int .i64 0] 85 ?_; intro gb303 hg w26 hbox hb; replace HO_7 := ak (Kd.R_below (Kd.R_elderB (rdl HO_7) gb303 (Nat.le_of_eq hg.symm)) hb); replace HO_12 := ak (Kd.R_below (Kd.R_elderB (rdl HO_12) gb303 (Nat.le_of_eq hg.symm)) hb); have BK303 := ak (hbox); have GW303 := ak (hgl hg (belowd HB)); have GE303 := ak (hgl hg (belowd HB)); replace HB := ak (below_step (belowd HB) hb); clear hb hbox hg; obtain ⟨hcz27_0, hcz27_1, hcz27_2, hfz27_0, hfz27_1, hfz27_2⟩ := box3 BK303))
     go_roundg k1
     case measure => have := HK1.out; omega
     case rel => exact ⟨(x7_1), (wrap64 (x14_1 + 1)), er, H', ⟨by have := HK1.out; omega⟩, ⟨by (with_reducible repeat (first | apply Kd.R_alloc | apply Kd.R_drewN | apply Kd.R_drew)); exact Kd.R_mono (farsR (Kd.R_mono HO_7.out (fun k_ hk => (⟨hk, hk.2⟩ : _ ∧ k_ ≠ gb303)))) (fun _ hk => hk.1.1)⟩, ⟨by (with_reducible repeat (first | apply Kd.R_alloc | apply Kd.R_drewN | apply Kd.R_drew)); exact Kd.R_mono (farsR (Kd.R_mono HO_12.out (fun k_ hk => (⟨hk, hk.2⟩ : _ ∧ k_ ≠ gb303)))) (fun _ hk => hk.1.1)⟩, ⟨belowg1 HB GE303⟩⟩
   ·rw [if_neg c9] at H
    have c9b0 : decide (x14_1 < (t299.length : Int)) = false := decide_eq_false c9
    clear c9
    obtain rfl := Option.some.inj H
    go_wp2
    go_ret
    exact ⟨_, er2, by (with_reducible repeat (first | apply Kd.R_alloc | apply Kd.R_drewN | apply Kd.R_drew)); exact Kd.R_mono HO_7.out (fun _ hk => trivial), belowd HB⟩

-- NOT PRINTED: function 208 (impl_Claim_208)

-- NOT PRINTED: function 158 (impl_Claim_158)

/-! ### impl_Claim_209: function 209 -/
def impl_Claim_209.l0 : Nat → List (S85) → Int → Int → Int → Int → Int → Option (Int)
  | 0, _, _, _, _, _, _ => none
  | k + 1, x0, x7, x8, x311000, x311001, x311002 => if x8 < x7 then (if 0 ≤ x8 then (if x8 < (x0.length : Int) then (if (x311000 == ((rd_T85 x0 x8).f0) && (x311001 == ((rd_T85 x0 x8).f1) && (x311002 == ((rd_T85 x0 x8).f2)))) = true then (some x8) else (impl_Claim_209.l0 k x0 x7 (wrap64 (x8 + 1)) x311000 x311001 x311002)) else (none)) else (none)) else (some (-1))
def impl_Claim_209.f (k : Nat) (l0 : List (S85)) (a1_0 : Int) (a1_1 : Int) (a1_2 : Int) : Option (Int) := impl_Claim_209.l0 k l0 (l0.length : Int) 0 a1_0 a1_1 a1_2
theorem impl_Claim_209.mono_l : ∀ k, (∀ y0 y1 y2 y3 y4 y5, LeO (impl_Claim_209.l0 k y0 y1 y2 y3 y4 y5) (impl_Claim_209.l0 (k + 1) y0 y1 y2 y3 y4 y5))
 | 0 => fun _ _ _ _ _ _ r h => by simp [impl_Claim_209.l0] at h
 | k + 1 => by
  have ih0 := impl_Claim_209.mono_l k
  ·intro y0 y1 y2 y3 y4 y5
   unfold impl_Claim_209.l0
   repeat' (first | (with_reducible first | exact ih0 _ _ _ _ _ _ | exact LeO.refl _ | exact LeO.none _ | refine LeO.ite ?_ ?_ | refine LeO.bind ?_ (fun _ => ?_)) | exact ih0 _ _ _ _ _ _ | exact LeO.none _ | refine LeO.ite ?_ ?_ | refine LeO.bind ?_ (fun _ => ?_))
theorem impl_Claim_209.mono : ∀ a0 a1 a2 a3 k, LeO (impl_Claim_209.f k a0 a1 a2 a3) (impl_Claim_209.f (k + 1) a0 a1 a2 a3) := by
 intro a0 a1 a2 a3 k
 have ih0 := impl_Claim_209.mono_l k
 unfold impl_Claim_209.f
 repeat' (first | (with_reducible first | exact ih0 _ _ _ _ _ _ | exact LeO.refl _ | exact LeO.none _ | refine LeO.ite ?_ ?_ | refine LeO.bind ?_ (fun _ => ?_)) | exact ih0 _ _ _ _ _ _ | exact LeO.none _ | refine LeO.ite ?_ ?_ | refine LeO.bind ?_ (fun _ => ?_))
set_option maxHeartbeats 8000000 in
set_option maxRecDepth 100000 in
theorem impl_Claim_209.calls (k : Nat) (A0 : Option Addr) (c0 : Nat) (l0 : List (S85)) (a1_0 : Int) (a1_1 : Int) (a1_2 : Int) (r : Int) (w : World) (hr0 : Kd.C k85 w A0 l0.length l0) (hc0 : l0.length ≤ c0) (h : impl_Claim_209.f k l0 a1_0 a1_1 a1_2 = some r) :
  Calls Try.prog 209 #[.slice A0 l0.length c0, .agg #[.int .i64 a1_0, .int .i64 a1_1, .int .i64 a1_2]] w fun e w' => e = .returned (.int .i64 r) ∧ Below w.heap.size w w' := by
 have hu85 := Try.underlying85
 have HR0 := Aside0.mk hr0; have HC0 := Aside0.mk hc0; clear hr0 hc0
 have HB := Aside0.mk (Below.refl w.heap.size w)
 have H : (impl_Claim_209.l0 k l0 (l0.length : Int) 0 a1_0 a1_1 a1_2) = some r := h
 clear h
 have H' := Aside0.mk H
 clear H
 go_enter Try.func209, Try.ntmps209
 go_wp2_with (first | ((with_reducible refine gate_dst (N := 3) rfl ?_); refine boxev 3 #[.int .i64 a1_0, .int .i64 a1_1, .int .i64 a1_2] 85 ?_; intro gb310 hg w3 hbox hb; have BK310 := ak (hbox); have GW310 := ak (hgl hg (belowd HB)); have GE310 := ak (hgl hg (belowd HB)); replace HB := ak (below_step (belowd HB) hb); clear hb hbox hg))
 repeat (go_quiet (first | ((with_reducible refine gate_dst (N := 3) rfl ?_); refine boxev 3 #[.int .i64 a1_0, .int .i64 a1_1, .int .i64 a1_2] 85 ?_; intro gb310 hg w3 hbox hb; have BK310 := ak (hbox); have GW310 := ak (hgl hg (belowd HB)); have GE310 := ak (hgl hg (belowd HB)); replace HB := ak (below_step (belowd HB) hb); clear hb hbox hg)); try go_wp2_with (first | ((with_reducible refine gate_dst (N := 3) rfl ?_); refine boxev 3 #[.int .i64 a1_0, .int .i64 a1_1, .int .i64 a1_2] 85 ?_; intro gb310 hg w3 hbox hb; have BK310 := ak (hbox); have GW310 := ak (hgl hg (belowd HB)); have GE310 := ak (hgl hg (belowd HB)); replace HB := ak (below_step (belowd HB) hb); clear hb hbox hg)))
 go_loopg [8] k (fun kq v8 w' => ∃ (x8_1 : Int), v8 = .int .i64 x8_1 ∧ Aside0 (impl_Claim_209.l0 kq l0 (l0.length : Int) x8_1 a1_0 a1_1 a1_2 = some r) ∧ Aside0 (kq ≤ k) ∧ Aside0 (w'.heap[gb310]? = some (.cells #[.int .i64 a1_0, .int .i64 a1_1, .int .i64 a1_2] 85 (0, 0))) ∧ Aside0 (Below w.heap.size w w'))
 case atStart => exact ⟨(0), er, H', ⟨Nat.le_refl _⟩, ⟨blkd BK310⟩, ⟨belowg1 HB GE310⟩⟩
 case round =>
  clear H'
  obtain ⟨x8_1, rfl, HA, HK1, BK310, HB⟩ := hrel
  cases gk with
  | zero => exact absurd HA.out (by simp [impl_Claim_209.l0])
  | succ k1 =>
   have H := HA.out; clear HA
   simp only [impl_Claim_209.l0] at H
   by_cases c4 : x8_1 < (l0.length : Int)
   ·rw [if_pos c4] at H
    have c4b0 : decide (x8_1 < (l0.length : Int)) = true := decide_eq_true c4
    clear c4; replace H := ifS H; obtain ⟨c5, H⟩ := H; have c5b0 := decide_eq_true c5; clear c5; replace H := ifS H; obtain ⟨c6, H⟩ := H; have c6b0 := decide_eq_true c6; clear c6
    by_cases c7 : (a1_0 == ((rd_T85 l0 x8_1).f0) && (a1_1 == ((rd_T85 l0 x8_1).f1) && (a1_2 == ((rd_T85 l0 x8_1).f2)))) = true
    ·rw [if_pos c7] at H
     have c7b0 : (a1_0 == ((rd_T85 l0 x8_1).f0) && (a1_1 == ((rd_T85 l0 x8_1).f1) && (a1_2 == ((rd_T85 l0 x8_1).f2)))) = true := c7
     (try (have c7b1 : decide (a1_0 = ((rd_T85 l0 x8_1).f0) && (a1_1 == ((rd_T85 l0 x8_1).f1) && (a1_2 == ((rd_T85 l0 x8_1).f2)))) = true := by simpa using c7))
     (try (have c7b2 : (a1_0 == ((rd_T85 l0 x8_1).f0) && (a1_1 == ((rd_T85 l0 x8_1).f1) && (a1_2 == ((rd_T85 l0 x8_1).f2)))) = true := by simpa using c7))
     clear c7
     obtain rfl := Option.some.inj H
     obtain ⟨hcz8_0, hcz8_1, hcz8_2, hfz8_0, hfz8_1, hfz8_2⟩ := box3 BK310
     have p311 : 0 ≤ (x8_1 : Int) := da
     have q311 : x8_1 < (l0.length : Int) := da
     obtain ⟨ad311, e311, hx311_0, hx311_1, hx311_2⟩ := at_T85 HR0.out x8_1 p311 q311
     cases e311
     replace hx311_0 := (HB.out.cell (World.block_lt_of_cell? w _ hx311_0)).trans hx311_0
     replace hx311_1 := (HB.out.cell (World.block_lt_of_cell? w _ hx311_1)).trans hx311_1
     replace hx311_2 := (HB.out.cell (World.block_lt_of_cell? w _ hx311_2)).trans hx311_2
     replace p311 := eq_true p311; replace q311 := eq_true q311; go_wp2
     repeat (go_quiet (fail); try go_wp2)
     go_ret
     exact ⟨er2, belowg1 HB GE310⟩
    ·rw [if_neg c7] at H
     have c7b0 : (a1_0 == ((rd_T85 l0 x8_1).f0) && (a1_1 == ((rd_T85 l0 x8_1).f1) && (a1_2 == ((rd_T85 l0 x8_1).f2)))) = false := by simpa using c7
     (try (have c7b1 : decide (a1_0 = ((rd_T85 l0 x8_1).f0) && (a1_1 == ((rd_T85 l0 x8_1).f1) && (a1_2 == ((rd_T85 l0 x8_1).f2)))) = false := by simpa using c7))
     (try (have c7b2 : (a1_0 == ((rd_T85 l0 x8_1).f0) && (a1_1 == ((rd_T85 l0 x8_1).f1) && (a1_2 == ((rd_T85 l0 x8_1).f2)))) = false := by simpa using c7))
     (try (have c7b3 : ¬ (a1_0 = ((rd_T85 l0 x8_1).f0) && (a1_1 == ((rd_T85 l0 x8_1).f1) && (a1_2 == ((rd_T85 l0 x8_1).f2)))) := by simpa using c7))
     clear c7
     have H' := Aside0.mk H
     clear H; obtain ⟨hcz9_0, hcz9_1, hcz9_2, hfz9_0, hfz9_1, hfz9_2⟩ := box3 BK310
     have p311 : 0 ≤ (x8_1 : Int) := da
     have q311 : x8_1 < (l0.length : Int) := da
     obtain ⟨ad311, e311, hx311_0, hx311_1, hx311_2⟩ := at_T85 HR0.out x8_1 p311 q311
     cases e311
     replace hx311_0 := (HB.out.cell (World.block_lt_of_cell? w _ hx311_0)).trans hx311_0
     replace hx311_1 := (HB.out.cell (World.block_lt_of_cell? w _ hx311_1)).trans hx311_1
     replace hx311_2 := (HB.out.cell (World.block_lt_of_cell? w _ hx311_2)).trans hx311_2
     replace p311 := eq_true p311; replace q311 := eq_true q311; go_wp2
     repeat (go_quiet (fail); try go_wp2)
     go_roundg k1
     case measure => have := HK1.out; omega
     case rel => exact ⟨(wrap64 (x8_1 + 1)), er, H', ⟨by have := HK1.out; omega⟩, ⟨blkd BK310⟩, ⟨belowg1 HB GE310⟩⟩
   ·rw [if_neg c4] at H
    have c4b0 : decide (x8_1 < (l0.length : Int)) = false := decide_eq_false c4
    clear c4
    obtain rfl := Option.some.inj H
    go_wp2
    repeat (go_quiet (fail); try go_wp2)
    go_ret
    exact ⟨er2, belowg1 HB GE310⟩

/-! ### impl_Claim_160: function 160 -/
def impl_Claim_160.f (k : Nat) (l0 : List (S85)) (a1_0 : Int) (a1_1 : Int) (a1_2 : Int) : Option (Bool) := (impl_Claim_209.f k l0 a1_0 a1_1 a1_2).bind fun t313 => (some (decide (t313 ≥ 0)))
theorem impl_Claim_160.mono : ∀ a0 a1 a2 a3 k, LeO (impl_Claim_160.f k a0 a1 a2 a3) (impl_Claim_160.f (k + 1) a0 a1 a2 a3) := by
 intro a0 a1 a2 a3 k
 unfold impl_Claim_160.f
 repeat' (first | (with_reducible first | exact impl_Claim_209.mono _ _ _ _ _ | exact LeO.refl _ | exact LeO.none _ | refine LeO.ite ?_ ?_ | refine LeO.bind ?_ (fun _ => ?_)) | exact impl_Claim_209.mono _ _ _ _ _ | exact LeO.none _ | refine LeO.ite ?_ ?_ | refine LeO.bind ?_ (fun _ => ?_))
set_option maxHeartbeats 8000000 in
set_option maxRecDepth 100000 in
theorem impl_Claim_160.calls (k : Nat) (A0 : Option Addr) (c0 : Nat) (l0 : List (S85)) (a1_0 : Int) (a1_1 : Int) (a1_2 : Int) (r : Bool) (w : World) (hr0 : Kd.C k85 w A0 l0.length l0) (hc0 : l0.length ≤ c0) (h : impl_Claim_160.f k l0 a1_0 a1_1 a1_2 = some r) :
  Calls Try.prog 160 #[.slice A0 l0.length c0, .agg #[.int .i64 a1_0, .int .i64 a1_1, .int .i64 a1_2]] w fun e w' => e = .returned (.bool r) ∧ Below w.heap.size w w' := by
 have hu85 := Try.underlying85
 have HR0 := Aside0.mk hr0; have HC0 := Aside0.mk hc0; clear hr0 hc0
 have HB := Aside0.mk (Below.refl w.heap.size w)
 have H : ((impl_Claim_209.f k l0 a1_0 a1_1 a1_2).bind fun t313 => (some (decide (t313 ≥ 0)))) = some r := h
 clear h; replace H := bS H; obtain ⟨t313, A3, H⟩ := H
 replace H : (some (decide (t313 ≥ 0))) = some r := H
 obtain rfl := Option.some.inj H
 go_enter Try.func160, Try.ntmps160
 go_wp2_with (first | ((with_reducible refine gate_dst (N := 3) rfl ?_); refine boxev 3 #[.int .i64 a1_0, .int .i64 a1_1, .int .i64 a1_2] 85 ?_; intro gb312 hg w4 hbox hb; have BK312 := ak (hbox); have GW312 := ak (hgl hg (belowd HB)); have GE312 := ak (hgl hg (belowd HB)); replace HB := ak (below_step (belowd HB) hb); clear hb hbox hg; obtain ⟨hcz5_0, hcz5_1, hcz5_2, hfz5_0, hfz5_1, hfz5_2⟩ := box3 BK312) | ((with_reducible refine gate_callee (f := 209) rfl ?_); refine goesLa (some 7) rfl Try.func209 #[.slice A0 l0.length c0, .agg #[.int .i64 a1_0, .int .i64 a1_1, .int .i64 a1_2]] rfl ?_; (with_reducible refine (impl_Claim_209.calls k _ _ l0 a1_0 a1_1 a1_2 t313 _ ?side1 ?side2 A3.out).mono ?_); (case side1 => exact cd (Kd.C_below HR0.out HB.out)); (case side2 => exact HC0.out); rintro e w6 ⟨rfl, hb⟩; refine ⟨_, rfl, ?_⟩; replace BK312 := ak (blk_below (blkd BK312) hb); replace HB := ak (below_step (belowg1 HB GE312) hb); (try clear hb)))
 go_ret
 exact ⟨er2, belowg1 HB GE312⟩

/-! ### impl_TallyOf_1: function 159 -/
def impl_TallyOf_1.f (a0_0 : Int) (a0_1 : Int) (a0_2 : Int) : Option (Bool) := (impl_GoodClaim.f a0_0 a0_1 a0_2).bind fun t315 => (some (!t315))
set_option maxHeartbeats 8000000 in
set_option maxRecDepth 100000 in
theorem impl_TallyOf_1.calls (a0_0 : Int) (a0_1 : Int) (a0_2 : Int) (r : Bool) (w : World) (h : impl_TallyOf_1.f a0_0 a0_1 a0_2 = some r) :
  Calls Try.prog 159 #[.agg #[.int .i64 a0_0, .int .i64 a0_1, .int .i64 a0_2]] w fun e w' => e = .returned (.bool r) ∧ Below w.heap.size w w' := by
 have hu85 := Try.underlying85
 have HB := Aside0.mk (Below.refl w.heap.size w)
 have H : ((impl_GoodClaim.f a0_0 a0_1 a0_2).bind fun t315 => (some (!t315))) = some r := h
 clear h; replace H := bS H; obtain ⟨t315, A2, H⟩ := H
 replace H : (some (!t315)) = some r := H
 obtain rfl := Option.some.inj H
 go_enter Try.func159, Try.ntmps159
 go_wp2_with (first | ((with_reducible refine gate_dst (N := 1) rfl ?_); refine boxev 1 #[.int .i64 a0_0, .int .i64 a0_1, .int .i64 a0_2] 85 ?_; intro gb314 hg w3 hbox hb; have BK314 := ak (hbox); have GW314 := ak (hgl hg (belowd HB)); have GE314 := ak (hgl hg (belowd HB)); replace HB := ak (below_step (belowd HB) hb); clear hb hbox hg; obtain ⟨hcz4_0, hcz4_1, hcz4_2, hfz4_0, hfz4_1, hfz4_2⟩ := box3 BK314) | ((with_reducible refine gate_callee (f := 145) rfl ?_); refine goesLa (some 4) rfl Try.func145 #[.agg #[.int .i64 a0_0, .int .i64 a0_1, .int .i64 a0_2]] rfl ?_; (with_reducible refine (impl_GoodClaim.calls a0_0 a0_1 a0_2 t315 _ A2.out).mono ?_); rintro e w5 ⟨rfl, hb⟩; refine ⟨_, rfl, ?_⟩; replace BK314 := ak (blk_below (blkd BK314) hb); replace HB := ak (below_step (belowg1 HB GE314) hb); (try clear hb)))
 go_ret
 exact ⟨er2, belowg1 HB GE314⟩

/-! ### slices_IndexFunc_208_at_159: function 208 -/
def slices_IndexFunc_208_at_159.l0 : Nat → List (S85) → Int → Int → Option (Int)
  | 0, _, _, _ => none
  | k + 1, x0, x7, x8 => if x8 < x7 then (if 0 ≤ x8 then (if x8 < (x0.length : Int) then ((impl_TallyOf_1.f ((rd_T85 x0 x8).f0) ((rd_T85 x0 x8).f1) ((rd_T85 x0 x8).f2)).bind fun t317 => (if t317 = true then (some x8) else (slices_IndexFunc_208_at_159.l0 k x0 x7 (wrap64 (x8 + 1))))) else (none)) else (none)) else (some (-1))
def slices_IndexFunc_208_at_159.f (k : Nat) (l0 : List (S85))  : Option (Int) := slices_IndexFunc_208_at_159.l0 k l0 (l0.length : Int) 0
theorem slices_IndexFunc_208_at_159.mono_l : ∀ k, (∀ y0 y1 y2, LeO (slices_IndexFunc_208_at_159.l0 k y0 y1 y2) (slices_IndexFunc_208_at_159.l0 (k + 1) y0 y1 y2))
 | 0 => fun _ _ _ r h => by simp [slices_IndexFunc_208_at_159.l0] at h
 | k + 1 => by
  have ih0 := slices_IndexFunc_208_at_159.mono_l k
  ·intro y0 y1 y2
   unfold slices_IndexFunc_208_at_159.l0
   repeat' (first | (with_reducible first | exact ih0 _ _ _ | exact LeO.refl _ | exact LeO.none _ | refine LeO.ite ?_ ?_ | refine LeO.bind ?_ (fun _ => ?_)) | exact ih0 _ _ _ | exact LeO.none _ | refine LeO.ite ?_ ?_ | refine LeO.bind ?_ (fun _ => ?_))
theorem slices_IndexFunc_208_at_159.mono : ∀ a0 k, LeO (slices_IndexFunc_208_at_159.f k a0) (slices_IndexFunc_208_at_159.f (k + 1) a0) := by
 intro a0 k
 have ih0 := slices_IndexFunc_208_at_159.mono_l k
 unfold slices_IndexFunc_208_at_159.f
 repeat' (first | (with_reducible first | exact ih0 _ _ _ | exact LeO.refl _ | exact LeO.none _ | refine LeO.ite ?_ ?_ | refine LeO.bind ?_ (fun _ => ?_)) | exact ih0 _ _ _ | exact LeO.none _ | refine LeO.ite ?_ ?_ | refine LeO.bind ?_ (fun _ => ?_))
set_option maxHeartbeats 8000000 in
set_option maxRecDepth 100000 in
theorem slices_IndexFunc_208_at_159.calls (k : Nat) (A0 : Option Addr) (c0 : Nat) (l0 : List (S85))  (r : Int) (w : World) (hr0 : Kd.C k85 w A0 l0.length l0) (hc0 : l0.length ≤ c0) (h : slices_IndexFunc_208_at_159.f k l0 = some r) :
  Calls Try.prog 208 #[.slice A0 l0.length c0, .func (.func 159) #[] #[]] w fun e w' => e = .returned (.int .i64 r) ∧ Below w.heap.size w w' := by
 have hu85 := Try.underlying85
 have HR0 := Aside0.mk hr0; have HC0 := Aside0.mk hc0; clear hr0 hc0
 have HB := Aside0.mk (Below.refl w.heap.size w)
 have H : (slices_IndexFunc_208_at_159.l0 k l0 (l0.length : Int) 0) = some r := h
 clear h
 have H' := Aside0.mk H
 clear H
 go_enter Try.func208, Try.ntmps208
 go_wp2
 go_loopg [8] k (fun kq v8 w' => ∃ (x8_1 : Int), v8 = .int .i64 x8_1 ∧ Aside0 (slices_IndexFunc_208_at_159.l0 kq l0 (l0.length : Int) x8_1 = some r) ∧ Aside0 (kq ≤ k) ∧ Aside0 (Below w.heap.size w w'))
 case atStart => exact ⟨(0), er, H', ⟨Nat.le_refl _⟩, ⟨belowd HB⟩⟩
 case round =>
  clear H'
  obtain ⟨x8_1, rfl, HA, HK1, HB⟩ := hrel
  cases gk with
  | zero => exact absurd HA.out (by simp [slices_IndexFunc_208_at_159.l0])
  | succ k1 =>
   have H := HA.out; clear HA
   simp only [slices_IndexFunc_208_at_159.l0] at H
   by_cases c3 : x8_1 < (l0.length : Int)
   ·rw [if_pos c3] at H
    have c3b0 : decide (x8_1 < (l0.length : Int)) = true := decide_eq_true c3
    clear c3; replace H := ifS H; obtain ⟨c4, H⟩ := H; have c4b0 := decide_eq_true c4; clear c4; replace H := ifS H; obtain ⟨c5, H⟩ := H; have c5b0 := decide_eq_true c5; clear c5; replace H := bS H; obtain ⟨t317, A6, H⟩ := H
    replace H : (if t317 = true then (some x8_1) else (slices_IndexFunc_208_at_159.l0 k1 l0 (l0.length : Int) (wrap64 (x8_1 + 1)))) = some r := H
    by_cases c7 : t317 = true
    ·subst c7
     have H1 : (some x8_1) = some r := by rw [if_pos rfl] at H; exact H
     clear H
     have H := H1
     clear H1
     obtain rfl := Option.some.inj H
     have p316 : 0 ≤ (x8_1 : Int) := da
     have q316 : x8_1 < (l0.length : Int) := da
     obtain ⟨ad316, e316, hx316_0, hx316_1, hx316_2⟩ := at_T85 HR0.out x8_1 p316 q316
     cases e316
     replace hx316_0 := (HB.out.cell (World.block_lt_of_cell? w _ hx316_0)).trans hx316_0
     replace hx316_1 := (HB.out.cell (World.block_lt_of_cell? w _ hx316_1)).trans hx316_1
     replace hx316_2 := (HB.out.cell (World.block_lt_of_cell? w _ hx316_2)).trans hx316_2
     replace p316 := eq_true p316; replace q316 := eq_true q316
     go_wp2_with (first | ((with_reducible refine gate_value (f := 159) rfl rfl ?_); refine goesV_ (some 16) rfl rfl Try.func159 (by kernel_rfl) rfl #[.agg #[.int .i64 ((rd_T85 l0 x8_1).f0), .int .i64 ((rd_T85 l0 x8_1).f1), .int .i64 ((rd_T85 l0 x8_1).f2)]] rfl rfl (by (try simp only [List.map_toArray, List.map_cons, List.map_nil]); first | done | rfl | (simp only [List.length_drop, List.length_take]; rfl)) ?_; (with_reducible refine (impl_TallyOf_1.calls ((rd_T85 l0 x8_1).f0) ((rd_T85 l0 x8_1).f1) ((rd_T85 l0 x8_1).f2) true _ A6.out).mono ?_); rintro e w8 ⟨rfl, hb⟩; refine ⟨_, rfl, ?_⟩; replace HB := ak (below_step (belowd HB) hb); (try clear hb)))
     go_ret
     exact ⟨er2, belowd HB⟩
    ·replace c7 := Bool.eq_false_iff.mpr c7
     subst c7
     have H1 : (slices_IndexFunc_208_at_159.l0 k1 l0 (l0.length : Int) (wrap64 (x8_1 + 1))) = some r := by rw [if_neg (show ¬ (false = true) by decide)] at H; exact H
     clear H
     have H := H1
     clear H1
     have H' := Aside0.mk H
     clear H
     have p316 : 0 ≤ (x8_1 : Int) := da
     have q316 : x8_1 < (l0.length : Int) := da
     obtain ⟨ad316, e316, hx316_0, hx316_1, hx316_2⟩ := at_T85 HR0.out x8_1 p316 q316
     cases e316
     replace hx316_0 := (HB.out.cell (World.block_lt_of_cell? w _ hx316_0)).trans hx316_0
     replace hx316_1 := (HB.out.cell (World.block_lt_of_cell? w _ hx316_1)).trans hx316_1
     replace hx316_2 := (HB.out.cell (World.block_lt_of_cell? w _ hx316_2)).trans hx316_2
     replace p316 := eq_true p316; replace q316 := eq_true q316
     go_wp2_with (first | ((with_reducible refine gate_value (f := 159) rfl rfl ?_); refine goesV_ (some 16) rfl rfl Try.func159 (by kernel_rfl) rfl #[.agg #[.int .i64 ((rd_T85 l0 x8_1).f0), .int .i64 ((rd_T85 l0 x8_1).f1), .int .i64 ((rd_T85 l0 x8_1).f2)]] rfl rfl (by (try simp only [List.map_toArray, List.map_cons, List.map_nil]); first | done | rfl | (simp only [List.length_drop, List.length_take]; rfl)) ?_; (with_reducible refine (impl_TallyOf_1.calls ((rd_T85 l0 x8_1).f0) ((rd_T85 l0 x8_1).f1) ((rd_T85 l0 x8_1).f2) false _ A6.out).mono ?_); rintro e w9 ⟨rfl, hb⟩; refine ⟨_, rfl, ?_⟩; replace HB := ak (below_step (belowd HB) hb); (try clear hb)))
     go_roundg k1
     case measure => have := HK1.out; omega
     case rel => exact ⟨(wrap64 (x8_1 + 1)), er, H', ⟨by have := HK1.out; omega⟩, ⟨belowd HB⟩⟩
   ·rw [if_neg c3] at H
    have c3b0 : decide (x8_1 < (l0.length : Int)) = false := decide_eq_false c3
    clear c3
    obtain rfl := Option.some.inj H
    go_wp2
    go_ret
    exact ⟨er2, belowd HB⟩

/-! ### slices_ContainsFunc_158_at_159: function 158 -/
def slices_ContainsFunc_158_at_159.f (k : Nat) (l0 : List (S85))  : Option (Bool) := (slices_IndexFunc_208_at_159.f k l0).bind fun t318 => (some (decide (t318 ≥ 0)))
theorem slices_ContainsFunc_158_at_159.mono : ∀ a0 k, LeO (slices_ContainsFunc_158_at_159.f k a0) (slices_ContainsFunc_158_at_159.f (k + 1) a0) := by
 intro a0 k
 unfold slices_ContainsFunc_158_at_159.f
 repeat' (first | (with_reducible first | exact slices_IndexFunc_208_at_159.mono _ _ | exact LeO.refl _ | exact LeO.none _ | refine LeO.ite ?_ ?_ | refine LeO.bind ?_ (fun _ => ?_)) | exact slices_IndexFunc_208_at_159.mono _ _ | exact LeO.none _ | refine LeO.ite ?_ ?_ | refine LeO.bind ?_ (fun _ => ?_))
set_option maxHeartbeats 8000000 in
set_option maxRecDepth 100000 in
theorem slices_ContainsFunc_158_at_159.calls (k : Nat) (A0 : Option Addr) (c0 : Nat) (l0 : List (S85))  (r : Bool) (w : World) (hr0 : Kd.C k85 w A0 l0.length l0) (hc0 : l0.length ≤ c0) (h : slices_ContainsFunc_158_at_159.f k l0 = some r) :
  Calls Try.prog 158 #[.slice A0 l0.length c0, .func (.func 159) #[] #[]] w fun e w' => e = .returned (.bool r) ∧ Below w.heap.size w w' := by
 have HR0 := Aside0.mk hr0; have HC0 := Aside0.mk hc0; clear hr0 hc0
 have HB := Aside0.mk (Below.refl w.heap.size w)
 have H : ((slices_IndexFunc_208_at_159.f k l0).bind fun t318 => (some (decide (t318 ≥ 0)))) = some r := h
 clear h; replace H := bS H; obtain ⟨t318, A3, H⟩ := H
 replace H : (some (decide (t318 ≥ 0))) = some r := H
 obtain rfl := Option.some.inj H
 go_enter Try.func158, Try.ntmps158
 go_wp2_with (first | ((with_reducible refine gate_callee (f := 208) rfl ?_); refine goesLa (some 7) rfl Try.func208 #[.slice A0 l0.length c0, .func (.func 159) #[] #[]] rfl ?_; (with_reducible refine (slices_IndexFunc_208_at_159.calls k _ _ l0  t318 _ ?side1 ?side2 A3.out).mono ?_); (case side1 => exact cd HR0.out); (case side2 => exact HC0.out); rintro e w4 ⟨rfl, hb⟩; refine ⟨_, rfl, ?_⟩; replace HB := ak (below_step (belowd HB) hb); (try clear hb)))
 go_ret
 exact ⟨er2, belowd HB⟩

end Go.Proofs.Ytkgogglnipdcfaa.QFnExactTallyOf
