-- printed by this session's own program (wip/tools/pp.py: the kit's print.py with changes); Lean checks it
import Derived.Test.YtmhdjkbfghfajaaQFnExactInboxOfx0
import Derived.Test.YtmhdjkbfghfajaaQFnExactInboxOfx2
namespace Go.Proofs.Ytmhdjkbfghfajaa.QFnExactInboxOf
open Go.RowKit Go.Proofs.YtmhdjkbfghfajaaW.PrintWords Go.Proofs.YtmhdjkbfghfajaaW.PrintLast Go.Proofs.YtmhdjkbfghfajaaW.PrintMore
attribute [local go_sem] max2_int min2_int max_two min_two max_three min_three max_four min_four strLss strGtr strLeq strGeq   -- for this text's walks alone
set_option linter.unusedVariables false
set_option linter.unusedSimpArgs false

/-! ### laws_toStringS: function 31 -/
def laws_toStringS.l0 : Nat → List ByteArray → List ByteArray → Int → Option (List ByteArray)
  | 0, _, _, _ => none
  | k + 1, x0, x3, x4 => if x4 < (x0.length : Int) then (if 0 ≤ x4 then (if x4 < (x3.length : Int) then (laws_toStringS.l0 k x0 (x3.set (x4 : Int).toNat (rdOf ByteArray.empty x0 x4)) (wrap64 (x4 + 1))) else (none)) else (none)) else (some x3)
def laws_toStringS.f (k : Nat) (l0 : List ByteArray) : Option (List ByteArray) := if 0 ≤ (l0.length : Int) then (if ((l0.length : Int) : Int).toNat ≤ 17592186044416 then (laws_toStringS.l0 k l0 (List.replicate ((l0.length : Int) : Int).toNat (⟨#[]⟩ : ByteArray)) 0) else (none)) else (none)
theorem laws_toStringS.mono_l : ∀ k, (∀ y0 y1 y2, LeO (laws_toStringS.l0 k y0 y1 y2) (laws_toStringS.l0 (k + 1) y0 y1 y2))
 | 0 => fun _ _ _ r h => by simp [laws_toStringS.l0] at h
 | k + 1 => by
  have ih0 := laws_toStringS.mono_l k
  ·intro y0 y1 y2
   unfold laws_toStringS.l0
   repeat' (first | (with_reducible first | exact ih0 _ _ _ | exact LeO.refl _ | exact LeO.none _ | refine LeO.ite ?_ ?_ | refine LeO.bind ?_ (fun _ => ?_)) | exact ih0 _ _ _ | exact LeO.none _ | refine LeO.ite ?_ ?_ | refine LeO.bind ?_ (fun _ => ?_))
theorem laws_toStringS.mono : ∀ a0 k, LeO (laws_toStringS.f k a0) (laws_toStringS.f (k + 1) a0) := by
 intro a0 k
 have ih0 := laws_toStringS.mono_l k
 unfold laws_toStringS.f
 repeat' (first | (with_reducible first | exact ih0 _ _ _ | exact LeO.refl _ | exact LeO.none _ | refine LeO.ite ?_ ?_ | refine LeO.bind ?_ (fun _ => ?_)) | exact ih0 _ _ _ | exact LeO.none _ | refine LeO.ite ?_ ?_ | refine LeO.bind ?_ (fun _ => ?_))
set_option maxHeartbeats 8000000 in
set_option maxRecDepth 100000 in
theorem laws_toStringS.calls (k : Nat) (A0 : Option Addr) (c0 : Nat) (l0 : List ByteArray) (r : List ByteArray) (w : World) (hr0 : Kd.C Kd.string w A0 l0.length l0) (hc0 : l0.length ≤ c0) (h : laws_toStringS.f k l0 = some r) :
  Calls Try.prog 31 #[.slice A0 l0.length c0] w fun e w' => ∃ v0_ : Value, e = .returned (v0_) ∧ Kd.R Kd.string 9 w' w.heap.size (fun _ => True) v0_ r ∧ Below w.heap.size w w' := by
 have HR0 := Aside0.mk hr0; have HC0 := Aside0.mk hc0; clear hr0 hc0
 have HB := Aside0.mk (Below.refl w.heap.size w)
 have H : (if 0 ≤ (l0.length : Int) then (if ((l0.length : Int) : Int).toNat ≤ 17592186044416 then (laws_toStringS.l0 k l0 (List.replicate ((l0.length : Int) : Int).toNat (⟨#[]⟩ : ByteArray)) 0) else (none)) else (none)) = some r := h
 clear h; replace H := ifS H; obtain ⟨c2, H⟩ := H; have c2b0 := eq_true c2
 have c2b1 : decide (0 ≤ (l0.length : Int)) = true := decide_eq_true c2
 clear c2; replace H := ifS H; obtain ⟨c3, H⟩ := H; have c3b0 := eq_true c3
 have c3b1 : decide (((l0.length : Int) : Int).toNat ≤ 17592186044416) = true := decide_eq_true c3
 clear c3
 obtain ⟨y183, hy_⟩ : ∃ y_ : List ByteArray, y_ = (List.replicate ((l0.length : Int) : Int).toNat (⟨#[]⟩ : ByteArray)) := ⟨_, rfl⟩
 replace H : (laws_toStringS.l0 k l0 y183 0) = some r := yH
 have Ny183 := ak hy_; clear hy_
 have H' := Aside0.mk H
 clear H
 go_enter Try.func31, Try.ntmps31
 go_wp2_with (first | ((with_reducible refine gate_dst (N := 7) rfl ?_); refine Kd.R_make Kd.string _ 9 rfl (N := 7) rfl 27 _ _ rfl (l0.length : Int) rfl rfl Try.underlying27 (.string ⟨#[]⟩) 16 info9 rfl (by decide) (by omega) (⟨#[]⟩ : ByteArray) (ok := fun _ => True) (okp := fun _ => True) rfl (fun _ hk => hk) trivial (da) (Nat.le_trans (Nat.mul_le_mul_right _ (da : (l0.length : Int).toNat ≤ 17592186044416)) (by omega)) (Below.refl _ _) (Nat.le_refl _) ?_; intro v184 w4 ho5 hb hg_ hnew_; clear hg_ hnew_; (first | rw [← Ny183.out] at ho5 | (simp only [Int.reduceToNat] at ho5; rw [← Ny183.out] at ho5)); have HO185 := ak (Kd.R_lower ho5 (below_size (belowd HB))); replace HB := ak (below_step (belowd HB) hb); clear hb ho5))
 go_loopg [4] k (fun kq v4 w' => ∃ (x3_1 : List ByteArray) (x4_1 : Int), v4 = .int .i64 x4_1 ∧ Aside0 (laws_toStringS.l0 kq l0 x3_1 x4_1 = some r) ∧ Aside0 (kq ≤ k) ∧ Aside0 (Kd.R Kd.string 9 w' w.heap.size (fun _ => True) v184 x3_1) ∧ Aside0 (Below w.heap.size w w'))
 case atStart => exact ⟨(y183), (0), er, H', ⟨Nat.le_refl _⟩, ⟨rdl HO185⟩, ⟨belowd HB⟩⟩
 case round =>
  clear H'
  (try clear c2b0); (try clear c2b1); (try clear c3b0); (try clear c3b1)
  obtain ⟨x3_1, x4_1, rfl, HA, HK1, HO_3, HB⟩ := hrel
  cases gk with
  | zero => exact absurd HA.out (by simp [laws_toStringS.l0])
  | succ k1 =>
   have H := HA.out; clear HA
   simp only [laws_toStringS.l0] at H
   by_cases c6 : x4_1 < (l0.length : Int)
   ·rw [if_pos c6] at H
    have c6b0 : decide (x4_1 < (l0.length : Int)) = true := decide_eq_true c6
    clear c6; replace H := ifS H; obtain ⟨c7, H⟩ := H; have c7b0 := decide_eq_true c7; clear c7; replace H := ifS H; obtain ⟨c8, H⟩ := H; have c8b0 := decide_eq_true c8; clear c8
    obtain ⟨y187, hy_⟩ : ∃ y_ : List ByteArray, y_ = (x3_1.set (x4_1 : Int).toNat (rdOf ByteArray.empty l0 x4_1)) := ⟨_, rfl⟩
    replace H : (laws_toStringS.l0 k1 l0 y187 (wrap64 (x4_1 + 1))) = some r := yH
    have Ny187 := ak hy_; clear hy_
    have H' := Aside0.mk H
    clear H
    have p186 : 0 ≤ (x4_1 : Int) := da
    have q186 : x4_1 < (l0.length : Int) := da
    obtain ⟨ad186, e186, hx186_0⟩ := Kd.at_string HR0.out x4_1 p186 q186
    cases e186
    replace hx186_0 := (HB.out.cell (World.block_lt_of_cell? w _ hx186_0)).trans hx186_0
    replace p186 := eq_true p186; replace q186 := eq_true q186
    have p9 : 0 ≤ (x4_1 : Int) := da
    have q9 : (x4_1 : Int) < ((x3_1.length : Int) : Int) := da
    obtain ⟨go9, co9, eo9, gb9, gl9, cl9, HG9⟩ := Kd.R_form HO_3.out (by omega)
    (first | cases eo9 | (injection eo9 with ea_ en_ ec_; (first | subst ea_ | (injection ea_ with ea_; subst ea_)); subst ec_; clear en_))
    have GB9 := Aside0.mk gb9; have GG9 := Aside0.mk HG9; clear gb9 gl9 HG9
    obtain ⟨hx9_0, hf9_0⟩ := Kd.R_celln (⟨#[]⟩ : ByteArray) HO_3.out (x4_1 : Int) p9 q9
    replace p9 := eq_true p9; replace q9 := eq_true q9
    have HP10 := Kd.R_putg HO_3.out (x4_1 : Int) (rdOf ByteArray.empty l0 x4_1)
    go_wp2_with (first | ((with_reducible refine gate_store (t := 9) (p := 20) rfl ?_); refine store_event (t := 9) (p := 20) (v := ?vo_w11) (w1 := (wr.setCell ⟨go9, (x4_1 : Int).toNat, none⟩ (.string (rdOf ByteArray.empty l0 x4_1)))) ?hg ?ho ?hn ?hr ?_; (case ho => rfl); (case hg => rfl); (case hn => rfl); (case hr => first | (go_simp; done) | (go_simp; rfl)); intro w11 hw; have hg : wr.grownBy w11 (some go9) := (by rw [hw]; exact HP10.2); have hp_ : Kd.R Kd.string 9 w11 w.heap.size (fun _ => True) (.slice (some ⟨go9, 0, none⟩) x3_1.length co9) y187 := (by rw [hw, Ny187.out]; exact HP10.1); clear HP10; replace HO_3 := ak (hp_); replace HB := ak ((by rw [hw]; exact below_set (HB.out) GB9.out : Below w.heap.size w w11)); clear hg hw hp_))
    go_roundg k1
    case measure => have := HK1.out; omega
    case rel => exact ⟨(y187), (wrap64 (x4_1 + 1)), er, H', ⟨by have := HK1.out; omega⟩, ⟨rdl HO_3⟩, ⟨belowd HB⟩⟩
   ·rw [if_neg c6] at H
    have c6b0 : decide (x4_1 < (l0.length : Int)) = false := decide_eq_false c6
    clear c6
    obtain rfl := Option.some.inj H
    go_wp2
    go_ret
    exact ⟨_, er2, by (with_reducible repeat (first | apply Kd.R_alloc | apply Kd.R_drewN | apply Kd.R_drew)); exact HO_3.out, belowd HB⟩

/-! ### laws_toStringSS: function 18 -/
def laws_toStringSS.l0 : Nat → List (List ByteArray) → List (List ByteArray) → Int → Option ((List (List ByteArray)))
  | 0, _, _, _ => none
  | k + 1, x0, x3, x4 => if x4 < (x0.length : Int) then (if 0 ≤ x4 then ((laws_toStringS.f k (rd_L2 x0 x4)).bind fun t192 => (if x4 < (x3.length : Int) then (laws_toStringSS.l0 k x0 (x3.set (x4 : Int).toNat t192) (wrap64 (x4 + 1))) else (none))) else (none)) else (some x3)
def laws_toStringSS.f (k : Nat) (l0 : List (List ByteArray)) : Option ((List (List ByteArray))) := if 0 ≤ (l0.length : Int) then (if ((l0.length : Int) : Int).toNat ≤ 11728124029610 then (laws_toStringSS.l0 k l0 (List.replicate ((l0.length : Int) : Int).toNat []) 0) else (none)) else (none)
theorem laws_toStringSS.mono_l : ∀ k, (∀ y0 y1 y2, LeO (laws_toStringSS.l0 k y0 y1 y2) (laws_toStringSS.l0 (k + 1) y0 y1 y2))
 | 0 => fun _ _ _ r h => by simp [laws_toStringSS.l0] at h
 | k + 1 => by
  have ih0 := laws_toStringSS.mono_l k
  ·intro y0 y1 y2
   unfold laws_toStringSS.l0
   repeat' (first | (with_reducible first | exact ih0 _ _ _ | exact laws_toStringS.mono _ _ | exact LeO.refl _ | exact LeO.none _ | refine LeO.ite ?_ ?_ | refine LeO.bind ?_ (fun _ => ?_)) | exact ih0 _ _ _ | exact laws_toStringS.mono _ _ | exact LeO.none _ | refine LeO.ite ?_ ?_ | refine LeO.bind ?_ (fun _ => ?_))
theorem laws_toStringSS.mono : ∀ a0 k, LeO (laws_toStringSS.f k a0) (laws_toStringSS.f (k + 1) a0) := by
 intro a0 k
 have ih0 := laws_toStringSS.mono_l k
 unfold laws_toStringSS.f
 repeat' (first | (with_reducible first | exact ih0 _ _ _ | exact laws_toStringS.mono _ _ | exact LeO.refl _ | exact LeO.none _ | refine LeO.ite ?_ ?_ | refine LeO.bind ?_ (fun _ => ?_)) | exact ih0 _ _ _ | exact laws_toStringS.mono _ _ | exact LeO.none _ | refine LeO.ite ?_ ?_ | refine LeO.bind ?_ (fun _ => ?_))
set_option maxHeartbeats 8000000 in
set_option maxRecDepth 100000 in
theorem laws_toStringSS.calls (k : Nat) (A0 : Option Addr) (c0 : Nat) (l0 : List (List ByteArray)) (r : List (List ByteArray)) (w : World) (hr0 : Kd.C (Kd.slice 9 Kd.string) w A0 l0.length l0) (hc0 : l0.length ≤ c0) (h : laws_toStringSS.f k l0 = some r) :
  Calls Try.prog 18 #[.slice A0 l0.length c0] w fun e w' => ∃ v0_ : Value, e = .returned (v0_) ∧ Kd.S (Kd.slice 9 Kd.string) 27 w' w.heap.size (fun _ => True) v0_ r ∧ Below w.heap.size w w' := by
 have HR0 := Aside0.mk hr0; have HC0 := Aside0.mk hc0; clear hr0 hc0
 have HB := Aside0.mk (Below.refl w.heap.size w)
 have H : (if 0 ≤ (l0.length : Int) then (if ((l0.length : Int) : Int).toNat ≤ 11728124029610 then (laws_toStringSS.l0 k l0 (List.replicate ((l0.length : Int) : Int).toNat []) 0) else (none)) else (none)) = some r := h
 clear h; replace H := ifS H; obtain ⟨c2, H⟩ := H; have c2b0 := eq_true c2
 have c2b1 : decide (0 ≤ (l0.length : Int)) = true := decide_eq_true c2
 clear c2; replace H := ifS H; obtain ⟨c3, H⟩ := H; have c3b0 := eq_true c3
 have c3b1 : decide (((l0.length : Int) : Int).toNat ≤ 11728124029610) = true := decide_eq_true c3
 clear c3
 obtain ⟨y188, hy_⟩ : ∃ y_ : List (List ByteArray), y_ = (List.replicate ((l0.length : Int) : Int).toNat []) := ⟨_, rfl⟩
 replace H : (laws_toStringSS.l0 k l0 y188 0) = some r := yH
 have Ny188 := ak hy_; clear hy_
 have H' := Aside0.mk H
 clear H
 go_enter Try.func18, Try.ntmps18
 go_wp2_with (first | ((with_reducible refine gate_dst (N := 7) rfl ?_); refine Kd.S_make (Kd.slice 9 Kd.string) _ 27 rfl (N := 7) rfl 23 _ _ rfl (l0.length : Int) rfl rfl Try.underlying23 (.slice none 0 0) 24 info27 rfl (by decide) (by omega) [] (ok := fun _ => True) (okp := fun _ => True) ⟨_, rfl, Kd.R_nil _ _ _ _ _⟩ (fun _ hk => hk) trivial (da) (Nat.le_trans (Nat.mul_le_mul_right _ (da : (l0.length : Int).toNat ≤ 11728124029610)) (by omega)) (Below.refl _ _) (Nat.le_refl _) ?_; intro v189 w4 ho5 hb hg_ hnew_; clear hg_ hnew_; (first | rw [← Ny188.out] at ho5 | (simp only [Int.reduceToNat] at ho5; rw [← Ny188.out] at ho5)); have HO190 := ak (Kd.S_lower ho5 (below_size (belowd HB))); replace HB := ak (below_step (belowd HB) hb); clear hb ho5))
 go_loopg [4] k (fun kq v4 w' => ∃ (x3_1 : List (List ByteArray)) (x4_1 : Int), v4 = .int .i64 x4_1 ∧ Aside0 (laws_toStringSS.l0 kq l0 x3_1 x4_1 = some r) ∧ Aside0 (kq ≤ k) ∧ Aside0 (Kd.S (Kd.slice 9 Kd.string) 27 w' w.heap.size (fun _ => True) v189 x3_1) ∧ Aside0 (Below w.heap.size w w'))
 case atStart => exact ⟨(y188), (0), er, H', ⟨Nat.le_refl _⟩, ⟨sd HO190⟩, ⟨belowd HB⟩⟩
 case round =>
  clear H'
  (try clear c2b0); (try clear c2b1); (try clear c3b0); (try clear c3b1)
  obtain ⟨x3_1, x4_1, rfl, HA, HK1, HO_3, HB⟩ := hrel
  cases gk with
  | zero => exact absurd HA.out (by simp [laws_toStringSS.l0])
  | succ k1 =>
   have H := HA.out; clear HA
   simp only [laws_toStringSS.l0] at H
   by_cases c6 : x4_1 < (l0.length : Int)
   ·rw [if_pos c6] at H
    have c6b0 : decide (x4_1 < (l0.length : Int)) = true := decide_eq_true c6
    clear c6; replace H := ifS H; obtain ⟨c7, H⟩ := H; have c7b0 := decide_eq_true c7; clear c7; replace H := bS H; obtain ⟨t192, A8, H⟩ := H
    replace H : (if x4_1 < (x3_1.length : Int) then (laws_toStringSS.l0 k1 l0 (x3_1.set (x4_1 : Int).toNat t192) (wrap64 (x4_1 + 1))) else (none)) = some r := H
    replace H := ifS H; obtain ⟨c9, H⟩ := H; have c9b0 := decide_eq_true c9; clear c9
    obtain ⟨y195, hy_⟩ : ∃ y_ : List (List ByteArray), y_ = (x3_1.set (x4_1 : Int).toNat t192) := ⟨_, rfl⟩
    replace H : (laws_toStringSS.l0 k1 l0 y195 (wrap64 (x4_1 + 1))) = some r := yH
    have Ny195 := ak hy_; clear hy_
    have H' := Aside0.mk H
    clear H
    have p191 : 0 ≤ (x4_1 : Int) := da
    have q191 : x4_1 < (l0.length : Int) := da
    obtain ⟨ad191, A191_0, c191_0, e191, hx191_0, hl191_0, hi191_0⟩ := at_L2 HR0.out x4_1 p191 q191
    cases e191
    replace hx191_0 := (HB.out.cell (World.block_lt_of_cell? w _ hx191_0)).trans hx191_0
    have HR191_0 := Aside0.mk hi191_0; have HC191_0 := Aside0.mk hl191_0; clear hi191_0 hl191_0; replace p191 := eq_true p191; replace q191 := eq_true q191
    go_wp2_with (first | ((with_reducible refine gate_callee (f := 31) rfl ?_); refine goesLa (some 20) rfl Try.func31 #[.slice A191_0 (rd_L2 l0 x4_1).length c191_0] rfl ?_; (with_reducible refine (laws_toStringS.calls k1 _ _ (rd_L2 l0 x4_1) t192 _ ?side1 ?side2 A8.out).mono ?_); (case side1 => exact cd (Kd.C_below HR191_0.out HB.out)); (case side2 => exact HC191_0.out); rintro e w11 ⟨v193, rfl, ho0, hb⟩; refine ⟨_, rfl, ?_⟩; replace HO_3 := ak (Kd.S_elder' (sd HO_3) (Kd.R_base ho0) hb); have HO194 := ak (Kd.R_lower ho0 (below_size (belowd HB))); replace HB := ak (below_step (belowd HB) hb); (try clear hb); (try clear ho0); have p10 : 0 ≤ (x4_1 : Int) := da; have q10 : (x4_1 : Int) < ((x3_1.length : Int) : Int) := da; obtain ⟨go10, co10, eo10, gb10, gl10, cl10, HG10⟩ := Kd.S_form HO_3.out (by omega); (first | cases eo10 | (injection eo10 with ea_ en_ ec_; (first | subst ea_ | (injection ea_ with ea_; subst ea_)); subst ec_; clear en_)); have GB10 := Aside0.mk gb10; have GG10 := Aside0.mk HG10; clear gb10 gl10 HG10; obtain ⟨_, ce10, hcl10, hM10, hcc10, hfr10, _, _⟩ := Kd.S_elem HO_3.out [] (x4_1 : Int) p10 q10; obtain ⟨ve10_0, rfl, ge10_0⟩ := (id hM10); have hx10_0 := hcc10 0 _ rfl; have hf10_0 := hfr10 0; (try simp only [show ((Kd.slice 9 Kd.string)).sz = 1 from rfl, Nat.mul_one, Nat.add_zero] at hx10_0); (try simp only [show ((Kd.slice 9 Kd.string)).sz = 1 from rfl, Nat.mul_one, Nat.add_zero] at hf10_0); clear hcl10 hcc10 hfr10 hM10; replace p10 := eq_true p10; replace q10 := eq_true q10; have n_ := Aside0.mk (Kd.S_mono (ok' := (fun k_ => some k_ ≠ (v193 : Value).ownBlock)) HO_3.out (fun k_ hk => hk.2)); clear HO_3; have HO_3 := n_; clear n_; have HX12 := Aside0.mk (show Kd.S (Kd.slice 9 Kd.string) 27 w11 w.heap.size (fun k_ => ((fun _ => True)) k_ ∧ ¬ ((fun k_ => some k_ = (v193 : Value).ownBlock)) k_) (.slice (some ⟨go10, 0, none⟩) x3_1.length co10) x3_1 from (by (with_reducible repeat (first | apply Kd.S_alloc | apply Kd.S_drewN | apply Kd.S_drew)); exact Kd.S_mono HO_3.out (fun k_ hk => ⟨trivial, fun e_ => hk e_⟩))); obtain ⟨oki12, ce12, hcl12, hM12, hcc12, hfr12, hoki12, hH12⟩ := Kd.S_elem HX12.out [] (x4_1 : Int) (da) (by have h_ : (x4_1 : Int) < ((x3_1.length : Int) : Int) := da; first | exact h_ | (have e_ := (Kd.S_reads' HO_3.out).1; omega) | simpa using h_); obtain ⟨ve12_0, rfl, ge12_0⟩ := (id hM12); have HP12 := Kd.S_seg hH12 (da) (by have h_ : (x4_1 : Int) < ((x3_1.length : Int) : Int) := da; first | exact h_ | (have e_ := (Kd.S_reads' HO_3.out).1; omega) | simpa using h_) (seg := [v193]) (j := 0) (show 1 ≤ 1 from by decide) (x' := t192) (Kd.M_row (Kd.R_mono (Kd.R_tight rfl (Kd.R_mono (ok' := fun k_ => ((fun _ => True)) k_ ∧ k_ ≠ go10) (Kd.R_apart' (HO194.out) (Kd.S_typed HO_3.out) (by decide)) (fun k_ hk => ⟨trivial, fun e_ => (hk.2) (by rw [e_]; rfl)⟩))) (fun _ h_ => Or.inr (h_)))) (fun _ hk => hk) (fun k_ hk_ => ((Kd.R_mono (ok' := fun k_ => ((fun _ => True)) k_ ∧ k_ ≠ go10) (Kd.R_apart' (HO194.out) (Kd.S_typed HO_3.out) (by decide)) (fun k_ hk => ⟨trivial, fun e_ => (hk.2) (by rw [e_]; rfl)⟩))).1 k_ hk_.symm); have hx12_0 := hcc12 0 _ rfl; (try simp only [show ((Kd.slice 9 Kd.string)).sz = 1 from rfl, Nat.mul_one, Nat.add_zero] at hx12_0); have hf12_0 := hfr12 0; (try simp only [show ((Kd.slice 9 Kd.string)).sz = 1 from rfl, Nat.mul_one, Nat.add_zero] at hf12_0); clear hcl12 hcc12 hfr12 hM12 hoki12 hH12; (try simp only [show ((Kd.slice 9 Kd.string)).sz = 1 from rfl, Nat.mul_one, Nat.add_zero] at HP12)) | ((with_reducible refine gate_store (t := 27) (p := 21) rfl ?_); refine store_event (t := 27) (p := 21) (v := ?vo_w13) (w1 := (w11.setCell ⟨go10, (x4_1 : Int).toNat, none⟩ (v193))) ?hg ?ho ?hn ?hr ?_; (case ho => rfl); (case hg => rfl); (case hn => rfl); (case hr => first | (go_simp; done) | (go_simp; rfl) | (obtain ⟨_, _, e_, _, _⟩ := Kd.R_reads (HO194.out); subst e_; first | (go_simp; done) | (go_simp; rfl))); intro w13 hw; have hg : w11.grownBy w13 (some go10) := (by rw [hw]; exact HP12.2); have hp_ : Kd.S (Kd.slice 9 Kd.string) 27 w13 w.heap.size (fun _ => True) (.slice (some ⟨go10, 0, none⟩) x3_1.length co10) y195 := (by rw [hw, Ny195.out]; exact HP12.1); clear HP12; replace HO_3 := ak (hp_); replace HB := ak ((by rw [hw]; exact below_set (HB.out) GB10.out : Below w.heap.size w w13)); clear HO194; clear hg hw hp_))
    go_roundg k1
    case measure => have := HK1.out; omega
    case rel => exact ⟨(y195), (wrap64 (x4_1 + 1)), er, H', ⟨by have := HK1.out; omega⟩, ⟨sd HO_3⟩, ⟨belowd HB⟩⟩
   ·rw [if_neg c6] at H
    have c6b0 : decide (x4_1 < (l0.length : Int)) = false := decide_eq_false c6
    clear c6
    obtain rfl := Option.some.inj H
    go_wp2
    go_ret
    exact ⟨_, er2, by (with_reducible repeat (first | apply Kd.S_alloc | apply Kd.S_drewN | apply Kd.S_drew)); exact HO_3.out, belowd HB⟩

/-! ### nets: what is read of one, what one is made of -/
structure Nt where
  ks : List Int
  ps : List (List ByteArray)
  ss : List (List ByteArray)
  ib : List (List ByteArray)
  sd : Int
abbrev KI : Kd Int := Kd.int .i64
abbrev KT : Kd (List ByteArray) := Kd.slice 9 Kd.string
/-- A net that is read. -/
def NC (W : World) (v0 v1 v2 v3 : Value) (n : Nt) : Prop := ∃ A0 c0 A1 c1 A2 c2 A3 c3, (v0 = .slice A0 n.ks.length c0 ∧ v1 = .slice A1 n.ps.length c1 ∧ v2 = .slice A2 n.ss.length c2 ∧ v3 = .slice A3 n.ib.length c3) ∧ (KI.C W A0 n.ks.length n.ks ∧ n.ks.length ≤ c0) ∧ (KT.C W A1 n.ps.length n.ps ∧ n.ps.length ≤ c1) ∧ (KT.C W A2 n.ss.length n.ss ∧ n.ss.length ≤ c2) ∧ (KT.C W A3 n.ib.length n.ib ∧ n.ib.length ≤ c3)
/-- A net of the call's own: four things. -/
def netA (v0 v1 v2 v3 : Value) (n : Nt) : List SA := [rA KI 3 v0 n.ks, sA KT 27 v1 n.ps, sA KT 27 v2 n.ss, sA KT 27 v3 n.ib]
theorem netA_at (v0 v1 v2 v3 : Value) (n : Nt) (L0 L : List SA) (j : Nat) (hj : j < 4) : (L0 ++ (netA v0 v1 v2 v3 n ++ L)).getD (L0.length + j) nA = (netA v0 v1 v2 v3 n).getD j nA := by
  rw [getD_app_r (by omega), Nat.add_sub_cancel_left, getD_app_l (by simpa [netA] using hj)]
theorem NC.of {W : World} {b : Nat} {c : Nat → Nat} {i : Nat} {v0 v1 v2 v3 : Value} {n : Nt} (h : SepAt c b W i (netA v0 v1 v2 v3 n)) : NC W v0 v1 v2 v3 n := by
  obtain ⟨h0, h1, h2, h3, -⟩ := h
  obtain ⟨A0, c0, e0, l0, r0⟩ := Kd.R_reads h0
  obtain ⟨A1, c1, e1, l1, r1⟩ := Kd.S_reads h1
  obtain ⟨A2, c2, e2, l2, r2⟩ := Kd.S_reads h2
  obtain ⟨A3, c3, e3, l3, r3⟩ := Kd.S_reads h3
  exact ⟨A0, c0, A1, c1, A2, c2, A3, c3, ⟨e0, e1, e2, e3⟩, ⟨r0, l0⟩, ⟨r1, l1⟩, ⟨r2, l2⟩, ⟨r3, l3⟩⟩
theorem SepAt.mid {c : Nat → Nat} {b : Nat} {W : World} : ∀ (L0 : List SA) {L : List SA} {i : Nat}, SepAt c b W i (L0 ++ L) → SepAt c b W (i + L0.length) L
  | [], _, _, h => h
  | _ :: L0, _, i, h => by
    have := SepAt.mid L0 (i := i + 1) h.2
    rw [List.length_cons, show i + (L0.length + 1) = i + 1 + L0.length from by omega]
    exact this
theorem SepAt.left {c : Nat → Nat} {b : Nat} {W : World} : ∀ (L0 : List SA) {L : List SA} {i : Nat}, SepAt c b W i (L0 ++ L) → SepAt c b W i L0
  | [], _, _, _ => trivial
  | _ :: L0, _, _, h => ⟨h.1, SepAt.left L0 h.2⟩
/-- The net behind L0. -/
theorem sepNc {w0 W : World} {L : List SA} {v0 v1 v2 v3 : Value} {n : Nt} (h : Sep w0 W L) (m : Nat) (e : (L.drop m).take 4 = netA v0 v1 v2 v3 n := by rfl) : NC W v0 v1 v2 v3 n := by
  obtain ⟨_, c, h⟩ := h
  have h' : SepAt c w0.heap.size W 0 (L.take m ++ ((L.drop m).take 4 ++ (L.drop m).drop 4)) := by rw [List.take_append_drop, List.take_append_drop]; exact h
  have := SepAt.left _ (SepAt.mid _ h')
  rw [e] at this
  exact NC.of this
theorem NC.slices {W : World} {v0 v1 v2 v3 : Value} {n : Nt} (h : NC W v0 v1 v2 v3 n) : (∃ A c, v0 = .slice A n.ks.length c) ∧ (∃ A c, v1 = .slice A n.ps.length c) ∧ (∃ A c, v2 = .slice A n.ss.length c) ∧ (∃ A c, v3 = .slice A n.ib.length c) := by
  obtain ⟨A0, c0, A1, c1, A2, c2, A3, c3, ⟨e0, e1, e2, e3⟩, _⟩ := h
  exact ⟨⟨_, _, e0⟩, ⟨_, _, e1⟩, ⟨_, _, e2⟩, ⟨_, _, e3⟩⟩
theorem NC.below {W W1 : World} {v0 v1 v2 v3 : Value} {n : Nt} (h : NC W v0 v1 v2 v3 n) (hb : Below W.heap.size W W1) : NC W1 v0 v1 v2 v3 n := by
  obtain ⟨A0, c0, A1, c1, A2, c2, A3, c3, e, ⟨r0, l0⟩, ⟨r1, l1⟩, ⟨r2, l2⟩, ⟨r3, l3⟩⟩ := h
  exact ⟨A0, c0, A1, c1, A2, c2, A3, c3, e, ⟨Kd.C_below r0 hb, l0⟩, ⟨Kd.C_below r1 hb, l1⟩, ⟨Kd.C_below r2 hb, l2⟩, ⟨Kd.C_below r3 hb, l3⟩⟩
/-- A net that has just been made. -/
def MadeNet (w : World) (n : Nt) (b : Bool) (e : Ending) (w' : World) : Prop := ∃ v0 v1 v2 v3 : Value, e = .returned (.tuple #[.agg #[v0, v1, v2, v3, .int .i64 n.sd], .bool b]) ∧ (∃ c, SepAt c w.heap.size w' 0 (netA v0 v1 v2 v3 n)) ∧ Below w.heap.size w w'
def MadeNet1 (w : World) (n : Nt) (e : Ending) (w' : World) : Prop := ∃ v0 v1 v2 v3 : Value, e = .returned (.agg #[v0, v1, v2, v3, .int .i64 n.sd]) ∧ (∃ c, SepAt c w.heap.size w' 0 (netA v0 v1 v2 v3 n)) ∧ Below w.heap.size w w'
theorem made_of {w w' : World} {v0 v1 v2 v3 : Value} {r1 : List Int} {r2 r3 r4 : List (List ByteArray)} {g1 g2 g3 : Nat} {sd : Int} (h0 : KI.R 3 w' w.heap.size (fun _ => True) v0 r1) (h1 : Kd.S KT 27 w' w.heap.size (fun k_ => k_ = g1) v1 r2) (h2 : Kd.S KT 27 w' w.heap.size (fun k_ => k_ = g2) v2 r3) (h3 : Kd.S KT 27 w' w.heap.size (fun k_ => k_ = g3) v3 r4) (hn : g1 ≠ g2 ∧ g1 ≠ g3 ∧ g2 ≠ g3) : ∃ c, SepAt c w.heap.size w' 0 (netA v0 v1 v2 v3 ⟨r1, r2, r3, r4, sd⟩) := by
  classical
  obtain ⟨n1, n2, n3⟩ := hn
  refine ⟨fun k => if (∃ cells, w'.heap[k]? = some (.cells cells 3 (0, 0))) then 0 else if k = g1 then 1 else if k = g2 then 2 else if k = g3 then 3 else 4, ?_, ?_, ?_, ?_, trivial⟩
  · refine Kd.R_mono (Kd.R_bound h0) (fun k hk => if_pos ?_)
    obtain ⟨_, _, _, q, hq, hc⟩ := hk
    have : q = 3 := by simpa [Kd.int, Kd.scalar] using hq
    subst this
    exact hc
  all_goals
    first
    | refine Kd.S_mono (Kd.S_bound h1) (fun k hk => ?_)
    | refine Kd.S_mono (Kd.S_bound h2) (fun k hk => ?_)
    | refine Kd.S_mono (Kd.S_bound h3) (fun k hk => ?_)
    obtain ⟨hk, _, _, q, hq, cells, hc⟩ := hk
    have hne : ¬ ∃ cells, w'.heap[k]? = some (.cells cells 3 (0, 0)) := by
      rintro ⟨cells', hc'⟩
      rw [hc] at hc'
      injection hc' with hc'
      injection hc' with _ hc'
      subst hc'
      simp [Kd.slice, Kd.string, Kd.scalar] at hq
    simp only [if_neg hne]
    subst hk
  · rw [if_pos rfl]
  · rw [if_neg (Ne.symm n1), if_pos rfl]
  · rw [if_neg (Ne.symm n2), if_neg (Ne.symm n3), if_pos rfl]
/-! ### laws_toNet: function 6 -/
def laws_toNet.f (k : Nat) (l0_0 : List Int) (l0_1 : List (List ByteArray)) (l0_2 : List (List ByteArray)) (l0_3 : List (List ByteArray)) (a0_4 : Int) : Option (List Int × (List (List ByteArray)) × (List (List ByteArray)) × (List (List ByteArray)) × Int) := (laws_toIntS.f k l0_0).bind fun t199 => ((laws_toStringSS.f k l0_1).bind fun t202 => ((laws_toStringSS.f k l0_2).bind fun t205 => ((laws_toStringSS.f k l0_3).bind fun t208 => (some (t199, t202, t205, t208, a0_4)))))
set_option maxHeartbeats 16000000 in
set_option maxRecDepth 100000 in
theorem nw_to {k : Nat} {v0 v1 v2 v3 : Value} {n : Nt} {r1 : List Int} {r2 r3 r4 : List (List ByteArray)} {r5 : Int} {w : World} (hn : NC w v0 v1 v2 v3 n) (h : laws_toNet.f k n.ks n.ps n.ss n.ib n.sd = some (r1, r2, r3, r4, r5)) :
    Calls Try.prog 6 #[.agg #[v0, v1, v2, v3, .int .i64 n.sd]] w (MadeNet1 w ⟨r1, r2, r3, r4, r5⟩) := by
 obtain ⟨A0, c0, A1, c1, A2, c2, A3, c3, ⟨rfl, rfl, rfl, rfl⟩, ⟨x0, y0⟩, ⟨x1, y1⟩, ⟨x2, y2⟩, ⟨x3, y3⟩⟩ := hn
 have X0 := ak x0; have X1 := ak x1; have X2 := ak x2; have X3 := ak x3; have Y0 := ak y0; have Y1 := ak y1; have Y2 := ak y2; have Y3 := ak y3
 clear x0 x1 x2 x3 y0 y1 y2 y3
 obtain ⟨ks, ps, ss, ib, sd⟩ := n
 dsimp only at X0 X1 X2 X3 Y0 Y1 Y2 Y3 h ⊢
 have hu25 := Try.underlying25
 have hu30 := Try.underlying30
 have HS := Sep.nil w
 unfold laws_toNet.f at h
 replace h := bS h; obtain ⟨t0, T0, h⟩ := h
 replace h := bS h; obtain ⟨t1, T1, h⟩ := h
 replace h := bS h; obtain ⟨t2, T2, h⟩ := h
 replace h := bS h; obtain ⟨t3, T3, h⟩ := h
 obtain ⟨rfl, rfl, rfl, rfl, rfl⟩ : t0 = r1 ∧ t1 = r2 ∧ t2 = r3 ∧ t3 = r4 ∧ sd = r5 := by simpa using h
 clear h
 go_enter Try.func6, Try.ntmps6
 go_upto_region 3 with (first | ((with_reducible refine gate_dst (N := 1) rfl ?_); refine boxev 1 #[.slice A0 ks.length c0, .slice A1 ps.length c1, .slice A2 ss.length c2, .slice A3 ib.length c3, .int .i64 sd] 25 ?_; intro b1 hg_ W_ ho_ hb_; replace HS := HS.box hg_ ho_ hb_; clear hg_ ho_ hb_; obtain ⟨hzb1_0, hzb1_1, hzb1_2, hzb1_3, hzb1_4, hfb1_0, hfb1_1, hfb1_2, hfb1_3, hfb1_4⟩ := box5 (HS.blk 0)) | ((with_reducible refine gate_dst (N := 2) rfl ?_); refine boxev 2 #[.slice none 0 0, .slice none 0 0, .slice none 0 0, .slice none 0 0, .int .i64 0] 30 ?_; intro b2 hg_ W_ ho_ hb_; replace HS := HS.box hg_ ho_ hb_; clear hg_ ho_ hb_; clear hzb1_0 hzb1_1 hzb1_2 hzb1_3 hzb1_4 hfb1_0 hfb1_1 hfb1_2 hfb1_3 hfb1_4; obtain ⟨hzb2_0, hzb2_1, hzb2_2, hzb2_3, hzb2_4, hfb2_0, hfb2_1, hfb2_2, hfb2_3, hfb2_4⟩ := box5 (HS.blk 0)) | ((with_reducible refine gate_dst (N := 3) rfl ?_); refine boxev 3 #[.slice none 0 0, .slice none 0 0, .slice none 0 0, .slice none 0 0, .int .i64 0] 30 ?_; intro b3 hg_ W_ ho_ hb_; replace HS := HS.box hg_ ho_ hb_; clear hg_ ho_ hb_; clear hzb2_0 hzb2_1 hzb2_2 hzb2_3 hzb2_4 hfb2_0 hfb2_1 hfb2_2 hfb2_3 hfb2_4; obtain ⟨hzb3_0, hzb3_1, hzb3_2, hzb3_3, hzb3_4, hfb3_0, hfb3_1, hfb3_2, hfb3_3, hfb3_4⟩ := box5 (HS.blk 0); clear hzb3_0 hzb3_1 hzb3_2 hzb3_3 hzb3_4 hfb3_0 hfb3_1 hfb3_2 hfb3_3 hfb3_4; obtain ⟨hzb3_0, hzb3_1, hzb3_2, hzb3_3, hzb3_4, hfb3_0, hfb3_1, hfb3_2, hfb3_3, hfb3_4⟩ := box5 (HS.blk 0); obtain ⟨hzb2_0, hzb2_1, hzb2_2, hzb2_3, hzb2_4, hfb2_0, hfb2_1, hfb2_2, hfb2_3, hfb2_4⟩ := box5 (HS.blk 1); obtain ⟨hzb1_0, hzb1_1, hzb1_2, hzb1_3, hzb1_4, hfb1_0, hfb1_1, hfb1_2, hfb1_3, hfb1_4⟩ := box5 (HS.blk 2)) | ((with_reducible refine gate_callee (f := 17) rfl ?_); refine goesLa (some 6) rfl Try.func17 #[.slice A0 ks.length c0] rfl ?_; have HC_ := laws_toIntS.calls k _ _ ks t0 _ (Kd.C_below X0.out HS.base) Y0.out T0.out; refine HC_.mono ?_; clear HC_; rintro e W_ ⟨u0, rfl, ho_, hb_⟩; refine ⟨_, rfl, ?_⟩; replace HS := HS.new (A := rA KI 3 u0 t0) hb_ ho_; obtain ⟨B0, d0, rfl⟩ := HS.slR 0; clear ho_ hb_; clear hzb3_0 hzb3_1 hzb3_2 hzb3_3 hzb3_4 hfb3_0 hfb3_1 hfb3_2 hfb3_3 hfb3_4 hzb2_0 hzb2_1 hzb2_2 hzb2_3 hzb2_4 hfb2_0 hfb2_1 hfb2_2 hfb2_3 hfb2_4 hzb1_0 hzb1_1 hzb1_2 hzb1_3 hzb1_4 hfb1_0 hfb1_1 hfb1_2 hfb1_3 hfb1_4; obtain ⟨hzb3_0, hzb3_1, hzb3_2, hzb3_3, hzb3_4, hfb3_0, hfb3_1, hfb3_2, hfb3_3, hfb3_4⟩ := box5 (HS.blk 1); obtain ⟨hzb2_0, hzb2_1, hzb2_2, hzb2_3, hzb2_4, hfb2_0, hfb2_1, hfb2_2, hfb2_3, hfb2_4⟩ := box5 (HS.blk 2); obtain ⟨hzb1_0, hzb1_1, hzb1_2, hzb1_3, hzb1_4, hfb1_0, hfb1_1, hfb1_2, hfb1_3, hfb1_4⟩ := box5 (HS.blk 3)))
 clear hzb3_0 hzb3_1 hzb3_2 hzb3_3 hzb3_4 hfb3_0 hfb3_1 hfb3_2 hfb3_3 hfb3_4 hzb2_0 hzb2_1 hzb2_2 hzb2_3 hzb2_4 hfb2_0 hfb2_1 hfb2_2 hfb2_3 hfb2_4 hzb1_0 hzb1_1 hzb1_2 hzb1_3 hzb1_4 hfb1_0 hfb1_1 hfb1_2 hfb1_3 hfb1_4
 obtain ⟨W5_, e5_, H5_⟩ := (HS.putI 1 0 (.slice B0 t0.length d0) #[.slice B0 t0.length d0, .slice none 0 0, .slice none 0 0, .slice none 0 0, .int .i64 0]).gen
 rw [e5_]
 clear HS e5_
 have HS := H5_
 clear H5_
 obtain ⟨hzb3_0, hzb3_1, hzb3_2, hzb3_3, hzb3_4, hfb3_0, hfb3_1, hfb3_2, hfb3_3, hfb3_4⟩ := box5 (HS.blk 1)
 obtain ⟨hzb2_0, hzb2_1, hzb2_2, hzb2_3, hzb2_4, hfb2_0, hfb2_1, hfb2_2, hfb2_3, hfb2_4⟩ := box5 (HS.blk 2)
 obtain ⟨hzb1_0, hzb1_1, hzb1_2, hzb1_3, hzb1_4, hfb1_0, hfb1_1, hfb1_2, hfb1_3, hfb1_4⟩ := box5 (HS.blk 3)
 go_upto_region 4 with (first | ((with_reducible refine gate_callee (f := 18) rfl ?_); refine goesLa (some 10) rfl Try.func18 #[.slice A1 ps.length c1] rfl ?_; have HC_ := laws_toStringSS.calls k _ _ ps t1 _ (Kd.C_below X1.out HS.base) Y1.out T1.out; refine HC_.mono ?_; clear HC_; rintro e W_ ⟨u1, rfl, ho_, hb_⟩; refine ⟨_, rfl, ?_⟩; replace HS := HS.new (A := sA KT 27 u1 t1) hb_ ho_; obtain ⟨B1, d1, rfl⟩ := HS.slS 0; clear ho_ hb_; clear hzb3_0 hzb3_1 hzb3_2 hzb3_3 hzb3_4 hfb3_0 hfb3_1 hfb3_2 hfb3_3 hfb3_4 hzb2_0 hzb2_1 hzb2_2 hzb2_3 hzb2_4 hfb2_0 hfb2_1 hfb2_2 hfb2_3 hfb2_4 hzb1_0 hzb1_1 hzb1_2 hzb1_3 hzb1_4 hfb1_0 hfb1_1 hfb1_2 hfb1_3 hfb1_4; obtain ⟨hzb3_0, hzb3_1, hzb3_2, hzb3_3, hzb3_4, hfb3_0, hfb3_1, hfb3_2, hfb3_3, hfb3_4⟩ := box5 (HS.blk 2); obtain ⟨hzb2_0, hzb2_1, hzb2_2, hzb2_3, hzb2_4, hfb2_0, hfb2_1, hfb2_2, hfb2_3, hfb2_4⟩ := box5 (HS.blk 3); obtain ⟨hzb1_0, hzb1_1, hzb1_2, hzb1_3, hzb1_4, hfb1_0, hfb1_1, hfb1_2, hfb1_3, hfb1_4⟩ := box5 (HS.blk 4)))
 clear hzb3_0 hzb3_1 hzb3_2 hzb3_3 hzb3_4 hfb3_0 hfb3_1 hfb3_2 hfb3_3 hfb3_4 hzb2_0 hzb2_1 hzb2_2 hzb2_3 hzb2_4 hfb2_0 hfb2_1 hfb2_2 hfb2_3 hfb2_4 hzb1_0 hzb1_1 hzb1_2 hzb1_3 hzb1_4 hfb1_0 hfb1_1 hfb1_2 hfb1_3 hfb1_4
 obtain ⟨W5_, e5_, H5_⟩ := (HS.putI 2 1 (.slice B1 t1.length d1) #[.slice B0 t0.length d0, .slice B1 t1.length d1, .slice none 0 0, .slice none 0 0, .int .i64 0]).gen
 rw [e5_]
 clear HS e5_
 have HS := H5_
 clear H5_
 obtain ⟨hzb3_0, hzb3_1, hzb3_2, hzb3_3, hzb3_4, hfb3_0, hfb3_1, hfb3_2, hfb3_3, hfb3_4⟩ := box5 (HS.blk 2)
 obtain ⟨hzb2_0, hzb2_1, hzb2_2, hzb2_3, hzb2_4, hfb2_0, hfb2_1, hfb2_2, hfb2_3, hfb2_4⟩ := box5 (HS.blk 3)
 obtain ⟨hzb1_0, hzb1_1, hzb1_2, hzb1_3, hzb1_4, hfb1_0, hfb1_1, hfb1_2, hfb1_3, hfb1_4⟩ := box5 (HS.blk 4)
 go_upto_region 5 with (first | ((with_reducible refine gate_callee (f := 18) rfl ?_); refine goesLa (some 14) rfl Try.func18 #[.slice A2 ss.length c2] rfl ?_; have HC_ := laws_toStringSS.calls k _ _ ss t2 _ (Kd.C_below X2.out HS.base) Y2.out T2.out; refine HC_.mono ?_; clear HC_; rintro e W_ ⟨u2, rfl, ho_, hb_⟩; refine ⟨_, rfl, ?_⟩; replace HS := HS.new (A := sA KT 27 u2 t2) hb_ ho_; obtain ⟨B2, d2, rfl⟩ := HS.slS 0; clear ho_ hb_; clear hzb3_0 hzb3_1 hzb3_2 hzb3_3 hzb3_4 hfb3_0 hfb3_1 hfb3_2 hfb3_3 hfb3_4 hzb2_0 hzb2_1 hzb2_2 hzb2_3 hzb2_4 hfb2_0 hfb2_1 hfb2_2 hfb2_3 hfb2_4 hzb1_0 hzb1_1 hzb1_2 hzb1_3 hzb1_4 hfb1_0 hfb1_1 hfb1_2 hfb1_3 hfb1_4; obtain ⟨hzb3_0, hzb3_1, hzb3_2, hzb3_3, hzb3_4, hfb3_0, hfb3_1, hfb3_2, hfb3_3, hfb3_4⟩ := box5 (HS.blk 3); obtain ⟨hzb2_0, hzb2_1, hzb2_2, hzb2_3, hzb2_4, hfb2_0, hfb2_1, hfb2_2, hfb2_3, hfb2_4⟩ := box5 (HS.blk 4); obtain ⟨hzb1_0, hzb1_1, hzb1_2, hzb1_3, hzb1_4, hfb1_0, hfb1_1, hfb1_2, hfb1_3, hfb1_4⟩ := box5 (HS.blk 5)))
 clear hzb3_0 hzb3_1 hzb3_2 hzb3_3 hzb3_4 hfb3_0 hfb3_1 hfb3_2 hfb3_3 hfb3_4 hzb2_0 hzb2_1 hzb2_2 hzb2_3 hzb2_4 hfb2_0 hfb2_1 hfb2_2 hfb2_3 hfb2_4 hzb1_0 hzb1_1 hzb1_2 hzb1_3 hzb1_4 hfb1_0 hfb1_1 hfb1_2 hfb1_3 hfb1_4
 obtain ⟨W5_, e5_, H5_⟩ := (HS.putI 3 2 (.slice B2 t2.length d2) #[.slice B0 t0.length d0, .slice B1 t1.length d1, .slice B2 t2.length d2, .slice none 0 0, .int .i64 0]).gen
 rw [e5_]
 clear HS e5_
 have HS := H5_
 clear H5_
 obtain ⟨hzb3_0, hzb3_1, hzb3_2, hzb3_3, hzb3_4, hfb3_0, hfb3_1, hfb3_2, hfb3_3, hfb3_4⟩ := box5 (HS.blk 3)
 obtain ⟨hzb2_0, hzb2_1, hzb2_2, hzb2_3, hzb2_4, hfb2_0, hfb2_1, hfb2_2, hfb2_3, hfb2_4⟩ := box5 (HS.blk 4)
 obtain ⟨hzb1_0, hzb1_1, hzb1_2, hzb1_3, hzb1_4, hfb1_0, hfb1_1, hfb1_2, hfb1_3, hfb1_4⟩ := box5 (HS.blk 5)
 go_upto_region 6 with (first | ((with_reducible refine gate_callee (f := 18) rfl ?_); refine goesLa (some 18) rfl Try.func18 #[.slice A3 ib.length c3] rfl ?_; have HC_ := laws_toStringSS.calls k _ _ ib t3 _ (Kd.C_below X3.out HS.base) Y3.out T3.out; refine HC_.mono ?_; clear HC_; rintro e W_ ⟨u3, rfl, ho_, hb_⟩; refine ⟨_, rfl, ?_⟩; replace HS := HS.new (A := sA KT 27 u3 t3) hb_ ho_; obtain ⟨B3, d3, rfl⟩ := HS.slS 0; clear ho_ hb_; clear hzb3_0 hzb3_1 hzb3_2 hzb3_3 hzb3_4 hfb3_0 hfb3_1 hfb3_2 hfb3_3 hfb3_4 hzb2_0 hzb2_1 hzb2_2 hzb2_3 hzb2_4 hfb2_0 hfb2_1 hfb2_2 hfb2_3 hfb2_4 hzb1_0 hzb1_1 hzb1_2 hzb1_3 hzb1_4 hfb1_0 hfb1_1 hfb1_2 hfb1_3 hfb1_4; obtain ⟨hzb3_0, hzb3_1, hzb3_2, hzb3_3, hzb3_4, hfb3_0, hfb3_1, hfb3_2, hfb3_3, hfb3_4⟩ := box5 (HS.blk 4); obtain ⟨hzb2_0, hzb2_1, hzb2_2, hzb2_3, hzb2_4, hfb2_0, hfb2_1, hfb2_2, hfb2_3, hfb2_4⟩ := box5 (HS.blk 5); obtain ⟨hzb1_0, hzb1_1, hzb1_2, hzb1_3, hzb1_4, hfb1_0, hfb1_1, hfb1_2, hfb1_3, hfb1_4⟩ := box5 (HS.blk 6)))
 clear hzb3_0 hzb3_1 hzb3_2 hzb3_3 hzb3_4 hfb3_0 hfb3_1 hfb3_2 hfb3_3 hfb3_4 hzb2_0 hzb2_1 hzb2_2 hzb2_3 hzb2_4 hfb2_0 hfb2_1 hfb2_2 hfb2_3 hfb2_4 hzb1_0 hzb1_1 hzb1_2 hzb1_3 hzb1_4 hfb1_0 hfb1_1 hfb1_2 hfb1_3 hfb1_4
 obtain ⟨W5_, e5_, H5_⟩ := (HS.putI 4 3 (.slice B3 t3.length d3) #[.slice B0 t0.length d0, .slice B1 t1.length d1, .slice B2 t2.length d2, .slice B3 t3.length d3, .int .i64 0]).gen
 rw [e5_]
 clear HS e5_
 have HS := H5_
 clear H5_
 obtain ⟨hzb3_0, hzb3_1, hzb3_2, hzb3_3, hzb3_4, hfb3_0, hfb3_1, hfb3_2, hfb3_3, hfb3_4⟩ := box5 (HS.blk 4)
 obtain ⟨hzb2_0, hzb2_1, hzb2_2, hzb2_3, hzb2_4, hfb2_0, hfb2_1, hfb2_2, hfb2_3, hfb2_4⟩ := box5 (HS.blk 5)
 obtain ⟨hzb1_0, hzb1_1, hzb1_2, hzb1_3, hzb1_4, hfb1_0, hfb1_1, hfb1_2, hfb1_3, hfb1_4⟩ := box5 (HS.blk 6)
 go_upto_region 7 with (first | (fail))
 clear hzb3_0 hzb3_1 hzb3_2 hzb3_3 hzb3_4 hfb3_0 hfb3_1 hfb3_2 hfb3_3 hfb3_4 hzb2_0 hzb2_1 hzb2_2 hzb2_3 hzb2_4 hfb2_0 hfb2_1 hfb2_2 hfb2_3 hfb2_4 hzb1_0 hzb1_1 hzb1_2 hzb1_3 hzb1_4 hfb1_0 hfb1_1 hfb1_2 hfb1_3 hfb1_4
 obtain ⟨W5_, e5_, H5_⟩ := (HS.putI 4 4 (.int .i64 sd) #[.slice B0 t0.length d0, .slice B1 t1.length d1, .slice B2 t2.length d2, .slice B3 t3.length d3, .int .i64 sd]).gen
 rw [e5_]
 clear HS e5_
 have HS := H5_
 clear H5_
 obtain ⟨hzb3_0, hzb3_1, hzb3_2, hzb3_3, hzb3_4, hfb3_0, hfb3_1, hfb3_2, hfb3_3, hfb3_4⟩ := box5 (HS.blk 4)
 obtain ⟨hzb2_0, hzb2_1, hzb2_2, hzb2_3, hzb2_4, hfb2_0, hfb2_1, hfb2_2, hfb2_3, hfb2_4⟩ := box5 (HS.blk 5)
 go_wp2
 clear hzb3_0 hzb3_1 hzb3_2 hzb3_3 hzb3_4 hfb3_0 hfb3_1 hfb3_2 hfb3_3 hfb3_4 hzb2_0 hzb2_1 hzb2_2 hzb2_3 hzb2_4 hfb2_0 hfb2_1 hfb2_2 hfb2_3 hfb2_4
 have HF := HS.put5I 5 (.slice B0 t0.length d0) (.slice B1 t1.length d1) (.slice B2 t2.length d2) (.slice B3 t3.length d3) (.int .i64 sd)
 refine bodyPost_ret (results_cell_row rfl _ _ b2 30 #[.slice B0 t0.length d0, .slice B1 t1.length d1, .slice B2 t2.length d2, .slice B3 t3.length d3, .int .i64 sd] (0, 0) _ rfl (by exact (HF.blk 5).out) Try.underlying30 rfl (by kernel_rfl)) rfl ?_
 exact ⟨_, _, _, _, rfl, (HF.sel [3, 2, 1, 0]).cols, HF.base⟩

/-! ### impl_within: function 20 -/
def impl_within.f (a0 : Int) (a1 : Int) (a2 : Int) : Option (Bool) := if a0 ≥ a1 then (some (decide (a0 ≤ a2))) else (some false)
set_option maxHeartbeats 8000000 in
set_option maxRecDepth 100000 in
theorem impl_within.calls (a0 : Int) (a1 : Int) (a2 : Int) (r : Bool) (w : World) (h : impl_within.f a0 a1 a2 = some r) :
  Calls Try.prog 20 #[.int .i64 a0, .int .i64 a1, .int .i64 a2] w fun e w' => e = .returned (.bool r) ∧ Drawn0 w w' := by
 have H : (if a0 ≥ a1 then (some (decide (a0 ≤ a2))) else (some false)) = some r := h
 clear h
 by_cases c4 : a0 ≥ a1
 ·rw [if_pos c4] at H
  have c4b0 : decide (a1 ≤ a0) = true := decide_eq_true c4
  clear c4
  obtain rfl := Option.some.inj H
  go_enter Try.func20, Try.ntmps20
  go_wp2
  go_ret
  exact ⟨er, drw⟩
 ·rw [if_neg c4] at H
  have c4b0 : decide (a1 ≤ a0) = false := decide_eq_false c4
  clear c4
  obtain rfl := Option.some.inj H
  go_enter Try.func20, Try.ntmps20
  go_wp2
  go_ret
  exact ⟨er, drw⟩

/-! ### impl_allWithin: function 40 -/
def impl_allWithin.l0 : Nat → Int → Int → List Int → Int → Int → Option (Bool)
  | 0, _, _, _, _, _ => none
  | k + 1, x1, x2, x9, x10, x11 => if x11 < x10 then (if 0 ≤ x11 then (if x11 < (x9.length : Int) then ((impl_within.f (rd x9 x11) x1 x2).bind fun t197 => (if t197 = true then (impl_allWithin.l0 k x1 x2 x9 x10 (wrap64 (x11 + 1))) else (some false))) else (none)) else (none)) else (some true)
def impl_allWithin.f (k : Nat) (l0 : List Int) (a1 : Int) (a2 : Int) : Option (Bool) := impl_allWithin.l0 k a1 a2 l0 (l0.length : Int) 0
theorem impl_allWithin.mono_l : ∀ k, (∀ y0 y1 y2 y3 y4, LeO (impl_allWithin.l0 k y0 y1 y2 y3 y4) (impl_allWithin.l0 (k + 1) y0 y1 y2 y3 y4))
 | 0 => fun _ _ _ _ _ r h => by simp [impl_allWithin.l0] at h
 | k + 1 => by
  have ih0 := impl_allWithin.mono_l k
  ·intro y0 y1 y2 y3 y4
   unfold impl_allWithin.l0
   repeat' (first | (with_reducible first | exact ih0 _ _ _ _ _ | exact LeO.refl _ | exact LeO.none _ | refine LeO.ite ?_ ?_ | refine LeO.bind ?_ (fun _ => ?_)) | exact ih0 _ _ _ _ _ | exact LeO.none _ | refine LeO.ite ?_ ?_ | refine LeO.bind ?_ (fun _ => ?_))
theorem impl_allWithin.mono : ∀ a0 a1 a2 k, LeO (impl_allWithin.f k a0 a1 a2) (impl_allWithin.f (k + 1) a0 a1 a2) := by
 intro a0 a1 a2 k
 have ih0 := impl_allWithin.mono_l k
 unfold impl_allWithin.f
 repeat' (first | (with_reducible first | exact ih0 _ _ _ _ _ | exact LeO.refl _ | exact LeO.none _ | refine LeO.ite ?_ ?_ | refine LeO.bind ?_ (fun _ => ?_)) | exact ih0 _ _ _ _ _ | exact LeO.none _ | refine LeO.ite ?_ ?_ | refine LeO.bind ?_ (fun _ => ?_))
set_option maxHeartbeats 8000000 in
set_option maxRecDepth 100000 in
theorem impl_allWithin.calls (k : Nat) (A0 : Option Addr) (c0 : Nat) (l0 : List Int) (a1 : Int) (a2 : Int) (r : Bool) (w : World) (hr0 : Kd.C (Kd.int .i64) w A0 l0.length l0) (hc0 : l0.length ≤ c0) (h : impl_allWithin.f k l0 a1 a2 = some r) :
  Calls Try.prog 40 #[.slice A0 l0.length c0, .int .i64 a1, .int .i64 a2] w fun e w' => e = .returned (.bool r) ∧ Drawn0 w w' := by
 have HR0 := Aside0.mk hr0; have HC0 := Aside0.mk hc0; clear hr0 hc0
 have H : (impl_allWithin.l0 k a1 a2 l0 (l0.length : Int) 0) = some r := h
 clear h
 have H' := Aside0.mk H
 clear H
 go_enter Try.func40, Try.ntmps40
 go_wp2
 go_loopg [11] k (fun kq v11 w' => ∃ (x11_1 : Int), v11 = .int .i64 x11_1 ∧ Aside0 (impl_allWithin.l0 kq a1 a2 l0 (l0.length : Int) x11_1 = some r) ∧ Aside0 (kq ≤ k) ∧ Drawn0 w w')
 case atStart => exact ⟨(0), er, H', ⟨Nat.le_refl _⟩, drw⟩
 case round =>
  clear H'
  obtain ⟨x11_1, rfl, HA, HK1, ⟨m1, rfl⟩⟩ := hrel
  cases gk with
  | zero => exact absurd HA.out (by simp [impl_allWithin.l0])
  | succ k1 =>
   have H := HA.out; clear HA
   simp only [impl_allWithin.l0] at H
   by_cases c4 : x11_1 < (l0.length : Int)
   ·rw [if_pos c4] at H
    have c4b0 : decide (x11_1 < (l0.length : Int)) = true := decide_eq_true c4
    clear c4; replace H := ifS H; obtain ⟨c5, H⟩ := H; have c5b0 := decide_eq_true c5; clear c5; replace H := ifS H; obtain ⟨c6, H⟩ := H; have c6b0 := decide_eq_true c6; clear c6; replace H := bS H; obtain ⟨t197, A7, H⟩ := H
    replace H : (if t197 = true then (impl_allWithin.l0 k1 a1 a2 l0 (l0.length : Int) (wrap64 (x11_1 + 1))) else (some false)) = some r := H
    by_cases c8 : t197 = true
    ·subst c8
     have H1 : (impl_allWithin.l0 k1 a1 a2 l0 (l0.length : Int) (wrap64 (x11_1 + 1))) = some r := by rw [if_pos rfl] at H; exact H
     clear H
     have H := H1
     clear H1
     have H' := Aside0.mk H
     clear H
     have p196 : 0 ≤ (x11_1 : Int) := da
     have q196 : x11_1 < (l0.length : Int) := da
     obtain ⟨ad196, e196, hx196_0⟩ := Kd.at_int HR0.out x11_1 p196 q196
     cases e196
     replace p196 := eq_true p196; replace q196 := eq_true q196
     go_wp2_with (first | ((with_reducible refine gate_callee (f := 20) rfl ?_); refine goesLa (some 18) rfl Try.func20 #[.int .i64 (rd l0 x11_1), .int .i64 a1, .int .i64 a2] rfl ?_; (with_reducible refine (impl_within.calls (rd l0 x11_1) a1 a2 true _ A7.out).mono ?_); rintro e w' ⟨rfl, ⟨nd, rfl⟩⟩; refine ⟨_, rfl, ?_⟩))
     go_roundg k1
     case measure => have := HK1.out; omega
     case rel => exact ⟨(wrap64 (x11_1 + 1)), er, H', ⟨by have := HK1.out; omega⟩, drw⟩
    ·replace c8 := Bool.eq_false_iff.mpr c8
     subst c8
     have H1 : (some false) = some r := by rw [if_neg (show ¬ (false = true) by decide)] at H; exact H
     clear H
     have H := H1
     clear H1
     obtain rfl := Option.some.inj H
     have p196 : 0 ≤ (x11_1 : Int) := da
     have q196 : x11_1 < (l0.length : Int) := da
     obtain ⟨ad196, e196, hx196_0⟩ := Kd.at_int HR0.out x11_1 p196 q196
     cases e196
     replace p196 := eq_true p196; replace q196 := eq_true q196
     go_wp2_with (first | ((with_reducible refine gate_callee (f := 20) rfl ?_); refine goesLa (some 18) rfl Try.func20 #[.int .i64 (rd l0 x11_1), .int .i64 a1, .int .i64 a2] rfl ?_; (with_reducible refine (impl_within.calls (rd l0 x11_1) a1 a2 false _ A7.out).mono ?_); rintro e w' ⟨rfl, ⟨nd, rfl⟩⟩; refine ⟨_, rfl, ?_⟩))
     go_ret
     exact ⟨er, drw⟩
   ·rw [if_neg c4] at H
    have c4b0 : decide (x11_1 < (l0.length : Int)) = false := decide_eq_false c4
    clear c4
    obtain rfl := Option.some.inj H
    go_wp2
    go_ret
    exact ⟨er, drw⟩

/-! ### impl_areKeys: function 32 -/
def impl_areKeys.f (k : Nat) (l0 : List Int) : Option (Bool) := if (l0.length : Int) ≤ 8 then ((impl_allWithin.f k l0 0 65535).bind fun t198 => (some t198)) else (some false)
theorem impl_areKeys.mono : ∀ a0 k, LeO (impl_areKeys.f k a0) (impl_areKeys.f (k + 1) a0) := by
 intro a0 k
 unfold impl_areKeys.f
 repeat' (first | (with_reducible first | exact impl_allWithin.mono _ _ _ _ | exact LeO.refl _ | exact LeO.none _ | refine LeO.ite ?_ ?_ | refine LeO.bind ?_ (fun _ => ?_)) | exact impl_allWithin.mono _ _ _ _ | exact LeO.none _ | refine LeO.ite ?_ ?_ | refine LeO.bind ?_ (fun _ => ?_))
set_option maxHeartbeats 8000000 in
set_option maxRecDepth 100000 in
theorem impl_areKeys.calls (k : Nat) (A0 : Option Addr) (c0 : Nat) (l0 : List Int) (r : Bool) (w : World) (hr0 : Kd.C (Kd.int .i64) w A0 l0.length l0) (hc0 : l0.length ≤ c0) (h : impl_areKeys.f k l0 = some r) :
  Calls Try.prog 32 #[.slice A0 l0.length c0] w fun e w' => e = .returned (.bool r) ∧ Drawn0 w w' := by
 have HR0 := Aside0.mk hr0; have HC0 := Aside0.mk hc0; clear hr0 hc0
 have H : (if (l0.length : Int) ≤ 8 then ((impl_allWithin.f k l0 0 65535).bind fun t198 => (some t198)) else (some false)) = some r := h
 clear h
 by_cases c2 : (l0.length : Int) ≤ 8
 ·rw [if_pos c2] at H
  have c2b0 : decide ((l0.length : Int) ≤ 8) = true := decide_eq_true c2
  have c2b1 : decide (l0.length ≤ 8) = true := decide_eq_true (by omega)
  clear c2; replace H := bS H; obtain ⟨t198, A3, H⟩ := H
  replace H : (some t198) = some r := H
  obtain rfl := Option.some.inj H
  go_enter Try.func32, Try.ntmps32
  go_wp2_with (first | (go_at_call 40; (with_reducible refine (impl_allWithin.calls k _ _ l0 0 65535 t198 _ ?side1 ?side2 A3.out).mono ?_); (case side1 => exact cd HR0.out); (case side2 => exact HC0.out); rintro e w' ⟨rfl, ⟨nd, rfl⟩⟩))
  go_ret
  exact ⟨er, drw⟩
 ·rw [if_neg c2] at H
  have c2b0 : decide ((l0.length : Int) ≤ 8) = false := decide_eq_false c2
  have c2b1 : decide (l0.length ≤ 8) = false := decide_eq_false (by omega)
  clear c2
  obtain rfl := Option.some.inj H
  go_enter Try.func32, Try.ntmps32
  go_wp2
  go_ret
  exact ⟨er, drw⟩

/-! ### impl_areOnions: function 33 -/
def impl_areOnions.l0 : Nat → List ByteArray → List ByteArray → Int → Int → Option (Bool)
  | 0, _, _, _, _ => none
  | k + 1, x0, x5, x6, x7 => if x7 < x6 then (if 0 ≤ x7 then (if x7 < (x5.length : Int) then (if ((rdOf ByteArray.empty x5 x7).size : Int) = 24 then (if x7 > 0 then (if 0 ≤ (wrap64 (x7 - 1)) then (if (wrap64 (x7 - 1)) < (x0.length : Int) then (if ((Op.bytesLess ((rdOf ByteArray.empty x0 (wrap64 (x7 - 1))).toList) ((rdOf ByteArray.empty x5 x7).toList)) = true) then (impl_areOnions.l0 k x0 x5 x6 (wrap64 (x7 + 1))) else (some false)) else (none)) else (none)) else (impl_areOnions.l0 k x0 x5 x6 (wrap64 (x7 + 1)))) else (some false)) else (none)) else (none)) else (some (decide ((x0.length : Int) ≤ 100)))
def impl_areOnions.f (k : Nat) (l0 : List ByteArray) : Option (Bool) := impl_areOnions.l0 k l0 l0 (l0.length : Int) 0
theorem impl_areOnions.mono_l : ∀ k, (∀ y0 y1 y2 y3, LeO (impl_areOnions.l0 k y0 y1 y2 y3) (impl_areOnions.l0 (k + 1) y0 y1 y2 y3))
 | 0 => fun _ _ _ _ r h => by simp [impl_areOnions.l0] at h
 | k + 1 => by
  have ih0 := impl_areOnions.mono_l k
  ·intro y0 y1 y2 y3
   unfold impl_areOnions.l0
   repeat' (first | (with_reducible first | exact ih0 _ _ _ _ | exact LeO.refl _ | exact LeO.none _ | refine LeO.ite ?_ ?_ | refine LeO.bind ?_ (fun _ => ?_)) | exact ih0 _ _ _ _ | exact LeO.none _ | refine LeO.ite ?_ ?_ | refine LeO.bind ?_ (fun _ => ?_))
theorem impl_areOnions.mono : ∀ a0 k, LeO (impl_areOnions.f k a0) (impl_areOnions.f (k + 1) a0) := by
 intro a0 k
 have ih0 := impl_areOnions.mono_l k
 unfold impl_areOnions.f
 repeat' (first | (with_reducible first | exact ih0 _ _ _ _ | exact LeO.refl _ | exact LeO.none _ | refine LeO.ite ?_ ?_ | refine LeO.bind ?_ (fun _ => ?_)) | exact ih0 _ _ _ _ | exact LeO.none _ | refine LeO.ite ?_ ?_ | refine LeO.bind ?_ (fun _ => ?_))
set_option maxHeartbeats 8000000 in
set_option maxRecDepth 100000 in
theorem impl_areOnions.calls (k : Nat) (A0 : Option Addr) (c0 : Nat) (l0 : List ByteArray) (r : Bool) (w : World) (hr0 : Kd.C Kd.string w A0 l0.length l0) (hc0 : l0.length ≤ c0) (h : impl_areOnions.f k l0 = some r) :
  Calls Try.prog 33 #[.slice A0 l0.length c0] w fun e w' => e = .returned (.bool r) ∧ Drawn0 w w' := by
 have HR0 := Aside0.mk hr0; have HC0 := Aside0.mk hc0; clear hr0 hc0
 have H : (impl_areOnions.l0 k l0 l0 (l0.length : Int) 0) = some r := h
 clear h
 have H' := Aside0.mk H
 clear H
 go_enter Try.func33, Try.ntmps33
 go_wp2
 go_loopg [7] k (fun kq v7 w' => ∃ (x7_1 : Int), v7 = .int .i64 x7_1 ∧ Aside0 (impl_areOnions.l0 kq l0 l0 (l0.length : Int) x7_1 = some r) ∧ Aside0 (kq ≤ k) ∧ Drawn0 w w')
 case atStart => exact ⟨(0), er, H', ⟨Nat.le_refl _⟩, drw⟩
 case round =>
  clear H'
  obtain ⟨x7_1, rfl, HA, HK1, ⟨m1, rfl⟩⟩ := hrel
  cases gk with
  | zero => exact absurd HA.out (by simp [impl_areOnions.l0])
  | succ k1 =>
   have H := HA.out; clear HA
   simp only [impl_areOnions.l0] at H
   by_cases c2 : x7_1 < (l0.length : Int)
   ·rw [if_pos c2] at H
    have c2b0 : decide (x7_1 < (l0.length : Int)) = true := decide_eq_true c2
    clear c2; replace H := ifS H; obtain ⟨c3, H⟩ := H; have c3b0 := decide_eq_true c3; clear c3; replace H := ifS H; obtain ⟨c4, H⟩ := H; have c4b0 := decide_eq_true c4; clear c4
    by_cases c5 : ((rdOf ByteArray.empty l0 x7_1).size : Int) = 24
    ·rw [if_pos c5] at H
     have c5b0 : (((rdOf ByteArray.empty l0 x7_1).size : Int) == 24) = true := beq_iff_eq.mpr c5
     have c5b1 : (((rdOf ByteArray.empty l0 x7_1).size : Int) != 24) = false := bne_eq_false_iff_eq.mpr c5
     clear c5
     by_cases c6 : x7_1 > 0
     ·rw [if_pos c6] at H
      have c6b0 : decide (0 < x7_1) = true := decide_eq_true c6
      clear c6
      obtain ⟨ji7, hji7⟩ : ∃ j_ : Int, (wrap64 (x7_1 - 1)) = j_ := ⟨_, rfl⟩
      replace H : (if 0 ≤ (ji7) then (if (ji7) < (l0.length : Int) then (if ((Op.bytesLess ((rdOf ByteArray.empty l0 (ji7)).toList) ((rdOf ByteArray.empty l0 x7_1).toList)) = true) then (impl_areOnions.l0 k1 l0 l0 (l0.length : Int) (wrap64 (x7_1 + 1))) else (some false)) else (none)) else (none)) = some r := by first | (rw [hji7] at H; exact H) | (simp only [hji7] at H ⊢; exact H)
      have hji7w : (IntKind.i64.wrap (x7_1 - 1)) = ji7 := (i64_w _).trans hji7
      replace H := ifS H; obtain ⟨c8, H⟩ := H; have c8b0 := decide_eq_true c8; clear c8; replace H := ifS H; obtain ⟨c9, H⟩ := H; have c9b0 := decide_eq_true c9; clear c9
      by_cases c10 : ((Op.bytesLess ((rdOf ByteArray.empty l0 (ji7)).toList) ((rdOf ByteArray.empty l0 x7_1).toList)) = true)
      ·rw [if_pos c10] at H
       have c10b0 : (Op.bytesLess ((rdOf ByteArray.empty l0 (ji7)).toList) ((rdOf ByteArray.empty l0 x7_1).toList)) = true := c10
       clear c10
       have H' := Aside0.mk H
       clear H
       have p199 : 0 ≤ (x7_1 : Int) := da
       have q199 : x7_1 < (l0.length : Int) := da
       obtain ⟨ad199, e199, hx199_0⟩ := Kd.at_string HR0.out x7_1 p199 q199
       cases e199
       replace p199 := eq_true p199; replace q199 := eq_true q199
       have p200 : 0 ≤ ((ji7) : Int) := da
       have q200 : (ji7) < (l0.length : Int) := da
       obtain ⟨ad200, e200, hx200_0⟩ := Kd.at_string HR0.out (ji7) p200 q200
       obtain rfl : ad199 = ad200 := (by injection e200)
       replace p200 := eq_true p200; replace q200 := eq_true q200; go_wp2
       go_roundg k1
       case measure => have := HK1.out; omega
       case rel => exact ⟨(wrap64 (x7_1 + 1)), er, H', ⟨by have := HK1.out; omega⟩, drw⟩
      ·rw [if_neg c10] at H
       have c10b0 : (Op.bytesLess ((rdOf ByteArray.empty l0 (ji7)).toList) ((rdOf ByteArray.empty l0 x7_1).toList)) = false := by simpa using c10
       clear c10
       obtain rfl := Option.some.inj H
       have p199 : 0 ≤ (x7_1 : Int) := da
       have q199 : x7_1 < (l0.length : Int) := da
       obtain ⟨ad199, e199, hx199_0⟩ := Kd.at_string HR0.out x7_1 p199 q199
       cases e199
       replace p199 := eq_true p199; replace q199 := eq_true q199
       have p200 : 0 ≤ ((ji7) : Int) := da
       have q200 : (ji7) < (l0.length : Int) := da
       obtain ⟨ad200, e200, hx200_0⟩ := Kd.at_string HR0.out (ji7) p200 q200
       obtain rfl : ad199 = ad200 := (by injection e200)
       replace p200 := eq_true p200; replace q200 := eq_true q200; go_wp2
       go_ret
       exact ⟨by first | rfl | (simp; done) | (simp only [← hji7] <;> (first | rfl | simp)) | (simp [*]; done), drw⟩
     ·rw [if_neg c6] at H
      have c6b0 : decide (0 < x7_1) = false := decide_eq_false c6
      clear c6
      have H' := Aside0.mk H
      clear H
      have p199 : 0 ≤ (x7_1 : Int) := da
      have q199 : x7_1 < (l0.length : Int) := da
      obtain ⟨ad199, e199, hx199_0⟩ := Kd.at_string HR0.out x7_1 p199 q199
      cases e199
      replace p199 := eq_true p199; replace q199 := eq_true q199; go_wp2
      go_roundg k1
      case measure => have := HK1.out; omega
      case rel => exact ⟨(wrap64 (x7_1 + 1)), er, H', ⟨by have := HK1.out; omega⟩, drw⟩
    ·rw [if_neg c5] at H
     have c5b0 : (((rdOf ByteArray.empty l0 x7_1).size : Int) == 24) = false := beq_eq_false_iff_ne.mpr c5
     have c5b1 : (((rdOf ByteArray.empty l0 x7_1).size : Int) != 24) = true := bne_iff_ne.mpr c5
     obtain rfl := Option.some.inj H
     have p199 : 0 ≤ (x7_1 : Int) := da
     have q199 : x7_1 < (l0.length : Int) := da
     obtain ⟨ad199, e199, hx199_0⟩ := Kd.at_string HR0.out x7_1 p199 q199
     cases e199
     replace p199 := eq_true p199; replace q199 := eq_true q199; go_wp2
     go_ret
     exact ⟨er, drw⟩
   ·rw [if_neg c2] at H
    have c2b0 : decide (x7_1 < (l0.length : Int)) = false := decide_eq_false c2
    clear c2
    obtain rfl := Option.some.inj H
    go_wp2
    go_ret
    exact ⟨er, drw⟩

/-! ### slices_Index_string_string: function 41 -/
def slices_Index_string_string.l0 : Nat → List ByteArray → ByteArray → Int → Int → Option (Int)
  | 0, _, _, _, _ => none
  | k + 1, x0, x1, x7, x8 => if x8 < x7 then (if 0 ≤ x8 then (if x8 < (x0.length : Int) then (if x1.toList = (rdOf ByteArray.empty x0 x8).toList then (some x8) else (slices_Index_string_string.l0 k x0 x1 x7 (wrap64 (x8 + 1)))) else (none)) else (none)) else (some (-1))
def slices_Index_string_string.f (k : Nat) (l0 : List ByteArray) (a1 : ByteArray) : Option (Int) := slices_Index_string_string.l0 k l0 a1 (l0.length : Int) 0
theorem slices_Index_string_string.mono_l : ∀ k, (∀ y0 y1 y2 y3, LeO (slices_Index_string_string.l0 k y0 y1 y2 y3) (slices_Index_string_string.l0 (k + 1) y0 y1 y2 y3))
 | 0 => fun _ _ _ _ r h => by simp [slices_Index_string_string.l0] at h
 | k + 1 => by
  have ih0 := slices_Index_string_string.mono_l k
  ·intro y0 y1 y2 y3
   unfold slices_Index_string_string.l0
   repeat' (first | (with_reducible first | exact ih0 _ _ _ _ | exact LeO.refl _ | exact LeO.none _ | refine LeO.ite ?_ ?_ | refine LeO.bind ?_ (fun _ => ?_)) | exact ih0 _ _ _ _ | exact LeO.none _ | refine LeO.ite ?_ ?_ | refine LeO.bind ?_ (fun _ => ?_))
theorem slices_Index_string_string.mono : ∀ a0 a1 k, LeO (slices_Index_string_string.f k a0 a1) (slices_Index_string_string.f (k + 1) a0 a1) := by
 intro a0 a1 k
 have ih0 := slices_Index_string_string.mono_l k
 unfold slices_Index_string_string.f
 repeat' (first | (with_reducible first | exact ih0 _ _ _ _ | exact LeO.refl _ | exact LeO.none _ | refine LeO.ite ?_ ?_ | refine LeO.bind ?_ (fun _ => ?_)) | exact ih0 _ _ _ _ | exact LeO.none _ | refine LeO.ite ?_ ?_ | refine LeO.bind ?_ (fun _ => ?_))
set_option maxHeartbeats 8000000 in
set_option maxRecDepth 100000 in
theorem slices_Index_string_string.calls (k : Nat) (A0 : Option Addr) (c0 : Nat) (l0 : List ByteArray) (a1 : ByteArray) (r : Int) (w : World) (hr0 : Kd.C Kd.string w A0 l0.length l0) (hc0 : l0.length ≤ c0) (h : slices_Index_string_string.f k l0 a1 = some r) :
  Calls Try.prog 41 #[.slice A0 l0.length c0, .string a1] w fun e w' => e = .returned (.int .i64 r) ∧ Drawn0 w w' := by
 have HR0 := Aside0.mk hr0; have HC0 := Aside0.mk hc0; clear hr0 hc0
 have H : (slices_Index_string_string.l0 k l0 a1 (l0.length : Int) 0) = some r := h
 clear h
 have H' := Aside0.mk H
 clear H
 go_enter Try.func41, Try.ntmps41
 go_wp2
 go_loopg [8] k (fun kq v8 w' => ∃ (x8_1 : Int), v8 = .int .i64 x8_1 ∧ Aside0 (slices_Index_string_string.l0 kq l0 a1 (l0.length : Int) x8_1 = some r) ∧ Aside0 (kq ≤ k) ∧ Drawn0 w w')
 case atStart => exact ⟨(0), er, H', ⟨Nat.le_refl _⟩, drw⟩
 case round =>
  clear H'
  obtain ⟨x8_1, rfl, HA, HK1, ⟨m1, rfl⟩⟩ := hrel
  cases gk with
  | zero => exact absurd HA.out (by simp [slices_Index_string_string.l0])
  | succ k1 =>
   have H := HA.out; clear HA
   simp only [slices_Index_string_string.l0] at H
   by_cases c3 : x8_1 < (l0.length : Int)
   ·rw [if_pos c3] at H
    have c3b0 : decide (x8_1 < (l0.length : Int)) = true := decide_eq_true c3
    clear c3; replace H := ifS H; obtain ⟨c4, H⟩ := H; have c4b0 := decide_eq_true c4; clear c4; replace H := ifS H; obtain ⟨c5, H⟩ := H; have c5b0 := decide_eq_true c5; clear c5
    by_cases c6 : a1.toList = (rdOf ByteArray.empty l0 x8_1).toList
    ·rw [if_pos c6] at H
     have c6b0 : (a1.toList == (rdOf ByteArray.empty l0 x8_1).toList) = true := beq_iff_eq.mpr c6
     have c6b1 : (a1.toList != (rdOf ByteArray.empty l0 x8_1).toList) = false := bne_eq_false_iff_eq.mpr c6
     clear c6
     obtain rfl := Option.some.inj H
     have p201 : 0 ≤ (x8_1 : Int) := da
     have q201 : x8_1 < (l0.length : Int) := da
     obtain ⟨ad201, e201, hx201_0⟩ := Kd.at_string HR0.out x8_1 p201 q201
     cases e201
     replace p201 := eq_true p201; replace q201 := eq_true q201; go_wp2
     go_ret
     exact ⟨er, drw⟩
    ·rw [if_neg c6] at H
     have c6b0 : (a1.toList == (rdOf ByteArray.empty l0 x8_1).toList) = false := beq_eq_false_iff_ne.mpr c6
     have c6b1 : (a1.toList != (rdOf ByteArray.empty l0 x8_1).toList) = true := bne_iff_ne.mpr c6
     have H' := Aside0.mk H
     clear H
     have p201 : 0 ≤ (x8_1 : Int) := da
     have q201 : x8_1 < (l0.length : Int) := da
     obtain ⟨ad201, e201, hx201_0⟩ := Kd.at_string HR0.out x8_1 p201 q201
     cases e201
     replace p201 := eq_true p201; replace q201 := eq_true q201; go_wp2
     go_roundg k1
     case measure => have := HK1.out; omega
     case rel => exact ⟨(wrap64 (x8_1 + 1)), er, H', ⟨by have := HK1.out; omega⟩, drw⟩
   ·rw [if_neg c3] at H
    have c3b0 : decide (x8_1 < (l0.length : Int)) = false := decide_eq_false c3
    clear c3
    obtain rfl := Option.some.inj H
    go_wp2
    go_ret
    exact ⟨er, drw⟩

/-! ### slices_Contains_string_string: function 34 -/
def slices_Contains_string_string.f (k : Nat) (l0 : List ByteArray) (a1 : ByteArray) : Option (Bool) := (slices_Index_string_string.f k l0 a1).bind fun t202 => (some (decide (t202 ≥ 0)))
theorem slices_Contains_string_string.mono : ∀ a0 a1 k, LeO (slices_Contains_string_string.f k a0 a1) (slices_Contains_string_string.f (k + 1) a0 a1) := by
 intro a0 a1 k
 unfold slices_Contains_string_string.f
 repeat' (first | (with_reducible first | exact slices_Index_string_string.mono _ _ _ | exact LeO.refl _ | exact LeO.none _ | refine LeO.ite ?_ ?_ | refine LeO.bind ?_ (fun _ => ?_)) | exact slices_Index_string_string.mono _ _ _ | exact LeO.none _ | refine LeO.ite ?_ ?_ | refine LeO.bind ?_ (fun _ => ?_))
set_option maxHeartbeats 8000000 in
set_option maxRecDepth 100000 in
theorem slices_Contains_string_string.calls (k : Nat) (A0 : Option Addr) (c0 : Nat) (l0 : List ByteArray) (a1 : ByteArray) (r : Bool) (w : World) (hr0 : Kd.C Kd.string w A0 l0.length l0) (hc0 : l0.length ≤ c0) (h : slices_Contains_string_string.f k l0 a1 = some r) :
  Calls Try.prog 34 #[.slice A0 l0.length c0, .string a1] w fun e w' => e = .returned (.bool r) ∧ Drawn0 w w' := by
 have HR0 := Aside0.mk hr0; have HC0 := Aside0.mk hc0; clear hr0 hc0
 have H : ((slices_Index_string_string.f k l0 a1).bind fun t202 => (some (decide (t202 ≥ 0)))) = some r := h
 clear h; replace H := bS H; obtain ⟨t202, A3, H⟩ := H
 replace H : (some (decide (t202 ≥ 0))) = some r := H
 obtain rfl := Option.some.inj H
 go_enter Try.func34, Try.ntmps34
 go_wp2_with (first | ((with_reducible refine gate_callee (f := 41) rfl ?_); refine goesLa (some 7) rfl Try.func41 #[.slice A0 l0.length c0, .string a1] rfl ?_; (with_reducible refine (slices_Index_string_string.calls k _ _ l0 a1 t202 _ ?side1 ?side2 A3.out).mono ?_); (case side1 => exact cd HR0.out); (case side2 => exact HC0.out); rintro e w' ⟨rfl, ⟨nd, rfl⟩⟩; refine ⟨_, rfl, ?_⟩))
 go_ret
 exact ⟨er, drw⟩

-- NOT PRINTED: function 42 (slices_IndexFunc_string_string)

-- NOT PRINTED: function 35 (slices_ContainsFunc_string_string)

/-! ### impl_GoodNet_1: function 36 -/
def impl_GoodNet_1.f (a0 : ByteArray) : Option (Bool) := (impl_within.f (a0.size : Int) 1 15).bind fun t203 => (some (!t203))
set_option maxHeartbeats 8000000 in
set_option maxRecDepth 100000 in
theorem impl_GoodNet_1.calls (a0 : ByteArray) (r : Bool) (w : World) (h : impl_GoodNet_1.f a0 = some r) :
  Calls Try.prog 36 #[.string a0] w fun e w' => e = .returned (.bool r) ∧ Drawn0 w w' := by
 have H : ((impl_within.f (a0.size : Int) 1 15).bind fun t203 => (some (!t203))) = some r := h
 clear h; replace H := bS H; obtain ⟨t203, A2, H⟩ := H
 replace H : (some (!t203)) = some r := H
 obtain rfl := Option.some.inj H
 go_enter Try.func36, Try.ntmps36
 go_wp2_with (first | ((with_reducible refine gate_callee (f := 20) rfl ?_); refine goesLa (some 5) rfl Try.func20 #[.int .i64 (a0.size : Int), .int .i64 1, .int .i64 15] rfl ?_; (with_reducible refine (impl_within.calls (a0.size : Int) 1 15 t203 _ A2.out).mono ?_); rintro e w' ⟨rfl, ⟨nd, rfl⟩⟩; refine ⟨_, rfl, ?_⟩))
 go_ret
 exact ⟨er, drw⟩

/-! ### slices_IndexFunc_42_at_36: function 42 -/
def slices_IndexFunc_42_at_36.l0 : Nat → List ByteArray → Int → Int → Option (Int)
  | 0, _, _, _ => none
  | k + 1, x0, x7, x8 => if x8 < x7 then (if 0 ≤ x8 then (if x8 < (x0.length : Int) then ((impl_GoodNet_1.f (rdOf ByteArray.empty x0 x8)).bind fun t205 => (if t205 = true then (some x8) else (slices_IndexFunc_42_at_36.l0 k x0 x7 (wrap64 (x8 + 1))))) else (none)) else (none)) else (some (-1))
def slices_IndexFunc_42_at_36.f (k : Nat) (l0 : List ByteArray)  : Option (Int) := slices_IndexFunc_42_at_36.l0 k l0 (l0.length : Int) 0
theorem slices_IndexFunc_42_at_36.mono_l : ∀ k, (∀ y0 y1 y2, LeO (slices_IndexFunc_42_at_36.l0 k y0 y1 y2) (slices_IndexFunc_42_at_36.l0 (k + 1) y0 y1 y2))
 | 0 => fun _ _ _ r h => by simp [slices_IndexFunc_42_at_36.l0] at h
 | k + 1 => by
  have ih0 := slices_IndexFunc_42_at_36.mono_l k
  ·intro y0 y1 y2
   unfold slices_IndexFunc_42_at_36.l0
   repeat' (first | (with_reducible first | exact ih0 _ _ _ | exact LeO.refl _ | exact LeO.none _ | refine LeO.ite ?_ ?_ | refine LeO.bind ?_ (fun _ => ?_)) | exact ih0 _ _ _ | exact LeO.none _ | refine LeO.ite ?_ ?_ | refine LeO.bind ?_ (fun _ => ?_))
theorem slices_IndexFunc_42_at_36.mono : ∀ a0 k, LeO (slices_IndexFunc_42_at_36.f k a0) (slices_IndexFunc_42_at_36.f (k + 1) a0) := by
 intro a0 k
 have ih0 := slices_IndexFunc_42_at_36.mono_l k
 unfold slices_IndexFunc_42_at_36.f
 repeat' (first | (with_reducible first | exact ih0 _ _ _ | exact LeO.refl _ | exact LeO.none _ | refine LeO.ite ?_ ?_ | refine LeO.bind ?_ (fun _ => ?_)) | exact ih0 _ _ _ | exact LeO.none _ | refine LeO.ite ?_ ?_ | refine LeO.bind ?_ (fun _ => ?_))
set_option maxHeartbeats 8000000 in
set_option maxRecDepth 100000 in
theorem slices_IndexFunc_42_at_36.calls (k : Nat) (A0 : Option Addr) (c0 : Nat) (l0 : List ByteArray)  (r : Int) (w : World) (hr0 : Kd.C Kd.string w A0 l0.length l0) (hc0 : l0.length ≤ c0) (h : slices_IndexFunc_42_at_36.f k l0 = some r) :
  Calls Try.prog 42 #[.slice A0 l0.length c0, .func (.func 36) #[] #[]] w fun e w' => e = .returned (.int .i64 r) ∧ Drawn0 w w' := by
 have HR0 := Aside0.mk hr0; have HC0 := Aside0.mk hc0; clear hr0 hc0
 have H : (slices_IndexFunc_42_at_36.l0 k l0 (l0.length : Int) 0) = some r := h
 clear h
 have H' := Aside0.mk H
 clear H
 go_enter Try.func42, Try.ntmps42
 go_wp2
 go_loopg [8] k (fun kq v8 w' => ∃ (x8_1 : Int), v8 = .int .i64 x8_1 ∧ Aside0 (slices_IndexFunc_42_at_36.l0 kq l0 (l0.length : Int) x8_1 = some r) ∧ Aside0 (kq ≤ k) ∧ Drawn0 w w')
 case atStart => exact ⟨(0), er, H', ⟨Nat.le_refl _⟩, drw⟩
 case round =>
  clear H'
  obtain ⟨x8_1, rfl, HA, HK1, ⟨m1, rfl⟩⟩ := hrel
  cases gk with
  | zero => exact absurd HA.out (by simp [slices_IndexFunc_42_at_36.l0])
  | succ k1 =>
   have H := HA.out; clear HA
   simp only [slices_IndexFunc_42_at_36.l0] at H
   by_cases c3 : x8_1 < (l0.length : Int)
   ·rw [if_pos c3] at H
    have c3b0 : decide (x8_1 < (l0.length : Int)) = true := decide_eq_true c3
    clear c3; replace H := ifS H; obtain ⟨c4, H⟩ := H; have c4b0 := decide_eq_true c4; clear c4; replace H := ifS H; obtain ⟨c5, H⟩ := H; have c5b0 := decide_eq_true c5; clear c5; replace H := bS H; obtain ⟨t205, A6, H⟩ := H
    replace H : (if t205 = true then (some x8_1) else (slices_IndexFunc_42_at_36.l0 k1 l0 (l0.length : Int) (wrap64 (x8_1 + 1)))) = some r := H
    by_cases c7 : t205 = true
    ·subst c7
     have H1 : (some x8_1) = some r := by rw [if_pos rfl] at H; exact H
     clear H
     have H := H1
     clear H1
     obtain rfl := Option.some.inj H
     have p204 : 0 ≤ (x8_1 : Int) := da
     have q204 : x8_1 < (l0.length : Int) := da
     obtain ⟨ad204, e204, hx204_0⟩ := Kd.at_string HR0.out x8_1 p204 q204
     cases e204
     replace p204 := eq_true p204; replace q204 := eq_true q204
     go_wp2_with (first | ((with_reducible refine gate_value (f := 36) rfl rfl ?_); refine goesV_ (some 16) rfl rfl Try.func36 (by kernel_rfl) rfl #[.string (rdOf ByteArray.empty l0 x8_1)] rfl rfl (by (try simp only [List.map_toArray, List.map_cons, List.map_nil]); first | done | rfl | (simp only [List.length_drop, List.length_take]; rfl)) ?_; (with_reducible refine (impl_GoodNet_1.calls (rdOf ByteArray.empty l0 x8_1) true _ A6.out).mono ?_); rintro e w' ⟨rfl, ⟨nd, rfl⟩⟩; refine ⟨_, rfl, ?_⟩))
     go_ret
     exact ⟨er, drw⟩
    ·replace c7 := Bool.eq_false_iff.mpr c7
     subst c7
     have H1 : (slices_IndexFunc_42_at_36.l0 k1 l0 (l0.length : Int) (wrap64 (x8_1 + 1))) = some r := by rw [if_neg (show ¬ (false = true) by decide)] at H; exact H
     clear H
     have H := H1
     clear H1
     have H' := Aside0.mk H
     clear H
     have p204 : 0 ≤ (x8_1 : Int) := da
     have q204 : x8_1 < (l0.length : Int) := da
     obtain ⟨ad204, e204, hx204_0⟩ := Kd.at_string HR0.out x8_1 p204 q204
     cases e204
     replace p204 := eq_true p204; replace q204 := eq_true q204
     go_wp2_with (first | ((with_reducible refine gate_value (f := 36) rfl rfl ?_); refine goesV_ (some 16) rfl rfl Try.func36 (by kernel_rfl) rfl #[.string (rdOf ByteArray.empty l0 x8_1)] rfl rfl (by (try simp only [List.map_toArray, List.map_cons, List.map_nil]); first | done | rfl | (simp only [List.length_drop, List.length_take]; rfl)) ?_; (with_reducible refine (impl_GoodNet_1.calls (rdOf ByteArray.empty l0 x8_1) false _ A6.out).mono ?_); rintro e w' ⟨rfl, ⟨nd, rfl⟩⟩; refine ⟨_, rfl, ?_⟩))
     go_roundg k1
     case measure => have := HK1.out; omega
     case rel => exact ⟨(wrap64 (x8_1 + 1)), er, H', ⟨by have := HK1.out; omega⟩, drw⟩
   ·rw [if_neg c3] at H
    have c3b0 : decide (x8_1 < (l0.length : Int)) = false := decide_eq_false c3
    clear c3
    obtain rfl := Option.some.inj H
    go_wp2
    go_ret
    exact ⟨er, drw⟩

/-! ### slices_ContainsFunc_35_at_36: function 35 -/
def slices_ContainsFunc_35_at_36.f (k : Nat) (l0 : List ByteArray)  : Option (Bool) := (slices_IndexFunc_42_at_36.f k l0).bind fun t206 => (some (decide (t206 ≥ 0)))
theorem slices_ContainsFunc_35_at_36.mono : ∀ a0 k, LeO (slices_ContainsFunc_35_at_36.f k a0) (slices_ContainsFunc_35_at_36.f (k + 1) a0) := by
 intro a0 k
 unfold slices_ContainsFunc_35_at_36.f
 repeat' (first | (with_reducible first | exact slices_IndexFunc_42_at_36.mono _ _ | exact LeO.refl _ | exact LeO.none _ | refine LeO.ite ?_ ?_ | refine LeO.bind ?_ (fun _ => ?_)) | exact slices_IndexFunc_42_at_36.mono _ _ | exact LeO.none _ | refine LeO.ite ?_ ?_ | refine LeO.bind ?_ (fun _ => ?_))
set_option maxHeartbeats 8000000 in
set_option maxRecDepth 100000 in
theorem slices_ContainsFunc_35_at_36.calls (k : Nat) (A0 : Option Addr) (c0 : Nat) (l0 : List ByteArray)  (r : Bool) (w : World) (hr0 : Kd.C Kd.string w A0 l0.length l0) (hc0 : l0.length ≤ c0) (h : slices_ContainsFunc_35_at_36.f k l0 = some r) :
  Calls Try.prog 35 #[.slice A0 l0.length c0, .func (.func 36) #[] #[]] w fun e w' => e = .returned (.bool r) ∧ Drawn0 w w' := by
 have HR0 := Aside0.mk hr0; have HC0 := Aside0.mk hc0; clear hr0 hc0
 have H : ((slices_IndexFunc_42_at_36.f k l0).bind fun t206 => (some (decide (t206 ≥ 0)))) = some r := h
 clear h; replace H := bS H; obtain ⟨t206, A3, H⟩ := H
 replace H : (some (decide (t206 ≥ 0))) = some r := H
 obtain rfl := Option.some.inj H
 go_enter Try.func35, Try.ntmps35
 go_wp2_with (first | ((with_reducible refine gate_callee (f := 42) rfl ?_); refine goesLa (some 7) rfl Try.func42 #[.slice A0 l0.length c0, .func (.func 36) #[] #[]] rfl ?_; (with_reducible refine (slices_IndexFunc_42_at_36.calls k _ _ l0  t206 _ ?side1 ?side2 A3.out).mono ?_); (case side1 => exact cd HR0.out); (case side2 => exact HC0.out); rintro e w' ⟨rfl, ⟨nd, rfl⟩⟩; refine ⟨_, rfl, ?_⟩))
 go_ret
 exact ⟨er, drw⟩

end Go.Proofs.Ytmhdjkbfghfajaa.QFnExactInboxOf
