-- printed by this session's own program (wip/tools/pp.py: the kit's print.py with changes); Lean checks it
import Derived.Test.YtmhdjkbfghfajaaQFnExactInboxOfx0
import Derived.Test.YtmhdjkbfghfajaaQFnExactInboxOfx1
import Derived.Test.YtmhdjkbfghfajaaQFnExactInboxOfx2
import Derived.Test.YtmhdjkbfghfajaaQFnExactInboxOfx3
import Derived.Test.YtmhdjkbfghfajaaQFnExactInboxOfx7
namespace Go.Proofs.Ytmhdjkbfghfajaa.QFnExactInboxOf
open Go.RowKit Go.Proofs.YtmhdjkbfghfajaaW.PrintWords Go.Proofs.YtmhdjkbfghfajaaW.PrintLast Go.Proofs.YtmhdjkbfghfajaaW.PrintMore
attribute [local go_sem] max2_int min2_int max_two min_two max_three min_three max_four min_four strLss strGtr strLeq strGeq   -- for this text's walks alone
set_option linter.unusedVariables false
set_option linter.unusedSimpArgs false

/-! ### laws_markText: function 26 -/
def laws_markText.l0 : Nat → Int → ByteArray → Option (ByteArray)
  | 0, _, _ => none
  | k + 1, x0, x3 => if x0 > 0 then ((some (([(wrap64 (48 + (Int.tmod x0 10))) % 256] : List Int) : List Int)).bind fun y294 => (if (strOfNums y294).size + x3.size ≤ 9223372036854775807 then (laws_markText.l0 k (wrap64 (Int.tdiv x0 10)) ((strOfNums y294) ++ x3)) else (none))) else (if 1 + x3.size ≤ 9223372036854775807 then (some ((⟨#[109]⟩ : ByteArray) ++ x3)) else (none))
def laws_markText.f (k : Nat) (a0 : Int) : Option (ByteArray) := if a0 ≤ 0 then (some (⟨#[109, 48]⟩ : ByteArray)) else (laws_markText.l0 k a0 (⟨#[]⟩ : ByteArray))
theorem laws_markText.mono_l : ∀ k, (∀ y0 y1, LeO (laws_markText.l0 k y0 y1) (laws_markText.l0 (k + 1) y0 y1))
 | 0 => fun _ _ r h => by simp [laws_markText.l0] at h
 | k + 1 => by
  have ih0 := laws_markText.mono_l k
  ·intro y0 y1
   unfold laws_markText.l0
   repeat' (first | (with_reducible first | exact ih0 _ _ | exact LeO.refl _ | exact LeO.none _ | refine LeO.ite ?_ ?_ | refine LeO.bind ?_ (fun _ => ?_)) | exact ih0 _ _ | exact LeO.none _ | refine LeO.ite ?_ ?_ | refine LeO.bind ?_ (fun _ => ?_))
theorem laws_markText.mono : ∀ a0 k, LeO (laws_markText.f k a0) (laws_markText.f (k + 1) a0) := by
 intro a0 k
 have ih0 := laws_markText.mono_l k
 unfold laws_markText.f
 repeat' (first | (with_reducible first | exact ih0 _ _ | exact LeO.refl _ | exact LeO.none _ | refine LeO.ite ?_ ?_ | refine LeO.bind ?_ (fun _ => ?_)) | exact ih0 _ _ | exact LeO.none _ | refine LeO.ite ?_ ?_ | refine LeO.bind ?_ (fun _ => ?_))
set_option maxHeartbeats 8000000 in
set_option maxRecDepth 100000 in
theorem laws_markText.calls (k : Nat) (a0 : Int) (r : ByteArray) (w : World) (h : laws_markText.f k a0 = some r) :
  Calls Try.prog 26 #[.int .i64 a0] w fun e w' => e = .returned (.string r) ∧ Below w.heap.size w w' := by
 have HB := Aside0.mk (Below.refl w.heap.size w)
 have H : (if a0 ≤ 0 then (some (⟨#[109, 48]⟩ : ByteArray)) else (laws_markText.l0 k a0 (⟨#[]⟩ : ByteArray))) = some r := h
 clear h
 by_cases c2 : a0 ≤ 0
 ·rw [if_pos c2] at H
  have c2b0 : decide (a0 ≤ 0) = true := decide_eq_true c2
  clear c2
  obtain rfl := Option.some.inj H
  go_enter Try.func26, Try.ntmps26
  go_wp2
  go_ret
  exact ⟨er2, belowd HB⟩
 ·rw [if_neg c2] at H
  have c2b0 : decide (a0 ≤ 0) = false := decide_eq_false c2
  clear c2
  have H' := Aside0.mk H
  clear H
  go_enter Try.func26, Try.ntmps26
  go_wp2
  go_loopg [0, 3] k (fun kq v0 v3 w' => ∃ (x0_1 : Int) (x3_1 : ByteArray), v0 = .int .i64 x0_1 ∧ v3 = .string x3_1 ∧ Aside0 (laws_markText.l0 kq x0_1 x3_1 = some r) ∧ Aside0 (kq ≤ k) ∧ Aside0 (Below w.heap.size w w'))
  case atStart => exact ⟨(a0), ((⟨#[]⟩ : ByteArray)), er, er, H', ⟨Nat.le_refl _⟩, ⟨belowd HB⟩⟩
  case round =>
   clear H'
   (try clear c2b0)
   obtain ⟨x0_1, x3_1, rfl, rfl, HA, HK1, HB⟩ := hrel
   cases gk with
   | zero => exact absurd HA.out (by simp [laws_markText.l0])
   | succ k1 =>
    have H := HA.out; clear HA
    simp only [laws_markText.l0] at H
    by_cases c3 : x0_1 > 0
    ·rw [if_pos c3] at H
     have c3b0 : decide (0 < x0_1) = true := decide_eq_true c3
     clear c3
     obtain ⟨y294, hy_⟩ : ∃ y_ : List Int, y_ = (([(wrap64 (48 + (Int.tmod x0_1 10))) % 256] : List Int)) := ⟨_, rfl⟩
     replace H : (if (strOfNums y294).size + x3_1.size ≤ 9223372036854775807 then (laws_markText.l0 k1 (wrap64 (Int.tdiv x0_1 10)) ((strOfNums y294) ++ x3_1)) else (none)) = some r := yH
     have Ny294 := ak hy_; clear hy_; replace H := ifS H; obtain ⟨c4, H⟩ := H; have c4b0 := eq_true c4
     have c4b1 : decide ((strOfNums y294).size + x3_1.size ≤ 9223372036854775807) = true := decide_eq_true c4
     try have c4b2 : (9223372036854775807 < (strOfNums y294).size + x3_1.size) = False := eq_false (Nat.not_lt.2 c4)
     have H' := Aside0.mk H
     clear H
     go_wp2_with (first | ((with_reducible refine gate_dst (N := 12) rfl ?_); refine Kd.R_lit (Kd.int .u8) _ 5 ?hg (N := 12) ?hd (xs := ([(wrap64 (48 + (Int.tmod x0_1 10))) % 256] : List Int)) (inner := [.int .u8 ((wrap64 (48 + (Int.tmod x0_1 10))) % 256)]) (ok := fun _ => True) (okp := fun _ => True) ?hr ?hp (fun _ hk => hk) trivial (Below.refl _ _) (Nat.le_refl _) (by simp) ?_; (case hd => rfl); (case hg => rfl); (case hr => first | (go_simp; done) | (go_simp; rfl)); (case hp => exact (Reps.one (show Kd.M (Kd.int .u8) _ _ _ ((wrap64 (48 + (Int.tmod x0_1 10))) % 256) [.int .u8 ((wrap64 (48 + (Int.tmod x0_1 10))) % 256)] from rfl) (Reps.none _ _))); intro v295 w5 ho6 hb hg_ hnew_; clear hg_ hnew_; (first | rw [← Ny294.out] at ho6 | (simp only [Int.reduceToNat] at ho6; rw [← Ny294.out] at ho6)); have HO296 := ak (Kd.R_lower ho6 (below_size (belowd HB))); replace HB := ak (below_step (belowd HB) hb); clear hb ho6; have hcv7 := own_string (P := Try.prog) Try.underlying56 Try.underlying5 Try.underlying9 (Kd.own_of_R HO296.out)))
     go_roundg k1
     case measure => have := HK1.out; omega
     case rel => exact ⟨(wrap64 (Int.tdiv x0_1 10)), ((strOfNums y294) ++ x3_1), er, er, H', ⟨by have := HK1.out; omega⟩, ⟨belowd HB⟩⟩
    ·rw [if_neg c3] at H
     have c3b0 : decide (0 < x0_1) = false := decide_eq_false c3
     clear c3; replace H := ifS H; obtain ⟨c8, H⟩ := H; have c8b0 := eq_true c8
     have c8b1 : decide (1 + x3_1.size ≤ 9223372036854775807) = true := decide_eq_true c8
     try have c8b2 : (9223372036854775807 < 1 + x3_1.size) = False := eq_false (Nat.not_lt.2 c8)
     obtain rfl := Option.some.inj H
     go_wp2
     go_ret
     exact ⟨er2, belowd HB⟩

/-! ### laws_markStringS: function 11 -/
def laws_markStringS.l0 : Nat → List ByteArray → Int → Int → Option (Int × List ByteArray)
  | 0, _, _, _ => none
  | k + 1, x0, x1, x5 => if x5 < (x0.length : Int) then ((laws_markText.f k x1).bind fun t297 => (if 0 ≤ x5 then (laws_markStringS.l0 k (x0.set (x5 : Int).toNat t297) (wrap64 (x1 + 1)) (wrap64 (x5 + 1))) else (none))) else (some (x1, x0))
def laws_markStringS.f (k : Nat) (l0 : List ByteArray) (a1 : Int) : Option (Int × List ByteArray) := laws_markStringS.l0 k l0 a1 0
theorem laws_markStringS.mono_l : ∀ k, (∀ y0 y1 y2, LeO (laws_markStringS.l0 k y0 y1 y2) (laws_markStringS.l0 (k + 1) y0 y1 y2))
 | 0 => fun _ _ _ r h => by simp [laws_markStringS.l0] at h
 | k + 1 => by
  have ih0 := laws_markStringS.mono_l k
  ·intro y0 y1 y2
   unfold laws_markStringS.l0
   repeat' (first | (with_reducible first | exact ih0 _ _ _ | exact laws_markText.mono _ _ | exact LeO.refl _ | exact LeO.none _ | refine LeO.ite ?_ ?_ | refine LeO.bind ?_ (fun _ => ?_)) | exact ih0 _ _ _ | exact laws_markText.mono _ _ | exact LeO.none _ | refine LeO.ite ?_ ?_ | refine LeO.bind ?_ (fun _ => ?_))
theorem laws_markStringS.mono : ∀ a0 a1 k, LeO (laws_markStringS.f k a0 a1) (laws_markStringS.f (k + 1) a0 a1) := by
 intro a0 a1 k
 have ih0 := laws_markStringS.mono_l k
 unfold laws_markStringS.f
 repeat' (first | (with_reducible first | exact ih0 _ _ _ | exact laws_markText.mono _ _ | exact LeO.refl _ | exact LeO.none _ | refine LeO.ite ?_ ?_ | refine LeO.bind ?_ (fun _ => ?_)) | exact ih0 _ _ _ | exact laws_markText.mono _ _ | exact LeO.none _ | refine LeO.ite ?_ ?_ | refine LeO.bind ?_ (fun _ => ?_))
set_option maxHeartbeats 8000000 in
set_option maxRecDepth 100000 in
theorem laws_markStringS.calls (k : Nat) (P0_ : Nat → Prop) (u9000_ : Value) (l0 : List ByteArray) (a1 : Int) (r1 : Int) (r2 : List ByteArray) (w0 w : World) (hB : Below w0.heap.size w0 w) (ho0 : Kd.R Kd.string 9 w w0.heap.size P0_ u9000_ l0) (h : laws_markStringS.f k l0 a1 = some (r1, r2)) :
  Calls Try.prog 11 #[u9000_, .int .i64 a1] w fun e w' => e = .returned (.int .i64 r1) ∧ Kd.R Kd.string 9 w' w0.heap.size (fun k_ => (P0_ k_ ∨ w.heap.size ≤ k_)) u9000_ r2 ∧ Below w0.heap.size w0 w' ∧ Kept w w' (fun k_ => P0_ k_) := by
 have HO0 := Aside0.mk (show Kd.R Kd.string 9 w w0.heap.size (fun k_ => (P0_ k_ ∨ w.heap.size ≤ k_)) u9000_ l0 from Kd.R_mono ho0 (fun k_ hk => (.inl hk)))
 have HK := Aside0.mk (Kept.refl w (fun k_ => P0_ k_))
 have HW0 := Aside0.mk hB.size
 have HB := Aside0.mk hB; clear hB
 have H : (laws_markStringS.l0 k l0 a1 0) = some (r1, r2) := h
 clear h
 have H' := Aside0.mk H
 clear H
 go_enter Try.func11, Try.ntmps11
 go_wp2
 go_loopg [1, 5] k (fun kq v1 v5 w' => ∃ (x0_1 : List ByteArray) (x1_1 : Int) (x5_1 : Int), v1 = .int .i64 x1_1 ∧ v5 = .int .i64 x5_1 ∧ Aside0 (laws_markStringS.l0 kq x0_1 x1_1 x5_1 = some (r1, r2)) ∧ Aside0 (kq ≤ k) ∧ Aside0 (Kd.R Kd.string 9 w' w0.heap.size (fun k_ => (P0_ k_ ∨ w.heap.size ≤ k_)) u9000_ x0_1) ∧ Aside0 (Kept w w' (fun k_ => P0_ k_)) ∧ Aside0 (Below w0.heap.size w0 w'))
 case atStart => exact ⟨(l0), (a1), (0), er, er, H', ⟨Nat.le_refl _⟩, ⟨rdl HO0⟩, ⟨by repeat (first | (with_reducible first | exact HK.out | apply Kept.alloc | apply Kept.drewN | apply Kept.drew) | exact HK.out)⟩, ⟨belowd HB⟩⟩
 case round =>
  clear H'
  obtain ⟨x0_1, x1_1, x5_1, rfl, rfl, HA, HK1, HO_0, HK, HB⟩ := hrel
  cases gk with
  | zero => exact absurd HA.out (by simp [laws_markStringS.l0])
  | succ k1 =>
   have H := HA.out; clear HA
   simp only [laws_markStringS.l0] at H
   by_cases c3 : x5_1 < (x0_1.length : Int)
   ·rw [if_pos c3] at H
    have c3b0 : decide (x5_1 < (x0_1.length : Int)) = true := decide_eq_true c3
    clear c3; replace H := bS H; obtain ⟨t297, A4, H⟩ := H
    replace H : (if 0 ≤ x5_1 then (laws_markStringS.l0 k1 (x0_1.set (x5_1 : Int).toNat t297) (wrap64 (x1_1 + 1)) (wrap64 (x5_1 + 1))) else (none)) = some (r1, r2) := H
    replace H := ifS H; obtain ⟨c5, H⟩ := H; have c5b0 := decide_eq_true c5; clear c5
    obtain ⟨y298, hy_⟩ : ∃ y_ : List ByteArray, y_ = (x0_1.set (x5_1 : Int).toNat t297) := ⟨_, rfl⟩
    replace H : (laws_markStringS.l0 k1 y298 (wrap64 (x1_1 + 1)) (wrap64 (x5_1 + 1))) = some (r1, r2) := yH
    have Ny298 := ak hy_; clear hy_
    have H' := Aside0.mk H
    clear H
    obtain ⟨Ao7, co7, eo7⟩ := Kd.R_slice HO_0.out
    subst eo7
    go_wp2_with (first | ((with_reducible refine gate_callee (f := 26) rfl ?_); refine goesLa (some 15) rfl Try.func26 #[.int .i64 x1_1] rfl ?_; (with_reducible refine (laws_markText.calls k1 x1_1 t297 _ A4.out).mono ?_); rintro e w8 ⟨rfl, hb⟩; refine ⟨_, rfl, ?_⟩; replace HO_0 := ak (Kd.R_below (rdl HO_0) hb); replace HK := ak (Kept.below (S := (fun k_ => P0_ k_)) (by repeat (first | (with_reducible first | exact HK.out | apply Kept.alloc | apply Kept.drewN | apply Kept.drew) | exact HK.out)) hb); replace HB := ak (below_step (belowd HB) hb); (try clear hb); have p6 : 0 ≤ (x5_1 : Int) := da; have q6 : (x5_1 : Int) < ((x0_1.length : Int) : Int) := da; obtain ⟨go6, co6, eo6, gb6, gl6, cl6, HG6⟩ := Kd.R_form HO_0.out (by omega); (first | cases eo6 | (injection eo6 with ea_ en_ ec_; (first | subst ea_ | (injection ea_ with ea_; subst ea_)); subst ec_; clear en_)); have GB6 := Aside0.mk gb6; have GG6 := Aside0.mk HG6; clear gb6 gl6 HG6; have HMgo6 := Aside0.mk (show (P0_ go6 ∨ w.heap.size ≤ go6) from (HO_0.out.1 _ rfl)); obtain ⟨hx6_0, hf6_0⟩ := Kd.R_celln (⟨#[]⟩ : ByteArray) HO_0.out (x5_1 : Int) p6 q6; replace p6 := eq_true p6; replace q6 := eq_true q6; obtain ⟨hy9_, hz9_⟩ := Kd.R_celln (⟨#[]⟩ : ByteArray) HO_0.out (x5_1 : Int) (da) (da); have HP9 := Kd.R_putg HO_0.out (x5_1 : Int) t297) | ((with_reducible refine gate_store (t := 9) (p := 16) rfl ?_); refine store_event (t := 9) (p := 16) (v := ?vo_w10) (w1 := (w8.setCell ⟨go6, (x5_1 : Int).toNat, none⟩ (.string t297))) ?hg ?ho ?hn ?hr ?_; (case ho => rfl); (case hg => rfl); (case hn => rfl); (case hr => first | (go_simp; done) | (go_simp; rfl)); intro w10 hw; have hg : w8.grownBy w10 (some go6) := (by rw [hw]; exact HP9.2); have hp_ : Kd.R Kd.string 9 w10 w0.heap.size (fun k_ => (P0_ k_ ∨ w.heap.size ≤ k_)) (.slice (some ⟨go6, 0, none⟩) x0_1.length co7) y298 := (by rw [hw, Ny298.out]; exact HP9.1); clear HP9; replace HB := ak ((by rw [hw]; exact below_set (HB.out) GB6.out : Below w0.heap.size w0 w10)); replace HK := ak (Kept.of_grown (S := (fun k_ => P0_ k_)) hg (by repeat (first | (with_reducible first | exact HK.out | apply Kept.alloc | apply Kept.drewN | apply Kept.drew) | exact HK.out)) (fun k_ e_ => (HO_0.out.1 k_ e_))); replace HO_0 := ak (hp_); clear hg hw hp_))
    go_roundg k1
    case measure => have := HK1.out; omega
    case rel => exact ⟨(y298), (wrap64 (x1_1 + 1)), (wrap64 (x5_1 + 1)), er, er, H', ⟨by have := HK1.out; omega⟩, ⟨rdl HO_0⟩, ⟨by repeat (first | (with_reducible first | exact HK.out | apply Kept.alloc | apply Kept.drewN | apply Kept.drew) | exact HK.out)⟩, ⟨belowd HB⟩⟩
   ·rw [if_neg c3] at H
    have c3b0 : decide (x5_1 < (x0_1.length : Int)) = false := decide_eq_false c3
    clear c3
    simp only [Option.some.injEq, Prod.mk.injEq] at H
    obtain ⟨rfl, rfl⟩ := H
    obtain ⟨Ao11, co11, eo11⟩ := Kd.R_slice HO_0.out
    subst eo11; go_wp2
    go_ret
    exact ⟨er2, by (with_reducible repeat (first | apply Kd.R_alloc | apply Kd.R_drewN | apply Kd.R_drew)); exact HO_0.out, belowd HB, by repeat (first | (with_reducible first | exact HK.out | apply Kept.alloc | apply Kept.drewN | apply Kept.drew) | exact HK.out)⟩

/-! ### laws_markStringSS: function 25 -/
def laws_markStringSS.rd (xs : List (List ByteArray)) (i : Int) : List ByteArray := xs.getD i.toNat ([] : List ByteArray)
def laws_markStringSS.l0 : Nat → List (List ByteArray) → Int → Int → Option (Int × (List (List ByteArray)))
  | 0, _, _, _ => none
  | k + 1, x0, x1, x5 => if x5 < (x0.length : Int) then (if 0 ≤ x5 then ((laws_markStringS.f k (laws_markStringSS.rd x0 x5) x1).bind fun bt => (laws_markStringSS.l0 k (x0.set (x5 : Int).toNat bt.2) bt.1 (wrap64 (x5 + 1)))) else (none)) else (some (x1, x0))
def laws_markStringSS.f (k : Nat) (l0 : List (List ByteArray)) (a1 : Int) : Option (Int × (List (List ByteArray))) := laws_markStringSS.l0 k l0 a1 0
theorem laws_markStringSS.mono_l : ∀ k, (∀ y0 y1 y2, LeO (laws_markStringSS.l0 k y0 y1 y2) (laws_markStringSS.l0 (k + 1) y0 y1 y2))
 | 0 => fun _ _ _ r h => by simp [laws_markStringSS.l0] at h
 | k + 1 => by
  have ih0 := laws_markStringSS.mono_l k
  ·intro y0 y1 y2
   unfold laws_markStringSS.l0
   repeat' (first | (with_reducible first | exact ih0 _ _ _ | exact laws_markStringS.mono _ _ _ | exact LeO.refl _ | exact LeO.none _ | refine LeO.ite ?_ ?_ | refine LeO.bind ?_ (fun _ => ?_)) | exact ih0 _ _ _ | exact laws_markStringS.mono _ _ _ | exact LeO.none _)
theorem laws_markStringSS.mono : ∀ a0 a1 k, LeO (laws_markStringSS.f k a0 a1) (laws_markStringSS.f (k + 1) a0 a1) := fun a0 a1 k => laws_markStringSS.mono_l k a0 a1 0
set_option maxHeartbeats 8000000 in
set_option maxRecDepth 100000 in
theorem laws_markStringSS.calls (k : Nat) (P0_ : Nat → Prop) (u9000_ : Value) (l0 : List (List ByteArray)) (a1 : Int) (r1 : Int) (r2 : List (List ByteArray)) (w0 w : World) (hB : Below w0.heap.size w0 w) (ho0 : Kd.S (Kd.slice 9 Kd.string) 27 w w0.heap.size P0_ u9000_ l0) (h : laws_markStringSS.f k l0 a1 = some (r1, r2)) :
  Calls Try.prog 25 #[u9000_, .int .i64 a1] w fun e w' => e = .returned (.int .i64 r1) ∧ Kd.S (Kd.slice 9 Kd.string) 27 w' w0.heap.size P0_ u9000_ r2 ∧ Below w0.heap.size w0 w' ∧ Kept w w' P0_ := by
 have HO0 := Aside0.mk ho0
 have HK := Aside0.mk (Kept.refl w P0_)
 have HW0 := Aside0.mk hB.size
 have HB := Aside0.mk hB; clear hB
 have H : (laws_markStringSS.l0 k l0 a1 0) = some (r1, r2) := h
 clear h
 have H' := Aside0.mk H
 clear H
 go_enter Try.func25, Try.ntmps25
 go_wp2
 go_loopg [1, 5] k (fun kq v1 v5 w' => ∃ (x0_1 : List (List ByteArray)) (x1_1 : Int) (x5_1 : Int), v1 = .int .i64 x1_1 ∧ v5 = .int .i64 x5_1 ∧ Aside0 (laws_markStringSS.l0 kq x0_1 x1_1 x5_1 = some (r1, r2)) ∧ Aside0 (kq ≤ k) ∧ Aside0 (Kd.S (Kd.slice 9 Kd.string) 27 w' w0.heap.size P0_ u9000_ x0_1) ∧ Aside0 (Kept w w' P0_) ∧ Aside0 (Below w0.heap.size w0 w'))
 case atStart => exact ⟨(l0), (a1), (0), er, er, H', ⟨Nat.le_refl _⟩, ⟨sd HO0⟩, ⟨by repeat (first | (with_reducible first | exact HK.out | apply Kept.alloc | apply Kept.drewN | apply Kept.drew) | exact HK.out)⟩, ⟨belowd HB⟩⟩
 case round =>
  clear H'
  obtain ⟨x0_1, x1_1, x5_1, rfl, rfl, HA, HK1, HO_0, HK, HB⟩ := hrel
  cases gk with
  | zero => exact absurd HA.out (by simp [laws_markStringSS.l0])
  | succ k1 =>
   have H := HA.out; clear HA
   simp only [laws_markStringSS.l0] at H
   obtain ⟨Ao6, co6, eo6⟩ := Kd.S_slice HO_0.out
   subst eo6
   by_cases c3 : x5_1 < (x0_1.length : Int)
   ·rw [if_pos c3] at H
    have c3b0 : decide (x5_1 < (x0_1.length : Int)) = true := decide_eq_true c3
    replace H := ifS H; obtain ⟨c4, H⟩ := H; have c4b0 := decide_eq_true c4; replace H := bS H; obtain ⟨⟨t1, t2⟩, A6, H⟩ := H
    replace H : (laws_markStringSS.l0 k1 (x0_1.set (x5_1 : Int).toNat t2) t1 (wrap64 (x5_1 + 1))) = some (r1, r2) := H
    have H' := Aside0.mk H
    clear H
    obtain ⟨go5, co5, eo5, gb5, gl5, cl5, HG5⟩ := Kd.S_form HO_0.out (by omega)
    (first | cases eo5 | (injection eo5 with ea_ en_ ec_; (first | subst ea_ | (injection ea_ with ea_; subst ea_)); subst ec_; clear en_))
    obtain ⟨oki5, v5e, hR5, hx5, hok5, hback5⟩ := S_borrowK HO_0.out (x5_1 : Int) c4 c3
    replace hR5 : Kd.R Kd.string 9 wr w0.heap.size oki5 v5e (laws_markStringSS.rd x0_1 x5_1) := hR5
    obtain ⟨A5, c5, e5, _, _⟩ := Kd.R_reads hR5
    subst e5
    replace hx5 : wr.cell? ⟨go5, (x5_1 : Int).toNat, none⟩ = some (.slice A5 (laws_markStringSS.rd x0_1 x5_1).length c5) := by rw [add_at, Nat.zero_add] at hx5; exact hx5
    have HR5 := Aside0.mk hR5; have HOK5 := Aside0.mk hok5
    have HBK5 := Aside0.mk @hback5
    clear gb5 gl5 HG5 hR5 hok5 hback5; replace c4 := eq_true c4; replace c3 := eq_true c3
    go_wp2_with (first | ((with_reducible refine gate_callee (f := 11) rfl ?_); refine goesLa (some 17) rfl Try.func11 #[.slice A5 (laws_markStringSS.rd x0_1 x5_1).length c5, .int .i64 x1_1] rfl ?_; refine (laws_markStringS.calls k1 oki5 _ (laws_markStringSS.rd x0_1 x5_1) x1_1 t1 t2 w0 _ HB.out HR5.out A6.out).mono ?_; rintro e w9 ⟨rfl, ho9, hb9, hk9⟩; refine ⟨_, rfl, ?_⟩; have n0_ := Aside0.mk (HBK5.out hk9 (Kd.R_reok rfl ho9 (fun k_ e_ => HR5.out.1 k_ e_))); have n1_ := Aside0.mk hb9; have n2_ := Aside0.mk (Kept.then_ HK.out hk9 (fun k_ hk => Or.inl (HOK5.out k_ hk))); clear HO_0 HB HK; have HO_0 := n0_; have HB := n1_; have HK := n2_; clear n0_ n1_ n2_ ho9 hb9 hk9))
    go_roundg k1
    case measure => have := HK1.out; omega
    case rel => exact ⟨(x0_1.set (x5_1 : Int).toNat t2), (t1), (wrap64 (x5_1 + 1)), er, er, H', ⟨by have := HK1.out; omega⟩, ⟨sd HO_0⟩, ⟨by repeat (first | (with_reducible first | exact HK.out | apply Kept.alloc | apply Kept.drewN | apply Kept.drew) | exact HK.out)⟩, ⟨belowd HB⟩⟩
   ·rw [if_neg c3] at H
    have c3b0 : decide (x5_1 < (x0_1.length : Int)) = false := decide_eq_false c3
    clear c3
    simp only [Option.some.injEq, Prod.mk.injEq] at H
    obtain ⟨rfl, rfl⟩ := H; go_wp2
    go_ret
    exact ⟨er2, by (with_reducible repeat (first | apply Kd.S_alloc | apply Kd.S_drewN | apply Kd.S_drew)); exact HO_0.out, belowd HB, by repeat (first | (with_reducible first | exact HK.out | apply Kept.alloc | apply Kept.drewN | apply Kept.drew) | exact HK.out)⟩

/-! ### laws_markNet: function 10 -/
def laws_markNet.f (k : Nat) (l0_0 : List Int) (l0_1 : List (List ByteArray)) (l0_2 : List (List ByteArray)) (l0_3 : List (List ByteArray)) (a0_4 : Int) (a1 : Int) : Option (Int × (List Int) × (List (List ByteArray)) × (List (List ByteArray)) × (List (List ByteArray))) := ((laws_markIntS.f k l0_0 a1).bind fun bt1 => ((laws_markStringSS.f k l0_1 bt1.1).bind fun bt2 => ((laws_markStringSS.f k l0_2 bt2.1).bind fun bt3 => ((laws_markStringSS.f k l0_3 bt3.1).bind fun bt4 => (some (bt4.1, bt1.2, bt2.2, bt3.2, bt4.2))))))
theorem laws_markNet.mono : ∀ a0 a1 a2 a3 a4 a5 k, LeO (laws_markNet.f k a0 a1 a2 a3 a4 a5) (laws_markNet.f (k + 1) a0 a1 a2 a3 a4 a5) := by
 intro a0 a1 a2 a3 a4 a5 k
 unfold laws_markNet.f
 repeat' (first | (with_reducible first | exact laws_markIntS.mono _ _ _ | exact laws_markStringSS.mono _ _ _ | exact LeO.refl _ | exact LeO.none _ | refine LeO.ite ?_ ?_ | refine LeO.bind ?_ (fun _ => ?_)) | exact laws_markIntS.mono _ _ _ | exact laws_markStringSS.mono _ _ _ | exact LeO.none _ | refine LeO.ite ?_ ?_ | refine LeO.bind ?_ (fun _ => ?_))
set_option maxHeartbeats 8000000 in
set_option maxRecDepth 100000 in
theorem laws_markNet.calls (k : Nat) (P0_0_ : Nat → Prop) (u9000_ : Value) (l0_0 : List Int) (P0_1_ : Nat → Prop) (u9001_ : Value) (l0_1 : List (List ByteArray)) (P0_2_ : Nat → Prop) (u9002_ : Value) (l0_2 : List (List ByteArray)) (P0_3_ : Nat → Prop) (u9003_ : Value) (l0_3 : List (List ByteArray)) (a0_4 : Int) (a1 : Int) (r1 : Int) (r2 : List Int) (r3 : List (List ByteArray)) (r4 : List (List ByteArray)) (r5 : List (List ByteArray)) (w0 w : World) (hB : Below w0.heap.size w0 w) (ho0_0 : Kd.R (Kd.int .i64) 3 w w0.heap.size P0_0_ u9000_ l0_0) (ho0_1 : Kd.S (Kd.slice 9 Kd.string) 27 w w0.heap.size P0_1_ u9001_ l0_1) (ho0_2 : Kd.S (Kd.slice 9 Kd.string) 27 w w0.heap.size P0_2_ u9002_ l0_2) (ho0_3 : Kd.S (Kd.slice 9 Kd.string) 27 w w0.heap.size P0_3_ u9003_ l0_3) (hp0_1 : ∀ k_, P0_0_ k_ → ¬ P0_1_ k_) (hp0_2 : ∀ k_, P0_0_ k_ → ¬ P0_2_ k_) (hp0_3 : ∀ k_, P0_0_ k_ → ¬ P0_3_ k_) (hp1_2 : ∀ k_, P0_1_ k_ → ¬ P0_2_ k_) (hp1_3 : ∀ k_, P0_1_ k_ → ¬ P0_3_ k_) (hp2_3 : ∀ k_, P0_2_ k_ → ¬ P0_3_ k_) (h : laws_markNet.f k l0_0 l0_1 l0_2 l0_3 a0_4 a1 = some (r1, r2, r3, r4, r5)) :
  Calls Try.prog 10 #[.agg #[u9000_, u9001_, u9002_, u9003_, .int .i64 a0_4], .int .i64 a1] w fun e w' => e = .returned (.int .i64 r1) ∧ Kd.R (Kd.int .i64) 3 w' w0.heap.size P0_0_ u9000_ r2 ∧ Kd.S (Kd.slice 9 Kd.string) 27 w' w0.heap.size P0_1_ u9001_ r3 ∧ Kd.S (Kd.slice 9 Kd.string) 27 w' w0.heap.size P0_2_ u9002_ r4 ∧ Kd.S (Kd.slice 9 Kd.string) 27 w' w0.heap.size P0_3_ u9003_ r5 ∧ Below w0.heap.size w0 w' ∧ Kept w w' (fun k_ => P0_0_ k_ ∨ P0_1_ k_ ∨ P0_2_ k_ ∨ P0_3_ k_) := by
 have hu30 := Try.underlying30
 obtain ⟨A0, c0, e0⟩ := Kd.R_slice ho0_0
 subst e0
 obtain ⟨A1, c1, e1⟩ := Kd.S_slice ho0_1
 subst e1
 obtain ⟨A2, c2, e2⟩ := Kd.S_slice ho0_2
 subst e2
 obtain ⟨A3, c3, e3⟩ := Kd.S_slice ho0_3
 subst e3
 have F0 := Aside0.mk (Kd.R_mono (Kd.R_bound ho0_0) (fun k hk => (⟨hk.1, hk.2.2.1⟩ : P0_0_ k ∧ k < w.heap.size)))
 have F1 := Aside0.mk (Kd.S_mono (Kd.S_bound ho0_1) (fun k hk => (⟨hk.1, hk.2.2.1⟩ : P0_1_ k ∧ k < w.heap.size)))
 have F2 := Aside0.mk (Kd.S_mono (Kd.S_bound ho0_2) (fun k hk => (⟨hk.1, hk.2.2.1⟩ : P0_2_ k ∧ k < w.heap.size)))
 have F3 := Aside0.mk (Kd.S_mono (Kd.S_bound ho0_3) (fun k hk => (⟨hk.1, hk.2.2.1⟩ : P0_3_ k ∧ k < w.heap.size)))
 have HB := Aside0.mk hB
 have HK := Aside0.mk (Kept.refl w (fun k_ => P0_0_ k_ ∨ P0_1_ k_ ∨ P0_2_ k_ ∨ P0_3_ k_))
 clear ho0_0 ho0_1 ho0_2 ho0_3 hB
 have H : ((laws_markIntS.f k l0_0 a1).bind fun bt1 => ((laws_markStringSS.f k l0_1 bt1.1).bind fun bt2 => ((laws_markStringSS.f k l0_2 bt2.1).bind fun bt3 => ((laws_markStringSS.f k l0_3 bt3.1).bind fun bt4 => (some (bt4.1, bt1.2, bt2.2, bt3.2, bt4.2)))))) = some (r1, r2, r3, r4, r5) := h
 clear h
 obtain ⟨⟨t1, t2⟩, A1000, H⟩ := Option.bind_eq_some_iff.mp H
 obtain ⟨⟨t3, t4⟩, A1010, H⟩ := Option.bind_eq_some_iff.mp H
 obtain ⟨⟨t5, t6⟩, A1020, H⟩ := Option.bind_eq_some_iff.mp H
 obtain ⟨⟨t7, t8⟩, A1030, H⟩ := Option.bind_eq_some_iff.mp H
 have B0_ := Aside0.mk A1000; have B1_ := Aside0.mk A1010; have B2_ := Aside0.mk A1020; have B3_ := Aside0.mk A1030; clear A1000 A1010 A1020 A1030
 simp only [Option.some.injEq, Prod.mk.injEq] at H
 obtain ⟨rfl, rfl, rfl, rfl, rfl⟩ := H
 go_enter Try.func10, Try.ntmps10
 go_wp2_with (first | ((with_reducible refine gate_dst (N := 2) rfl ?_); refine boxev 2 #[.slice A0 l0_0.length c0, .slice A1 l0_1.length c1, .slice A2 l0_2.length c2, .slice A3 l0_3.length c3, .int .i64 a0_4] 30 ?_; intro gb hgb w5 hbox hb; have m0 := Aside0.mk (Kd.R_below F0.out hb); have m1 := Aside0.mk (Kd.S_below F1.out hb); have m2 := Aside0.mk (Kd.S_below F2.out hb); have m3 := Aside0.mk (Kd.S_below F3.out hb); have m4 := Aside0.mk (below_step HB.out hb); have m5 := Aside0.mk (Kept.below HK.out hb); clear F0 F1 F2 F3 HB HK; have F0 := m0; have F1 := m1; have F2 := m2; have F3 := m3; have HB := m4; have HK := m5; clear m0 m1 m2 m3 m4 m5; have GN := Aside0.mk (show w.heap.size ≤ gb by rw [hgb]; exact Nat.le_refl _); have BK := Aside0.mk hbox; clear hb hbox hgb; have hcz0 : w5.cell? ⟨gb, 0, none⟩ = some (.slice A0 l0_0.length c0) := bq BK 0; have hcz1 : w5.cell? ⟨gb, 1, none⟩ = some (.slice A1 l0_1.length c1) := bq BK 1; have hcz2 : w5.cell? ⟨gb, 2, none⟩ = some (.slice A2 l0_2.length c2) := bq BK 2; have hcz3 : w5.cell? ⟨gb, 3, none⟩ = some (.slice A3 l0_3.length c3) := bq BK 3; have hcz4 : w5.cell? ⟨gb, 4, none⟩ = some (.int .i64 a0_4) := bq BK 4; have MK0 := trivial) | ((with_reducible refine gate_callee (f := 24) rfl ?_); clear MK0; refine goesL_ (some 8) rfl rfl Try.func24 (by kernel_rfl) rfl #[.slice A0 l0_0.length c0, .int .i64 a1] rfl (by (try simp only [List.map_toArray, List.map_cons, List.map_nil]); first | done | rfl) ?_; refine (laws_markIntS.calls k _ _ l0_0 a1 t1 t2 w0 _ HB.out F0.out B0_.out).mono ?_; rintro e w7 ⟨rfl, ho, hb, hk⟩; refine ⟨_, rfl, ?_⟩; have m0 := Aside0.mk (Kd.R_reok rfl ho (fun k e => F0.out.1 k e)); have m1 := Aside0.mk (S_kept2 F1.out hk (fun k a _ b => hp0_1 k b.1 a.1)); have m2 := Aside0.mk (S_kept2 F2.out hk (fun k a _ b => hp0_2 k b.1 a.1)); have m3 := Aside0.mk (S_kept2 F3.out hk (fun k a _ b => hp0_3 k b.1 a.1)); have m4 := Aside0.mk (hb); have m5 := Aside0.mk (Kept.then_ HK.out hk (fun k a => Or.inl (Or.inl a.1))); have m6 := Aside0.mk (blk_kept2 BK.out hk (fun a => Nat.not_lt.2 GN.out a.2)); clear F0 F1 F2 F3 HB HK BK; have F0 := m0; have F1 := m1; have F2 := m2; have F3 := m3; have HB := m4; have HK := m5; have BK := m6; clear m0 m1 m2 m3 m4 m5 m6; clear ho hb hk; clear hcz0 hcz1 hcz2 hcz3 hcz4; have hcz0 : w7.cell? ⟨gb, 0, none⟩ = some (.slice A0 l0_0.length c0) := bq BK 0; have hcz1 : w7.cell? ⟨gb, 1, none⟩ = some (.slice A1 l0_1.length c1) := bq BK 1; have hcz2 : w7.cell? ⟨gb, 2, none⟩ = some (.slice A2 l0_2.length c2) := bq BK 2; have hcz3 : w7.cell? ⟨gb, 3, none⟩ = some (.slice A3 l0_3.length c3) := bq BK 3; have hcz4 : w7.cell? ⟨gb, 4, none⟩ = some (.int .i64 a0_4) := bq BK 4; have MK1 := trivial) | ((with_reducible refine gate_callee (f := 25) rfl ?_); clear MK1; refine goesL_ (some 12) rfl rfl Try.func25 (by kernel_rfl) rfl #[.slice A1 l0_1.length c1, .int .i64 t1] rfl (by (try simp only [List.map_toArray, List.map_cons, List.map_nil]); first | done | rfl) ?_; refine (laws_markStringSS.calls k _ _ l0_1 t1 t3 t4 w0 _ HB.out F1.out B1_.out).mono ?_; rintro e w8 ⟨rfl, ho, hb, hk⟩; refine ⟨_, rfl, ?_⟩; have m0 := Aside0.mk (R_kept2 F0.out hk (fun k a _ b => hp0_1 k a.1 b.1)); have m1 := Aside0.mk (ho); have m2 := Aside0.mk (S_kept2 F2.out hk (fun k a _ b => hp1_2 k b.1 a.1)); have m3 := Aside0.mk (S_kept2 F3.out hk (fun k a _ b => hp1_3 k b.1 a.1)); have m4 := Aside0.mk (hb); have m5 := Aside0.mk (Kept.then_ HK.out hk (fun k a => Or.inl (Or.inr (Or.inl a.1)))); have m6 := Aside0.mk (blk_kept2 BK.out hk (fun a => Nat.not_lt.2 GN.out a.2)); clear F0 F1 F2 F3 HB HK BK; have F0 := m0; have F1 := m1; have F2 := m2; have F3 := m3; have HB := m4; have HK := m5; have BK := m6; clear m0 m1 m2 m3 m4 m5 m6; clear ho hb hk; clear hcz0 hcz1 hcz2 hcz3 hcz4; have hcz0 : w8.cell? ⟨gb, 0, none⟩ = some (.slice A0 l0_0.length c0) := bq BK 0; have hcz1 : w8.cell? ⟨gb, 1, none⟩ = some (.slice A1 l0_1.length c1) := bq BK 1; have hcz2 : w8.cell? ⟨gb, 2, none⟩ = some (.slice A2 l0_2.length c2) := bq BK 2; have hcz3 : w8.cell? ⟨gb, 3, none⟩ = some (.slice A3 l0_3.length c3) := bq BK 3; have hcz4 : w8.cell? ⟨gb, 4, none⟩ = some (.int .i64 a0_4) := bq BK 4; have MK2 := trivial) | ((with_reducible refine gate_callee (f := 25) rfl ?_); clear MK2; refine goesL_ (some 16) rfl rfl Try.func25 (by kernel_rfl) rfl #[.slice A2 l0_2.length c2, .int .i64 t3] rfl (by (try simp only [List.map_toArray, List.map_cons, List.map_nil]); first | done | rfl) ?_; refine (laws_markStringSS.calls k _ _ l0_2 t3 t5 t6 w0 _ HB.out F2.out B2_.out).mono ?_; rintro e w9 ⟨rfl, ho, hb, hk⟩; refine ⟨_, rfl, ?_⟩; have m0 := Aside0.mk (R_kept2 F0.out hk (fun k a _ b => hp0_2 k a.1 b.1)); have m1 := Aside0.mk (S_kept2 F1.out hk (fun k a _ b => hp1_2 k a.1 b.1)); have m2 := Aside0.mk (ho); have m3 := Aside0.mk (S_kept2 F3.out hk (fun k a _ b => hp2_3 k b.1 a.1)); have m4 := Aside0.mk (hb); have m5 := Aside0.mk (Kept.then_ HK.out hk (fun k a => Or.inl (Or.inr (Or.inr (Or.inl a.1))))); have m6 := Aside0.mk (blk_kept2 BK.out hk (fun a => Nat.not_lt.2 GN.out a.2)); clear F0 F1 F2 F3 HB HK BK; have F0 := m0; have F1 := m1; have F2 := m2; have F3 := m3; have HB := m4; have HK := m5; have BK := m6; clear m0 m1 m2 m3 m4 m5 m6; clear ho hb hk; clear hcz0 hcz1 hcz2 hcz3 hcz4; have hcz0 : w9.cell? ⟨gb, 0, none⟩ = some (.slice A0 l0_0.length c0) := bq BK 0; have hcz1 : w9.cell? ⟨gb, 1, none⟩ = some (.slice A1 l0_1.length c1) := bq BK 1; have hcz2 : w9.cell? ⟨gb, 2, none⟩ = some (.slice A2 l0_2.length c2) := bq BK 2; have hcz3 : w9.cell? ⟨gb, 3, none⟩ = some (.slice A3 l0_3.length c3) := bq BK 3; have hcz4 : w9.cell? ⟨gb, 4, none⟩ = some (.int .i64 a0_4) := bq BK 4; have MK3 := trivial) | ((with_reducible refine gate_callee (f := 25) rfl ?_); clear MK3; refine goesL_ (some 20) rfl rfl Try.func25 (by kernel_rfl) rfl #[.slice A3 l0_3.length c3, .int .i64 t5] rfl (by (try simp only [List.map_toArray, List.map_cons, List.map_nil]); first | done | rfl) ?_; refine (laws_markStringSS.calls k _ _ l0_3 t5 t7 t8 w0 _ HB.out F3.out B3_.out).mono ?_; rintro e w10 ⟨rfl, ho, hb, hk⟩; refine ⟨_, rfl, ?_⟩; have m0 := Aside0.mk (R_kept2 F0.out hk (fun k a _ b => hp0_3 k a.1 b.1)); have m1 := Aside0.mk (S_kept2 F1.out hk (fun k a _ b => hp1_3 k a.1 b.1)); have m2 := Aside0.mk (S_kept2 F2.out hk (fun k a _ b => hp2_3 k a.1 b.1)); have m3 := Aside0.mk (ho); have m4 := Aside0.mk (hb); have m5 := Aside0.mk (Kept.then_ HK.out hk (fun k a => Or.inl (Or.inr (Or.inr (Or.inr (a.1)))))); have m6 := Aside0.mk (blk_kept2 BK.out hk (fun a => Nat.not_lt.2 GN.out a.2)); clear F0 F1 F2 F3 HB HK BK; have F0 := m0; have F1 := m1; have F2 := m2; have F3 := m3; have HB := m4; have HK := m5; have BK := m6; clear m0 m1 m2 m3 m4 m5 m6; clear ho hb hk; clear hcz0 hcz1 hcz2 hcz3 hcz4; have hcz0 : w10.cell? ⟨gb, 0, none⟩ = some (.slice A0 l0_0.length c0) := bq BK 0; have hcz1 : w10.cell? ⟨gb, 1, none⟩ = some (.slice A1 l0_1.length c1) := bq BK 1; have hcz2 : w10.cell? ⟨gb, 2, none⟩ = some (.slice A2 l0_2.length c2) := bq BK 2; have hcz3 : w10.cell? ⟨gb, 3, none⟩ = some (.slice A3 l0_3.length c3) := bq BK 3; have hcz4 : w10.cell? ⟨gb, 4, none⟩ = some (.int .i64 a0_4) := bq BK 4; have MK4 := trivial))
 go_ret
 exact ⟨er, Kd.R_mono F0.out (fun k a => a.1), Kd.S_mono F1.out (fun k a => a.1), Kd.S_mono F2.out (fun k a => a.1), Kd.S_mono F3.out (fun k a => a.1), HB.out, HK.out⟩

/-! ### laws_heldStringS: function 12 -/
def laws_heldStringS.l0 : Nat → List ByteArray → Int → Int → Option (Int)
  | 0, _, _, _ => none
  | k + 1, x0, x1, x5 => if x5 < (x0.length : Int) then (if 0 ≤ x5 then ((laws_markText.f k x1).bind fun t300 => (if (rdOf ByteArray.empty x0 x5).toList = t300.toList then (laws_heldStringS.l0 k x0 (wrap64 (x1 + 1)) (wrap64 (x5 + 1))) else (some (-1)))) else (none)) else (some x1)
def laws_heldStringS.f (k : Nat) (l0 : List ByteArray) (a1 : Int) : Option (Int) := laws_heldStringS.l0 k l0 a1 0
theorem laws_heldStringS.mono_l : ∀ k, (∀ y0 y1 y2, LeO (laws_heldStringS.l0 k y0 y1 y2) (laws_heldStringS.l0 (k + 1) y0 y1 y2))
 | 0 => fun _ _ _ r h => by simp [laws_heldStringS.l0] at h
 | k + 1 => by
  have ih0 := laws_heldStringS.mono_l k
  ·intro y0 y1 y2
   unfold laws_heldStringS.l0
   repeat' (first | (with_reducible first | exact ih0 _ _ _ | exact laws_markText.mono _ _ | exact LeO.refl _ | exact LeO.none _ | refine LeO.ite ?_ ?_ | refine LeO.bind ?_ (fun _ => ?_)) | exact ih0 _ _ _ | exact laws_markText.mono _ _ | exact LeO.none _ | refine LeO.ite ?_ ?_ | refine LeO.bind ?_ (fun _ => ?_))
theorem laws_heldStringS.mono : ∀ a0 a1 k, LeO (laws_heldStringS.f k a0 a1) (laws_heldStringS.f (k + 1) a0 a1) := by
 intro a0 a1 k
 have ih0 := laws_heldStringS.mono_l k
 unfold laws_heldStringS.f
 repeat' (first | (with_reducible first | exact ih0 _ _ _ | exact laws_markText.mono _ _ | exact LeO.refl _ | exact LeO.none _ | refine LeO.ite ?_ ?_ | refine LeO.bind ?_ (fun _ => ?_)) | exact ih0 _ _ _ | exact laws_markText.mono _ _ | exact LeO.none _ | refine LeO.ite ?_ ?_ | refine LeO.bind ?_ (fun _ => ?_))
set_option maxHeartbeats 8000000 in
set_option maxRecDepth 100000 in
theorem laws_heldStringS.calls (k : Nat) (A0 : Option Addr) (c0 : Nat) (l0 : List ByteArray) (a1 : Int) (r : Int) (w : World) (hr0 : Kd.C Kd.string w A0 l0.length l0) (hc0 : l0.length ≤ c0) (h : laws_heldStringS.f k l0 a1 = some r) :
  Calls Try.prog 12 #[.slice A0 l0.length c0, .int .i64 a1] w fun e w' => e = .returned (.int .i64 r) ∧ Below w.heap.size w w' := by
 have HR0 := Aside0.mk hr0; have HC0 := Aside0.mk hc0; clear hr0 hc0
 have HB := Aside0.mk (Below.refl w.heap.size w)
 have H : (laws_heldStringS.l0 k l0 a1 0) = some r := h
 clear h
 have H' := Aside0.mk H
 clear H
 go_enter Try.func12, Try.ntmps12
 go_wp2
 go_loopg [1, 5] k (fun kq v1 v5 w' => ∃ (x1_1 : Int) (x5_1 : Int), v1 = .int .i64 x1_1 ∧ v5 = .int .i64 x5_1 ∧ Aside0 (laws_heldStringS.l0 kq l0 x1_1 x5_1 = some r) ∧ Aside0 (kq ≤ k) ∧ Aside0 (Below w.heap.size w w'))
 case atStart => exact ⟨(a1), (0), er, er, H', ⟨Nat.le_refl _⟩, ⟨belowd HB⟩⟩
 case round =>
  clear H'
  obtain ⟨x1_1, x5_1, rfl, rfl, HA, HK1, HB⟩ := hrel
  cases gk with
  | zero => exact absurd HA.out (by simp [laws_heldStringS.l0])
  | succ k1 =>
   have H := HA.out; clear HA
   simp only [laws_heldStringS.l0] at H
   by_cases c3 : x5_1 < (l0.length : Int)
   ·rw [if_pos c3] at H
    have c3b0 : decide (x5_1 < (l0.length : Int)) = true := decide_eq_true c3
    clear c3; replace H := ifS H; obtain ⟨c4, H⟩ := H; have c4b0 := decide_eq_true c4; clear c4; replace H := bS H; obtain ⟨t300, A5, H⟩ := H
    replace H : (if (rdOf ByteArray.empty l0 x5_1).toList = t300.toList then (laws_heldStringS.l0 k1 l0 (wrap64 (x1_1 + 1)) (wrap64 (x5_1 + 1))) else (some (-1))) = some r := H
    by_cases c6 : (rdOf ByteArray.empty l0 x5_1).toList = t300.toList
    ·rw [if_pos c6] at H
     have c6b0 : ((rdOf ByteArray.empty l0 x5_1).toList == t300.toList) = true := beq_iff_eq.mpr c6
     have c6b1 : ((rdOf ByteArray.empty l0 x5_1).toList != t300.toList) = false := bne_eq_false_iff_eq.mpr c6
     clear c6
     have H' := Aside0.mk H
     clear H
     try go_wp2
     replace HB := ak (below_drew1 HB.out)
     have p299 : 0 ≤ (x5_1 : Int) := da
     have q299 : x5_1 < (l0.length : Int) := da
     obtain ⟨ad299, e299, hx299_0⟩ := Kd.at_string HR0.out x5_1 p299 q299
     have hw299_0 := hx299_0
     cases e299
     replace hx299_0 := (HB.out.cell (World.block_lt_of_cell? w _ hx299_0)).trans hx299_0
     replace p299 := eq_true p299; replace q299 := eq_true q299
     refine start_ (n := 7) (S := fun w' => w'.cell? (ad299.add (x5_1).toNat) = some (.string (rdOf ByteArray.empty l0 x5_1))) (ds := []) (bl 7 0) (by kernel_rfl) rfl rfl (((HB.out.cell (World.block_lt_of_cell? w _ hw299_0)).trans hw299_0)) (fun hHeld => ?_)
     generalize wr.drew = w7 at HB hx299_0 hHeld ⊢
     refine pure_ (i := 0) (N := some 12) (v := ?_) (a' := ?_) (bl 7 1) rfl rfl (by kernel_rfl) (fun _ _ _ h => h) (Or.inl ⟨by rfl, ?_⟩) ?_ ?_
     rotate_left
     ·intro w'
      go_simp
      with_reducible rfl
     rotate_left
     ·simp only [Act.put, List.setIfInBounds_toArray, List.set_cons_zero, List.set_cons_succ, i64_w, i32_w]
      rfl
     refine pure_ (i := 1) (N := some 13) (v := ?_) (a' := ?_) (bl 7 3) rfl rfl (by kernel_rfl) (fun _ _ _ h => h) (Or.inl ⟨by rfl, ?_⟩) ?_ ?_
     rotate_left
     ·intro w'
      go_simp
      with_reducible rfl
     rotate_left
     ·simp only [Act.put, List.setIfInBounds_toArray, List.set_cons_zero, List.set_cons_succ, i64_w, i32_w]
      rfl
     refine pure_ (i := 2) (N := some 14) (v := ?_) (a' := ?_) (bl 7 7) rfl rfl (by kernel_rfl) (fun _ _ _ h => h) (Or.inl ⟨by rfl, ?_⟩) ?_ ?_
     rotate_left
     ·intro w'
      go_simp
      with_reducible rfl
     rotate_left
     ·simp only [Act.put, List.setIfInBounds_toArray, List.set_cons_zero, List.set_cons_succ, i64_w, i32_w]
      rfl
     refine pure_ (i := 4) (N := some 16) (v := ?_) (a' := ?_) (bl 7 23) rfl rfl (by kernel_rfl) (fun _ _ _ h => h) (Or.inl ⟨by rfl, ?_⟩) ?_ ?_
     rotate_left
     ·intro w'
      go_simp
      with_reducible rfl
     rotate_left
     ·simp only [Act.put, List.setIfInBounds_toArray, List.set_cons_zero, List.set_cons_succ, i64_w, i32_w]
      rfl
     refine take_ (i := 3) (N := some 15) (v := ?_) (a' := ?_) (bl 7 31) rfl rfl (by kernel_rfl) (fun _ _ _ h => h) (Or.inl ⟨by rfl, ?_⟩) hHeld ?_ ?_
     rotate_left
     ·intro w' s0
      go_simp
      with_reducible rfl
     rotate_left
     ·simp only [Act.put, List.setIfInBounds_toArray, List.set_cons_zero, List.set_cons_succ, i64_w, i32_w]
      rfl
     refine one_ (i := 5) (N := some 17) (bl 7 63) rfl rfl (by kernel_rfl) (by decide) (fun K hK => ?_)
     refine goes_ Try.func26 (by kernel_rfl) rfl #[.int .i64 x1_1] (by rfl) rfl rfl (by (try simp only [List.map_toArray, List.map_cons, List.map_nil]); first | done | rfl | (simp only [List.length_drop, List.length_take]; rfl)) ?_
     with_reducible refine (laws_markText.calls k1 x1_1 t300 _ A5.out).mono ?_
     rintro e w8 ⟨rfl, hb⟩
     refine ⟨_, rfl, ?_⟩
     replace HB := ak (below_step (belowd HB) hb)
     (try clear hb); (try clear hb2); (try clear hk); (try clear hi)
     refine hK.out _ _ (((HB.out.cell (World.block_lt_of_cell? w _ hw299_0)).trans hw299_0)) (fun hHeld => ?_)
     clear hK K
     refine norm_ (a' := ?_) ?_ ?_
     rotate_left
     ·show Act.put _ (some 17) _ = _
      simp only [Act.put, List.setIfInBounds_toArray, List.set_cons_zero, List.set_cons_succ, i64_w, i32_w]
      rfl
     refine pure_ (i := 6) (N := some 18) (v := ?_) (a' := ?_) (bl 7 127) rfl rfl (by kernel_rfl) (fun _ _ _ h => h) (Or.inl ⟨by rfl, ?_⟩) ?_ ?_
     rotate_left
     ·intro w'
      go_simp
      with_reducible rfl
     rotate_left
     ·simp only [Act.put, List.setIfInBounds_toArray, List.set_cons_zero, List.set_cons_succ, i64_w, i32_w]
      rfl
     refine done_ (by kernel_rfl) ?_
     try go_wp2
     go_roundg k1
     case measure => have := HK1.out; omega
     case rel => exact ⟨(wrap64 (x1_1 + 1)), (wrap64 (x5_1 + 1)), er, er, H', ⟨by have := HK1.out; omega⟩, ⟨belowd HB⟩⟩
    ·rw [if_neg c6] at H
     have c6b0 : ((rdOf ByteArray.empty l0 x5_1).toList == t300.toList) = false := beq_eq_false_iff_ne.mpr c6
     have c6b1 : ((rdOf ByteArray.empty l0 x5_1).toList != t300.toList) = true := bne_iff_ne.mpr c6
     obtain rfl := Option.some.inj H
     try go_wp2
     replace HB := ak (below_drew1 HB.out)
     have p299 : 0 ≤ (x5_1 : Int) := da
     have q299 : x5_1 < (l0.length : Int) := da
     obtain ⟨ad299, e299, hx299_0⟩ := Kd.at_string HR0.out x5_1 p299 q299
     have hw299_0 := hx299_0
     cases e299
     replace hx299_0 := (HB.out.cell (World.block_lt_of_cell? w _ hx299_0)).trans hx299_0
     replace p299 := eq_true p299; replace q299 := eq_true q299
     refine start_ (n := 7) (S := fun w' => w'.cell? (ad299.add (x5_1).toNat) = some (.string (rdOf ByteArray.empty l0 x5_1))) (ds := []) (bl 7 0) (by kernel_rfl) rfl rfl (((HB.out.cell (World.block_lt_of_cell? w _ hw299_0)).trans hw299_0)) (fun hHeld => ?_)
     generalize wr.drew = w9 at HB hx299_0 hHeld ⊢
     refine pure_ (i := 0) (N := some 12) (v := ?_) (a' := ?_) (bl 7 1) rfl rfl (by kernel_rfl) (fun _ _ _ h => h) (Or.inl ⟨by rfl, ?_⟩) ?_ ?_
     rotate_left
     ·intro w'
      go_simp
      with_reducible rfl
     rotate_left
     ·simp only [Act.put, List.setIfInBounds_toArray, List.set_cons_zero, List.set_cons_succ, i64_w, i32_w]
      rfl
     refine pure_ (i := 1) (N := some 13) (v := ?_) (a' := ?_) (bl 7 3) rfl rfl (by kernel_rfl) (fun _ _ _ h => h) (Or.inl ⟨by rfl, ?_⟩) ?_ ?_
     rotate_left
     ·intro w'
      go_simp
      with_reducible rfl
     rotate_left
     ·simp only [Act.put, List.setIfInBounds_toArray, List.set_cons_zero, List.set_cons_succ, i64_w, i32_w]
      rfl
     refine pure_ (i := 2) (N := some 14) (v := ?_) (a' := ?_) (bl 7 7) rfl rfl (by kernel_rfl) (fun _ _ _ h => h) (Or.inl ⟨by rfl, ?_⟩) ?_ ?_
     rotate_left
     ·intro w'
      go_simp
      with_reducible rfl
     rotate_left
     ·simp only [Act.put, List.setIfInBounds_toArray, List.set_cons_zero, List.set_cons_succ, i64_w, i32_w]
      rfl
     refine pure_ (i := 4) (N := some 16) (v := ?_) (a' := ?_) (bl 7 23) rfl rfl (by kernel_rfl) (fun _ _ _ h => h) (Or.inl ⟨by rfl, ?_⟩) ?_ ?_
     rotate_left
     ·intro w'
      go_simp
      with_reducible rfl
     rotate_left
     ·simp only [Act.put, List.setIfInBounds_toArray, List.set_cons_zero, List.set_cons_succ, i64_w, i32_w]
      rfl
     refine take_ (i := 3) (N := some 15) (v := ?_) (a' := ?_) (bl 7 31) rfl rfl (by kernel_rfl) (fun _ _ _ h => h) (Or.inl ⟨by rfl, ?_⟩) hHeld ?_ ?_
     rotate_left
     ·intro w' s0
      go_simp
      with_reducible rfl
     rotate_left
     ·simp only [Act.put, List.setIfInBounds_toArray, List.set_cons_zero, List.set_cons_succ, i64_w, i32_w]
      rfl
     refine one_ (i := 5) (N := some 17) (bl 7 63) rfl rfl (by kernel_rfl) (by decide) (fun K hK => ?_)
     refine goes_ Try.func26 (by kernel_rfl) rfl #[.int .i64 x1_1] (by rfl) rfl rfl (by (try simp only [List.map_toArray, List.map_cons, List.map_nil]); first | done | rfl | (simp only [List.length_drop, List.length_take]; rfl)) ?_
     with_reducible refine (laws_markText.calls k1 x1_1 t300 _ A5.out).mono ?_
     rintro e w10 ⟨rfl, hb⟩
     refine ⟨_, rfl, ?_⟩
     replace HB := ak (below_step (belowd HB) hb)
     (try clear hb); (try clear hb2); (try clear hk); (try clear hi)
     refine hK.out _ _ (((HB.out.cell (World.block_lt_of_cell? w _ hw299_0)).trans hw299_0)) (fun hHeld => ?_)
     clear hK K
     refine norm_ (a' := ?_) ?_ ?_
     rotate_left
     ·show Act.put _ (some 17) _ = _
      simp only [Act.put, List.setIfInBounds_toArray, List.set_cons_zero, List.set_cons_succ, i64_w, i32_w]
      rfl
     refine pure_ (i := 6) (N := some 18) (v := ?_) (a' := ?_) (bl 7 127) rfl rfl (by kernel_rfl) (fun _ _ _ h => h) (Or.inl ⟨by rfl, ?_⟩) ?_ ?_
     rotate_left
     ·intro w'
      go_simp
      with_reducible rfl
     rotate_left
     ·simp only [Act.put, List.setIfInBounds_toArray, List.set_cons_zero, List.set_cons_succ, i64_w, i32_w]
      rfl
     refine done_ (by kernel_rfl) ?_
     try go_wp2
     go_ret
     exact ⟨er2, belowd HB⟩
   ·rw [if_neg c3] at H
    have c3b0 : decide (x5_1 < (l0.length : Int)) = false := decide_eq_false c3
    clear c3
    obtain rfl := Option.some.inj H
    go_wp2
    go_ret
    exact ⟨er2, belowd HB⟩

/-! ### what a law asks of nets -/
theorem nw_eq {k : Nat} {v0 v1 v2 v3 u0 u1 u2 u3 : Value} {n m : Nt} {r : Bool} {w : World} (hn : NC w v0 v1 v2 v3 n) (hm : NC w u0 u1 u2 u3 m) (h : laws_eqNet.f k n.ks n.ps n.ss n.ib n.sd m.ks m.ps m.ss m.ib m.sd = some r) :
    Calls Try.prog 9 #[.agg #[v0, v1, v2, v3, .int .i64 n.sd], .agg #[u0, u1, u2, u3, .int .i64 m.sd]] w fun e w' => e = .returned (.bool r) ∧ Below w.heap.size w w' := by
  obtain ⟨A0, c0, A1, c1, A2, c2, A3, c3, ⟨rfl, rfl, rfl, rfl⟩, ⟨r0, l0⟩, ⟨r1, l1⟩, ⟨r2, l2⟩, ⟨r3, l3⟩⟩ := hn
  obtain ⟨B0, d0, B1, d1, B2, d2, B3, d3, ⟨rfl, rfl, rfl, rfl⟩, ⟨s0, m0⟩, ⟨s1, m1⟩, ⟨s2, m2⟩, ⟨s3, m3⟩⟩ := hm
  exact laws_eqNet.calls k A0 c0 n.ks A1 c1 n.ps A2 c2 n.ss A3 c3 n.ib n.sd B0 d0 m.ks B1 d1 m.ps B2 d2 m.ss B3 d3 m.ib m.sd r w r0 l0 r1 l1 r2 l2 r3 l3 s0 m0 s1 m1 s2 m2 s3 m3 h
/-- The net that stands first is written. -/
theorem nw_mark {k : Nat} {v0 v1 v2 v3 : Value} {n : Nt} {a r : Int} {m0 : List Int} {m1 m2 m3 : List (List ByteArray)} {L : List SA} {w0 w : World} (hs : Sep w0 w (netA v0 v1 v2 v3 n ++ L)) (h : laws_markNet.f k n.ks n.ps n.ss n.ib n.sd a = some (r, m0, m1, m2, m3)) :
    Calls Try.prog 10 #[.agg #[v0, v1, v2, v3, .int .i64 n.sd], .int .i64 a] w fun e w' => e = .returned (.int .i64 r) ∧ Sep w0 w' (netA v0 v1 v2 v3 ⟨m0, m1, m2, m3, n.sd⟩ ++ L) := by
  obtain ⟨hB, c, hs⟩ := hs
  obtain ⟨h0, h1, h2, h3, hL⟩ := hs
  refine (laws_markNet.calls k _ v0 n.ks _ v1 n.ps _ v2 n.ss _ v3 n.ib n.sd a r m0 m1 m2 m3 w0 w hB h0 h1 h2 h3 (fun k a b => by omega) (fun k a b => by omega) (fun k a b => by omega) (fun k a b => by omega) (fun k a b => by omega) (fun k a b => by omega) h).mono ?_
  rintro e w' ⟨rfl, g0, g1, g2, g3, hb, hk⟩
  refine ⟨rfl, hb, c, g0, g1, g2, g3, ?_⟩
  exact SepAt.to (i := 4) 0 hL (fun k j hj hkj hlt _ => ⟨hkj, hk.2 k hlt (fun e => by omega)⟩)
theorem nw_sz {k : Nat} {v0 v1 v2 v3 : Value} {n : Nt} {a r : Int} {w : World} (hn : NC w v0 v1 v2 v3 n) (h : laws_szNet.f k n.ks n.ps n.ss n.ib n.sd a = some r) :
    Calls Try.prog 4 #[.agg #[v0, v1, v2, v3, .int .i64 n.sd], .int .i64 a] w fun e w' => e = .returned (.int .i64 r) ∧ Below w.heap.size w w' := by
  obtain ⟨A0, c0, A1, c1, A2, c2, A3, c3, ⟨rfl, rfl, rfl, rfl⟩, ⟨x0, y0⟩, ⟨x1, y1⟩, ⟨x2, y2⟩, ⟨x3, y3⟩⟩ := hn
  exact laws_szNet.calls k A0 c0 n.ks A1 c1 n.ps A2 c2 n.ss A3 c3 n.ib n.sd a r w x0 y0 x1 y1 x2 y2 x3 y3 h
theorem nw_sib {k : Nat} {v0 v1 v2 v3 : Value} {n : Nt} {u : Int} {r1 : List ByteArray} {r2 : Bool} {w : World} (hn : NC w v0 v1 v2 v3 n) (h : spec_InboxOf.f k n.ks n.ps n.ss n.ib n.sd u = some (r1, r2)) :
    Calls Try.prog 5 #[.agg #[v0, v1, v2, v3, .int .i64 n.sd], .int .i64 u] w fun e w' => ∃ v0_ : Value, e = .returned (.tuple #[v0_, .bool r2]) ∧ Kd.R Kd.string 9 w' w.heap.size (fun _ => True) v0_ r1 ∧ Below w.heap.size w w' := by
  obtain ⟨A0, c0, A1, c1, A2, c2, A3, c3, ⟨rfl, rfl, rfl, rfl⟩, ⟨x0, y0⟩, ⟨x1, y1⟩, ⟨x2, y2⟩, ⟨x3, y3⟩⟩ := hn
  exact spec_InboxOf.calls k A0 c0 n.ks A1 c1 n.ps A2 c2 n.ss A3 c3 n.ib n.sd u r1 r2 w x0 y0 x1 y1 x2 y2 x3 y3 h
theorem nw_iib {k : Nat} {v0 v1 v2 v3 : Value} {n : Nt} {u : Int} {r1 : List ByteArray} {r2 : Bool} {w : World} (hn : NC w v0 v1 v2 v3 n) (h : impl_InboxOf.f k n.ks n.ps n.ss n.ib n.sd u = some (r1, r2)) :
    Calls Try.prog 7 #[.agg #[v0, v1, v2, v3, .int .i64 n.sd], .int .i64 u] w fun e w' => ∃ v0_ : Value, e = .returned (.tuple #[v0_, .bool r2]) ∧ Kd.R Kd.string 9 w' w.heap.size (fun _ => True) v0_ r1 ∧ Below w.heap.size w w' := by
  obtain ⟨A0, c0, A1, c1, A2, c2, A3, c3, ⟨rfl, rfl, rfl, rfl⟩, ⟨x0, y0⟩, ⟨x1, y1⟩, ⟨x2, y2⟩, ⟨x3, y3⟩⟩ := hn
  exact impl_InboxOf.calls k A0 c0 n.ks A1 c1 n.ps A2 c2 n.ss A3 c3 n.ib n.sd u r1 r2 w x0 y0 x1 y1 x2 y2 x3 y3 h
theorem nw_markT {k : Nat} {v : Value} {n : List ByteArray} {a r : Int} {m : List ByteArray} {L : List SA} {w0 w : World} (hs : Sep w0 w (rA Kd.string 9 v n :: L)) (h : laws_markStringS.f k n a = some (r, m)) :
    Calls Try.prog 11 #[v, .int .i64 a] w fun e w' => e = .returned (.int .i64 r) ∧ Sep w0 w' (rA Kd.string 9 v m :: L) := by
  obtain ⟨hB, c, h0, hL⟩ := hs
  refine (laws_markStringS.calls k _ v n a r m w0 w hB h0 h).mono ?_
  rintro e w' ⟨rfl, g0, hb, hk⟩
  exact ⟨rfl, Sep.wr hL hk hb g0⟩
theorem nw_heldT {k : Nat} {A : Option Addr} {n c : Nat} {m : List ByteArray} {a r : Int} {w : World} (hc : n = m.length ∧ n ≤ c ∧ Kd.string.C w A m.length m) (h : laws_heldStringS.f k m a = some r) :
    Calls Try.prog 12 #[.slice A n c, .int .i64 a] w fun e w' => e = .returned (.int .i64 r) ∧ Below w.heap.size w w' := by
  obtain ⟨rfl, h1, h2⟩ := hc
  exact laws_heldStringS.calls k A c m a r w h2 h1 h
/-! ### laws_FnExactInboxOf: function 3 -/
def laws_FnExactInboxOf.T10 : Bool × List (List Nat × List Nat) := (true, [([], []), ([], []), ([1], [1]), ([0, 2, 2], [0, 2]), ([3], [3])])
def laws_FnExactInboxOf.B10 : List Nat := [0, 0, 2, 7, 15]
theorem laws_FnExactInboxOf.tab10 : rtab .any (opsOf Try.f3 10) = laws_FnExactInboxOf.T10 := by kernel_rfl
theorem laws_FnExactInboxOf.bits10 : waitsOk laws_FnExactInboxOf.T10.2 laws_FnExactInboxOf.B10 = true := by kernel_rfl
def laws_FnExactInboxOf.f (k : Nat) (l0_0 : List Int) (l0_1 l0_2 l0_3 : List (List ByteArray)) (a0_4 a1 : Int) : Option Bool :=
 (laws_szNet.f k l0_0 l0_1 l0_2 l0_3 a0_4 1048576).bind fun z => if z < 0 then some true else
 (laws_toNet.f k l0_0 l0_1 l0_2 l0_3 a0_4).bind fun (x1, x2, x3, x4, x5) => (spec_InboxOf.f k x1 x2 x3 x4 x5 a1).bind fun (w1, w2) => (impl_InboxOf.f k x1 x2 x3 x4 x5 a1).bind fun (g1, g2) =>
 (laws_eqStringS.f k g1 w1).bind fun e1 => if e1 = true ∧ g2 = w2 then
 (laws_eqNet.f k x1 x2 x3 x4 x5 x1 x2 x3 x4 x5).bind fun e2 => if e2 = true then
 (laws_markNet.f k x1 x2 x3 x4 x5 1).bind fun (m, m1, m2, m3, m4) => if 0 ≤ m then
 (laws_markStringS.f k g1 1).bind fun (q, g1') => (laws_heldStringS.f k g1' 1).bind fun q' => if 0 ≤ q' ∧ q' = q then some true else none
 else none else none else none
set_option maxHeartbeats 16000000 in
set_option maxRecDepth 100000 in
theorem laws_FnExactInboxOf.calls (k : Nat) (A0_0 : Option Addr) (c0_0 : Nat) (l0_0 : List Int) (A0_1 : Option Addr) (c0_1 : Nat) (l0_1 : List (List ByteArray)) (A0_2 : Option Addr) (c0_2 : Nat) (l0_2 : List (List ByteArray)) (A0_3 : Option Addr) (c0_3 : Nat) (l0_3 : List (List ByteArray)) (a0_4 : Int) (a1 : Int) (r : Bool) (w : World) (hr0_0 : KI.C w A0_0 l0_0.length l0_0) (hc0_0 : l0_0.length ≤ c0_0) (hr0_1 : KT.C w A0_1 l0_1.length l0_1) (hc0_1 : l0_1.length ≤ c0_1) (hr0_2 : KT.C w A0_2 l0_2.length l0_2) (hc0_2 : l0_2.length ≤ c0_2) (hr0_3 : KT.C w A0_3 l0_3.length l0_3) (hc0_3 : l0_3.length ≤ c0_3) (h : laws_FnExactInboxOf.f k l0_0 l0_1 l0_2 l0_3 a0_4 a1 = some r) (hr_ : r = true) :
  Calls Try.prog 3 #[.agg #[.slice A0_0 l0_0.length c0_0, .slice A0_1 l0_1.length c0_1, .slice A0_2 l0_2.length c0_2, .slice A0_3 l0_3.length c0_3, .int .i64 a0_4], .int .i64 a1] w fun e w' => e = .returned (.bool r) ∧ Below w.heap.size w w' := by
 subst hr_
 have hu25 := Try.underlying25
 have hu30 := Try.underlying30
 have HN := ak (show NC w (.slice A0_0 l0_0.length c0_0) (.slice A0_1 l0_1.length c0_1) (.slice A0_2 l0_2.length c0_2) (.slice A0_3 l0_3.length c0_3) ⟨l0_0, l0_1, l0_2, l0_3, a0_4⟩ from ⟨_, _, _, _, _, _, _, _, ⟨rfl, rfl, rfl, rfl⟩, ⟨hr0_0, hc0_0⟩, ⟨hr0_1, hc0_1⟩, ⟨hr0_2, hc0_2⟩, ⟨hr0_3, hc0_3⟩⟩)
 clear hr0_0 hc0_0 hr0_1 hc0_1 hr0_2 hc0_2 hr0_3 hc0_3
 have HS := Sep.nil w
 unfold laws_FnExactInboxOf.f at h
 replace h := bS h; obtain ⟨z, T0, h⟩ := h
 by_cases c1 : z < 0
 ·have c1b0 : decide (z < 0) = true := decide_eq_true c1
  clear h c1
  go_enter Try.func3, Try.ntmps3
  go_wp2_with (first | ((with_reducible refine gate_dst (N := 2) rfl ?_); refine boxev 2 #[.slice A0_0 l0_0.length c0_0, .slice A0_1 l0_1.length c0_1, .slice A0_2 l0_2.length c0_2, .slice A0_3 l0_3.length c0_3, .int .i64 a0_4] 25 ?_; intro b2 hg_ W_ ho_ hb_; replace HS := HS.box hg_ ho_ hb_; clear hg_ ho_ hb_; obtain ⟨hzb2_0, hzb2_1, hzb2_2, hzb2_3, hzb2_4, hfb2_0, hfb2_1, hfb2_2, hfb2_3, hfb2_4⟩ := box5 (HS.blk 0); clear hzb2_0 hzb2_1 hzb2_2 hzb2_3 hzb2_4 hfb2_0 hfb2_1 hfb2_2 hfb2_3 hfb2_4; obtain ⟨hzb2_0, hzb2_1, hzb2_2, hzb2_3, hzb2_4, hfb2_0, hfb2_1, hfb2_2, hfb2_3, hfb2_4⟩ := box5 (HS.blk 0)) | ((with_reducible refine gate_callee (f := 4) rfl ?_); refine goesLa (some 18) rfl Try.func4 #[.agg #[.slice A0_0 l0_0.length c0_0, .slice A0_1 l0_1.length c0_1, .slice A0_2 l0_2.length c0_2, .slice A0_3 l0_3.length c0_3, .int .i64 a0_4], .int .i64 1048576] rfl ?_; have HC_ := nw_sz (n := ⟨l0_0, l0_1, l0_2, l0_3, a0_4⟩) (HN.out.below HS.base) T0.out; refine HC_.mono ?_; clear HC_; rintro e W_ ⟨rfl, hb_⟩; refine ⟨_, rfl, ?_⟩; replace HS := HS.below hb_; clear hb_; clear hzb2_0 hzb2_1 hzb2_2 hzb2_3 hzb2_4 hfb2_0 hfb2_1 hfb2_2 hfb2_3 hfb2_4; obtain ⟨hzb2_0, hzb2_1, hzb2_2, hzb2_3, hzb2_4, hfb2_0, hfb2_1, hfb2_2, hfb2_3, hfb2_4⟩ := box5 (HS.blk 0)))
  go_ret
  exact ⟨er, HS.base⟩
 ·rw [if_neg c1] at h
  have c1b0 : decide (z < 0) = false := decide_eq_false c1
  clear c1
  replace h := bS h; obtain ⟨⟨x1, x2, x3, x4, x5⟩, T1, h⟩ := h
  replace h := bS h; obtain ⟨⟨w1, w2⟩, T2, h⟩ := h
  replace h := bS h; obtain ⟨⟨g1, g2⟩, T3, h⟩ := h
  replace h := bS h; obtain ⟨e1, T4, h⟩ := h
  replace h := ifS h; obtain ⟨⟨rfl, rfl⟩, h⟩ := h
  replace h := bS h; obtain ⟨e2, T5, h⟩ := h
  replace h := ifS h; obtain ⟨rfl, h⟩ := h
  replace h := bS h; obtain ⟨⟨m, m1, m2, m3, m4⟩, T6, h⟩ := h
  replace h := ifS h; obtain ⟨hm, h⟩ := h
  replace h := bS h; obtain ⟨⟨q, g1'⟩, T7, h⟩ := h
  replace h := bS h; obtain ⟨q', T8, h⟩ := h
  replace h := ifS h; obtain ⟨⟨hq, rfl⟩, h⟩ := h
  clear h
  have hm0 : decide (m < 0) = false := decide_eq_false (by omega)
  have hq0 : decide (q' < 0) = false := decide_eq_false (by omega)
  have hq1 : (q' != q') = false := bne_self_eq_false q'
  have hg6 : (g2 != g2) = false := bne_self_eq_false g2
  clear hm hq
  go_enter Try.func3, Try.ntmps3
  go_upto_region 7 with (first | ((with_reducible refine gate_dst (N := 2) rfl ?_); refine boxev 2 #[.slice A0_0 l0_0.length c0_0, .slice A0_1 l0_1.length c0_1, .slice A0_2 l0_2.length c0_2, .slice A0_3 l0_3.length c0_3, .int .i64 a0_4] 25 ?_; intro b2 hg_ W_ ho_ hb_; replace HS := HS.box hg_ ho_ hb_; clear hg_ ho_ hb_; obtain ⟨hzb2_0, hzb2_1, hzb2_2, hzb2_3, hzb2_4, hfb2_0, hfb2_1, hfb2_2, hfb2_3, hfb2_4⟩ := box5 (HS.blk 0); clear hzb2_0 hzb2_1 hzb2_2 hzb2_3 hzb2_4 hfb2_0 hfb2_1 hfb2_2 hfb2_3 hfb2_4; obtain ⟨hzb2_0, hzb2_1, hzb2_2, hzb2_3, hzb2_4, hfb2_0, hfb2_1, hfb2_2, hfb2_3, hfb2_4⟩ := box5 (HS.blk 0)) | ((with_reducible refine gate_callee (f := 4) rfl ?_); refine goesLa (some 18) rfl Try.func4 #[.agg #[.slice A0_0 l0_0.length c0_0, .slice A0_1 l0_1.length c0_1, .slice A0_2 l0_2.length c0_2, .slice A0_3 l0_3.length c0_3, .int .i64 a0_4], .int .i64 1048576] rfl ?_; have HC_ := nw_sz (n := ⟨l0_0, l0_1, l0_2, l0_3, a0_4⟩) (HN.out.below HS.base) T0.out; refine HC_.mono ?_; clear HC_; rintro e W_ ⟨rfl, hb_⟩; refine ⟨_, rfl, ?_⟩; replace HS := HS.below hb_; clear hb_; clear hzb2_0 hzb2_1 hzb2_2 hzb2_3 hzb2_4 hfb2_0 hfb2_1 hfb2_2 hfb2_3 hfb2_4; obtain ⟨hzb2_0, hzb2_1, hzb2_2, hzb2_3, hzb2_4, hfb2_0, hfb2_1, hfb2_2, hfb2_3, hfb2_4⟩ := box5 (HS.blk 0)) | ((with_reducible refine gate_callee (f := 6) rfl ?_); refine goesLa (some 23) rfl Try.func6 #[.agg #[.slice A0_0 l0_0.length c0_0, .slice A0_1 l0_1.length c0_1, .slice A0_2 l0_2.length c0_2, .slice A0_3 l0_3.length c0_3, .int .i64 a0_4]] rfl ?_; have HC_ := nw_to (n := ⟨l0_0, l0_1, l0_2, l0_3, a0_4⟩) (HN.out.below HS.base) T1.out; refine HC_.mono ?_; clear HC_; rintro e W_ ⟨tv0, tv1, tv2, tv3, rfl, hc_, hb_⟩; refine ⟨_, rfl, ?_⟩; obtain ⟨c_, hc_⟩ := hc_; obtain ⟨⟨Atv0, ctv0, rfl⟩, ⟨Atv1, ctv1, rfl⟩, ⟨Atv2, ctv2, rfl⟩, ⟨Atv3, ctv3, rfl⟩⟩ := (NC.of hc_).slices; replace HS := HS.news hb_ ⟨c_, hc_⟩; clear hc_ hb_; clear hzb2_0 hzb2_1 hzb2_2 hzb2_3 hzb2_4 hfb2_0 hfb2_1 hfb2_2 hfb2_3 hfb2_4; obtain ⟨hzb2_0, hzb2_1, hzb2_2, hzb2_3, hzb2_4, hfb2_0, hfb2_1, hfb2_2, hfb2_3, hfb2_4⟩ := box5 (HS.blk 4)) | ((with_reducible refine gate_callee (f := 5) rfl ?_); refine goesLa (some 25) rfl Try.func5 #[.agg #[.slice Atv0 x1.length ctv0, .slice Atv1 x2.length ctv1, .slice Atv2 x3.length ctv2, .slice Atv3 x4.length ctv3, .int .i64 x5], .int .i64 a1] rfl ?_; have HC_ := nw_sib (n := ⟨x1, x2, x3, x4, x5⟩) (sepNc HS 0) T2.out; refine HC_.mono ?_; clear HC_; rintro e W_ ⟨wv, rfl, ho_, hb_⟩; refine ⟨_, rfl, ?_⟩; replace HS := HS.new (A := rA Kd.string 9 wv w1) hb_ ho_; obtain ⟨Awv, cwv, rfl⟩ := HS.slR 0; clear ho_ hb_; clear hzb2_0 hzb2_1 hzb2_2 hzb2_3 hzb2_4 hfb2_0 hfb2_1 hfb2_2 hfb2_3 hfb2_4; obtain ⟨hzb2_0, hzb2_1, hzb2_2, hzb2_3, hzb2_4, hfb2_0, hfb2_1, hfb2_2, hfb2_3, hfb2_4⟩ := box5 (HS.blk 5)) | ((with_reducible refine gate_callee (f := 6) rfl ?_); refine goesLa (some 29) rfl Try.func6 #[.agg #[.slice A0_0 l0_0.length c0_0, .slice A0_1 l0_1.length c0_1, .slice A0_2 l0_2.length c0_2, .slice A0_3 l0_3.length c0_3, .int .i64 a0_4]] rfl ?_; have HC_ := nw_to (n := ⟨l0_0, l0_1, l0_2, l0_3, a0_4⟩) (HN.out.below HS.base) T1.out; refine HC_.mono ?_; clear HC_; rintro e W_ ⟨xv0, xv1, xv2, xv3, rfl, hc_, hb_⟩; refine ⟨_, rfl, ?_⟩; obtain ⟨c_, hc_⟩ := hc_; obtain ⟨⟨Axv0, cxv0, rfl⟩, ⟨Axv1, cxv1, rfl⟩, ⟨Axv2, cxv2, rfl⟩, ⟨Axv3, cxv3, rfl⟩⟩ := (NC.of hc_).slices; replace HS := HS.news hb_ ⟨c_, hc_⟩; clear hc_ hb_; clear hzb2_0 hzb2_1 hzb2_2 hzb2_3 hzb2_4 hfb2_0 hfb2_1 hfb2_2 hfb2_3 hfb2_4; obtain ⟨hzb2_0, hzb2_1, hzb2_2, hzb2_3, hzb2_4, hfb2_0, hfb2_1, hfb2_2, hfb2_3, hfb2_4⟩ := box5 (HS.blk 9)) | ((with_reducible refine gate_dst (N := 8) rfl ?_); refine boxev 8 #[.slice none 0 0, .slice none 0 0, .slice none 0 0, .slice none 0 0, .int .i64 0] 30 ?_; intro b8 hg_ W_ ho_ hb_; replace HS := HS.box hg_ ho_ hb_; clear hg_ ho_ hb_; clear hzb2_0 hzb2_1 hzb2_2 hzb2_3 hzb2_4 hfb2_0 hfb2_1 hfb2_2 hfb2_3 hfb2_4; obtain ⟨hzb8_0, hzb8_1, hzb8_2, hzb8_3, hzb8_4, hfb8_0, hfb8_1, hfb8_2, hfb8_3, hfb8_4⟩ := box5 (HS.blk 0); clear hzb8_0 hzb8_1 hzb8_2 hzb8_3 hzb8_4 hfb8_0 hfb8_1 hfb8_2 hfb8_3 hfb8_4; obtain ⟨hzb8_0, hzb8_1, hzb8_2, hzb8_3, hzb8_4, hfb8_0, hfb8_1, hfb8_2, hfb8_3, hfb8_4⟩ := box5 (HS.blk 0)))
  clear hzb8_0 hzb8_1 hzb8_2 hzb8_3 hzb8_4 hfb8_0 hfb8_1 hfb8_2 hfb8_3 hfb8_4
  obtain ⟨W5_, e5_, H5_⟩ := (((((HS.putI 0 0 (.slice Axv0 x1.length cxv0) #[.slice Axv0 x1.length cxv0, .slice none 0 0, .slice none 0 0, .slice none 0 0, .int .i64 0]).putI 0 1 (.slice Axv1 x2.length cxv1) #[.slice Axv0 x1.length cxv0, .slice Axv1 x2.length cxv1, .slice none 0 0, .slice none 0 0, .int .i64 0]).putI 0 2 (.slice Axv2 x3.length cxv2) #[.slice Axv0 x1.length cxv0, .slice Axv1 x2.length cxv1, .slice Axv2 x3.length cxv2, .slice none 0 0, .int .i64 0]).putI 0 3 (.slice Axv3 x4.length cxv3) #[.slice Axv0 x1.length cxv0, .slice Axv1 x2.length cxv1, .slice Axv2 x3.length cxv2, .slice Axv3 x4.length cxv3, .int .i64 0]).putI 0 4 (.int .i64 x5) #[.slice Axv0 x1.length cxv0, .slice Axv1 x2.length cxv1, .slice Axv2 x3.length cxv2, .slice Axv3 x4.length cxv3, .int .i64 x5]).gen
  rw [e5_]
  clear HS e5_
  have HS := H5_
  clear H5_
  obtain ⟨hzb8_0, hzb8_1, hzb8_2, hzb8_3, hzb8_4, hfb8_0, hfb8_1, hfb8_2, hfb8_3, hfb8_4⟩ := box5 (HS.blk 0)
  obtain ⟨hzb2_0, hzb2_1, hzb2_2, hzb2_3, hzb2_4, hfb2_0, hfb2_1, hfb2_2, hfb2_3, hfb2_4⟩ := box5 (HS.blk 10)
  go_upto_region 10 with (first | ((with_reducible refine gate_callee (f := 7) rfl ?_); refine goesLa (some 33) rfl Try.func7 #[.agg #[.slice Axv0 x1.length cxv0, .slice Axv1 x2.length cxv1, .slice Axv2 x3.length cxv2, .slice Axv3 x4.length cxv3, .int .i64 x5], .int .i64 a1] rfl ?_; have HC_ := nw_iib (n := ⟨x1, x2, x3, x4, x5⟩) (sepNc HS 1) T3.out; refine HC_.mono ?_; clear HC_; rintro e W_ ⟨gv, rfl, ho_, hb_⟩; refine ⟨_, rfl, ?_⟩; replace HS := HS.new (A := rA Kd.string 9 gv g1) hb_ ho_; obtain ⟨Agv, cgv, rfl⟩ := HS.slR 0; clear ho_ hb_; clear hzb8_0 hzb8_1 hzb8_2 hzb8_3 hzb8_4 hfb8_0 hfb8_1 hfb8_2 hfb8_3 hfb8_4 hzb2_0 hzb2_1 hzb2_2 hzb2_3 hzb2_4 hfb2_0 hfb2_1 hfb2_2 hfb2_3 hfb2_4; obtain ⟨hzb8_0, hzb8_1, hzb8_2, hzb8_3, hzb8_4, hfb8_0, hfb8_1, hfb8_2, hfb8_3, hfb8_4⟩ := box5 (HS.blk 1); obtain ⟨hzb2_0, hzb2_1, hzb2_2, hzb2_3, hzb2_4, hfb2_0, hfb2_1, hfb2_2, hfb2_3, hfb2_4⟩ := box5 (HS.blk 11)) | ((with_reducible refine gate_callee (f := 8) rfl ?_); refine goesLa (some 38) rfl Try.func8 #[.slice Agv g1.length cgv, .slice Awv w1.length cwv] rfl ?_; have HC_ := laws_eqStringS.calls k _ _ g1 _ _ w1 true _ (HS.rdR 0).2.2 (HS.rdR 0).2.1 (HS.rdR 6).2.2 (HS.rdR 6).2.1 T4.out; refine HC_.mono ?_; clear HC_; rintro e W_ ⟨rfl, hd_⟩; refine ⟨_, rfl, ?_⟩; replace HS := HS.below hd_.below; clear hd_; clear hzb8_0 hzb8_1 hzb8_2 hzb8_3 hzb8_4 hfb8_0 hfb8_1 hfb8_2 hfb8_3 hfb8_4 hzb2_0 hzb2_1 hzb2_2 hzb2_3 hzb2_4 hfb2_0 hfb2_1 hfb2_2 hfb2_3 hfb2_4; obtain ⟨hzb8_0, hzb8_1, hzb8_2, hzb8_3, hzb8_4, hfb8_0, hfb8_1, hfb8_2, hfb8_3, hfb8_4⟩ := box5 (HS.blk 1); obtain ⟨hzb2_0, hzb2_1, hzb2_2, hzb2_3, hzb2_4, hfb2_0, hfb2_1, hfb2_2, hfb2_3, hfb2_4⟩ := box5 (HS.blk 11)))
  clear hzb8_0 hzb8_1 hzb8_2 hzb8_3 hzb8_4 hfb8_0 hfb8_1 hfb8_2 hfb8_3 hfb8_4 hzb2_0 hzb2_1 hzb2_2 hzb2_3 hzb2_4 hfb2_0 hfb2_1 hfb2_2 hfb2_3 hfb2_4
  obtain ⟨hzb8_0, hzb8_1, hzb8_2, hzb8_3, hzb8_4, hfb8_0, hfb8_1, hfb8_2, hfb8_3, hfb8_4⟩ := box5 (HS.blk 1)
  obtain ⟨hzb2_0, hzb2_1, hzb2_2, hzb2_3, hzb2_4, hfb2_0, hfb2_1, hfb2_2, hfb2_3, hfb2_4⟩ := box5 (HS.blk 11)
  refine start_ (n := 5) (S := fun w' => w'.cell? ⟨b8, 0, none⟩ = some (.slice Axv0 x1.length cxv0) ∧ w'.cell? ⟨b8, 1, none⟩ = some (.slice Axv1 x2.length cxv1) ∧ w'.cell? ⟨b8, 2, none⟩ = some (.slice Axv2 x3.length cxv2) ∧ w'.cell? ⟨b8, 3, none⟩ = some (.slice Axv3 x4.length cxv3) ∧ w'.cell? ⟨b8, 4, none⟩ = some (.int .i64 x5) ∧ w'.cell? ⟨b2, 0, none⟩ = some (.slice A0_0 l0_0.length c0_0) ∧ w'.cell? ⟨b2, 1, none⟩ = some (.slice A0_1 l0_1.length c0_1) ∧ w'.cell? ⟨b2, 2, none⟩ = some (.slice A0_2 l0_2.length c0_2) ∧ w'.cell? ⟨b2, 3, none⟩ = some (.slice A0_3 l0_3.length c0_3) ∧ w'.cell? ⟨b2, 4, none⟩ = some (.int .i64 a0_4)) (ds := []) (bl 5 0) (by kernel_rfl) rfl rfl ⟨hzb8_0, hzb8_1, hzb8_2, hzb8_3, hzb8_4, hzb2_0, hzb2_1, hzb2_2, hzb2_3, hzb2_4⟩ (fun hHeld => ?_); refine with_tabW laws_FnExactInboxOf.tab10 laws_FnExactInboxOf.bits10 (fun HT_ HW_ => ?_)
  clear hzb8_0 hzb8_1 hzb8_2 hzb8_3 hzb8_4 hfb8_0 hfb8_1 hfb8_2 hfb8_3 hfb8_4 hzb2_0 hzb2_1 hzb2_2 hzb2_3 hzb2_4 hfb2_0 hfb2_1 hfb2_2 hfb2_3 hfb2_4
  replace HS := HS.drew
  generalize World.drew _ = W9_ at HS hHeld ⊢
  refine takeA 0 (some 45) 5 1 HT_ HW_ hHeld ?_ (hy := by rintro w' ⟨s0, s1, s2, s3, s4, s5, s6, s7, s8, s9⟩; go_simp; with_reducible rfl)
  refine takeA 1 (some 46) 5 3 HT_ HW_ hHeld ?_ (hy := by rintro w' ⟨s0, s1, s2, s3, s4, s5, s6, s7, s8, s9⟩; go_simp; with_reducible rfl)
  refine oneA 2 (some 47) 5 7 HT_ (fun K hK => ?_)
  refine goes_ Try.func6 (by kernel_rfl) rfl #[.agg #[.slice A0_0 l0_0.length c0_0, .slice A0_1 l0_1.length c0_1, .slice A0_2 l0_2.length c0_2, .slice A0_3 l0_3.length c0_3, .int .i64 a0_4]] (by rfl) rfl rfl (by (try simp only [List.map_toArray, List.map_cons, List.map_nil]); first | done | rfl) ?_
  have HC_ := nw_to (n := ⟨l0_0, l0_1, l0_2, l0_3, a0_4⟩) (HN.out.below HS.base) T1.out
  refine HC_.mono ?_
  clear HC_ hHeld
  rintro e W_ ⟨yv0, yv1, yv2, yv3, rfl, hc_, hb_⟩
  refine ⟨_, rfl, ?_⟩
  obtain ⟨c_, hc_⟩ := hc_
  obtain ⟨⟨Ayv0, cyv0, rfl⟩, ⟨Ayv1, cyv1, rfl⟩, ⟨Ayv2, cyv2, rfl⟩, ⟨Ayv3, cyv3, rfl⟩⟩ := (NC.of hc_).slices
  replace HS := HS.news hb_ ⟨c_, hc_⟩
  clear hc_ hb_
  obtain ⟨hzb8_0, hzb8_1, hzb8_2, hzb8_3, hzb8_4, hfb8_0, hfb8_1, hfb8_2, hfb8_3, hfb8_4⟩ := box5 (HS.blk 5)
  obtain ⟨hzb2_0, hzb2_1, hzb2_2, hzb2_3, hzb2_4, hfb2_0, hfb2_1, hfb2_2, hfb2_3, hfb2_4⟩ := box5 (HS.blk 15)
  refine hK.out _ _ ⟨hzb8_0, hzb8_1, hzb8_2, hzb8_3, hzb8_4, hzb2_0, hzb2_1, hzb2_2, hzb2_3, hzb2_4⟩ (fun hHeld => ?_)
  clear hK K hzb8_0 hzb8_1 hzb8_2 hzb8_3 hzb8_4 hfb8_0 hfb8_1 hfb8_2 hfb8_3 hfb8_4 hzb2_0 hzb2_1 hzb2_2 hzb2_3 hzb2_4 hfb2_0 hfb2_1 hfb2_2 hfb2_3 hfb2_4
  refine norm_ (a' := ?_) ?_ ?_
  rotate_left
  ·show Act.put _ (some 47) _ = _
   simp only [Act.put, List.setIfInBounds_toArray, List.set_cons_zero, List.set_cons_succ, i64_w, i32_w]
   rfl
  refine oneA 3 (some 48) 5 15 HT_ (fun K hK => ?_)
  refine goes_ Try.func9 (by kernel_rfl) rfl #[.agg #[.slice Axv0 x1.length cxv0, .slice Axv1 x2.length cxv1, .slice Axv2 x3.length cxv2, .slice Axv3 x4.length cxv3, .int .i64 x5], .agg #[.slice Ayv0 x1.length cyv0, .slice Ayv1 x2.length cyv1, .slice Ayv2 x3.length cyv2, .slice Ayv3 x4.length cyv3, .int .i64 x5]] (by rfl) rfl rfl (by (try simp only [List.map_toArray, List.map_cons, List.map_nil]); first | done | rfl) ?_
  have HC_ := nw_eq (n := ⟨x1, x2, x3, x4, x5⟩) (m := ⟨x1, x2, x3, x4, x5⟩) (sepNc HS 6) (sepNc HS 0) T5.out
  refine HC_.mono ?_
  clear HC_ hHeld
  rintro e W_ ⟨rfl, hb_⟩
  refine ⟨_, rfl, ?_⟩
  replace HS := HS.below hb_
  clear hb_
  obtain ⟨hzb8_0, hzb8_1, hzb8_2, hzb8_3, hzb8_4, hfb8_0, hfb8_1, hfb8_2, hfb8_3, hfb8_4⟩ := box5 (HS.blk 5)
  obtain ⟨hzb2_0, hzb2_1, hzb2_2, hzb2_3, hzb2_4, hfb2_0, hfb2_1, hfb2_2, hfb2_3, hfb2_4⟩ := box5 (HS.blk 15)
  refine hK.out _ _ ⟨hzb8_0, hzb8_1, hzb8_2, hzb8_3, hzb8_4, hzb2_0, hzb2_1, hzb2_2, hzb2_3, hzb2_4⟩ (fun hHeld => ?_)
  clear hK K hzb8_0 hzb8_1 hzb8_2 hzb8_3 hzb8_4 hfb8_0 hfb8_1 hfb8_2 hfb8_3 hfb8_4 hzb2_0 hzb2_1 hzb2_2 hzb2_3 hzb2_4 hfb2_0 hfb2_1 hfb2_2 hfb2_3 hfb2_4
  refine norm_ (a' := ?_) ?_ ?_
  rotate_left
  ·show Act.put _ (some 48) _ = _
   simp only [Act.put, List.setIfInBounds_toArray, List.set_cons_zero, List.set_cons_succ, i64_w, i32_w]
   rfl
  refine pureA 4 (some 49) 5 31 HT_ ?_
  refine done_ (done_of HT_.out (by kernel_rfl)) ?_
  clear HT_ HW_ hHeld
  obtain ⟨hzb8_0, hzb8_1, hzb8_2, hzb8_3, hzb8_4, hfb8_0, hfb8_1, hfb8_2, hfb8_3, hfb8_4⟩ := box5 (HS.blk 5)
  obtain ⟨hzb2_0, hzb2_1, hzb2_2, hzb2_3, hzb2_4, hfb2_0, hfb2_1, hfb2_2, hfb2_3, hfb2_4⟩ := box5 (HS.blk 15)
  go_wp2_with (first | ((with_reducible refine gate_callee (f := 10) rfl ?_); refine goesLa (some 52) rfl Try.func10 #[.agg #[.slice Axv0 x1.length cxv0, .slice Axv1 x2.length cxv1, .slice Axv2 x3.length cxv2, .slice Axv3 x4.length cxv3, .int .i64 x5], .int .i64 1] rfl ?_; have HC_ := nw_mark (n := ⟨x1, x2, x3, x4, x5⟩) (HS.sel [6, 7, 8, 9, 0, 1, 2, 3, 4, 5, 10, 11, 12, 13, 14, 15]) T6.out; refine HC_.mono ?_; clear HC_; rintro e W_ ⟨rfl, HS'_⟩; refine ⟨_, rfl, ?_⟩; clear HS; have HS := HS'_; clear HS'_; clear hzb8_0 hzb8_1 hzb8_2 hzb8_3 hzb8_4 hfb8_0 hfb8_1 hfb8_2 hfb8_3 hfb8_4 hzb2_0 hzb2_1 hzb2_2 hzb2_3 hzb2_4 hfb2_0 hfb2_1 hfb2_2 hfb2_3 hfb2_4; obtain ⟨hzb8_0, hzb8_1, hzb8_2, hzb8_3, hzb8_4, hfb8_0, hfb8_1, hfb8_2, hfb8_3, hfb8_4⟩ := box5 (HS.blk 9); obtain ⟨hzb2_0, hzb2_1, hzb2_2, hzb2_3, hzb2_4, hfb2_0, hfb2_1, hfb2_2, hfb2_3, hfb2_4⟩ := box5 (HS.blk 15)) | (go_at_call 8; have HC_ := laws_eqStringS.calls k _ _ g1 _ _ w1 true _ (HS.rdR 8).2.2 (HS.rdR 8).2.1 (HS.rdR 10).2.2 (HS.rdR 10).2.1 T4.out; refine HC_.mono ?_; clear HC_; rintro e W_ ⟨rfl, hd_⟩; replace HS := HS.below hd_.below; clear hd_; clear hzb8_0 hzb8_1 hzb8_2 hzb8_3 hzb8_4 hfb8_0 hfb8_1 hfb8_2 hfb8_3 hfb8_4 hzb2_0 hzb2_1 hzb2_2 hzb2_3 hzb2_4 hfb2_0 hfb2_1 hfb2_2 hfb2_3 hfb2_4; obtain ⟨hzb8_0, hzb8_1, hzb8_2, hzb8_3, hzb8_4, hfb8_0, hfb8_1, hfb8_2, hfb8_3, hfb8_4⟩ := box5 (HS.blk 9); obtain ⟨hzb2_0, hzb2_1, hzb2_2, hzb2_3, hzb2_4, hfb2_0, hfb2_1, hfb2_2, hfb2_3, hfb2_4⟩ := box5 (HS.blk 15)) | ((with_reducible refine gate_callee (f := 11) rfl ?_); refine goesLa (some 68) rfl Try.func11 #[.slice Agv g1.length cgv, .int .i64 1] rfl ?_; have HC_ := nw_markT (HS.sel [8, 0, 1, 2, 3, 4, 5, 6, 7, 9, 10, 11, 12, 13, 14, 15]) T7.out; refine HC_.mono ?_; clear HC_; rintro e W_ ⟨rfl, HS'_⟩; refine ⟨_, rfl, ?_⟩; clear HS; have HS := HS'_; clear HS'_; clear hzb8_0 hzb8_1 hzb8_2 hzb8_3 hzb8_4 hfb8_0 hfb8_1 hfb8_2 hfb8_3 hfb8_4 hzb2_0 hzb2_1 hzb2_2 hzb2_3 hzb2_4 hfb2_0 hfb2_1 hfb2_2 hfb2_3 hfb2_4; obtain ⟨hzb8_0, hzb8_1, hzb8_2, hzb8_3, hzb8_4, hfb8_0, hfb8_1, hfb8_2, hfb8_3, hfb8_4⟩ := box5 (HS.blk 9); obtain ⟨hzb2_0, hzb2_1, hzb2_2, hzb2_3, hzb2_4, hfb2_0, hfb2_1, hfb2_2, hfb2_3, hfb2_4⟩ := box5 (HS.blk 15)) | ((with_reducible refine gate_callee (f := 12) rfl ?_); refine goesLa (some 71) rfl Try.func12 #[.slice Agv g1.length cgv, .int .i64 1] rfl ?_; have HC_ := nw_heldT (HS.rdR 0) T8.out; refine HC_.mono ?_; clear HC_; rintro e W_ ⟨rfl, hb_⟩; refine ⟨_, rfl, ?_⟩; replace HS := HS.below hb_; clear hb_; clear hzb8_0 hzb8_1 hzb8_2 hzb8_3 hzb8_4 hfb8_0 hfb8_1 hfb8_2 hfb8_3 hfb8_4 hzb2_0 hzb2_1 hzb2_2 hzb2_3 hzb2_4 hfb2_0 hfb2_1 hfb2_2 hfb2_3 hfb2_4; obtain ⟨hzb8_0, hzb8_1, hzb8_2, hzb8_3, hzb8_4, hfb8_0, hfb8_1, hfb8_2, hfb8_3, hfb8_4⟩ := box5 (HS.blk 9); obtain ⟨hzb2_0, hzb2_1, hzb2_2, hzb2_3, hzb2_4, hfb2_0, hfb2_1, hfb2_2, hfb2_3, hfb2_4⟩ := box5 (HS.blk 15)) | ((with_reducible refine gate_callee (f := 6) rfl ?_); refine goesLa (some 79) rfl Try.func6 #[.agg #[.slice A0_0 l0_0.length c0_0, .slice A0_1 l0_1.length c0_1, .slice A0_2 l0_2.length c0_2, .slice A0_3 l0_3.length c0_3, .int .i64 a0_4]] rfl ?_; have HC_ := nw_to (n := ⟨l0_0, l0_1, l0_2, l0_3, a0_4⟩) (HN.out.below HS.base) T1.out; refine HC_.mono ?_; clear HC_; rintro e W_ ⟨zv0, zv1, zv2, zv3, rfl, hc_, hb_⟩; refine ⟨_, rfl, ?_⟩; obtain ⟨c_, hc_⟩ := hc_; obtain ⟨⟨Azv0, czv0, rfl⟩, ⟨Azv1, czv1, rfl⟩, ⟨Azv2, czv2, rfl⟩, ⟨Azv3, czv3, rfl⟩⟩ := (NC.of hc_).slices; replace HS := HS.news hb_ ⟨c_, hc_⟩; clear hc_ hb_; clear hzb8_0 hzb8_1 hzb8_2 hzb8_3 hzb8_4 hfb8_0 hfb8_1 hfb8_2 hfb8_3 hfb8_4 hzb2_0 hzb2_1 hzb2_2 hzb2_3 hzb2_4 hfb2_0 hfb2_1 hfb2_2 hfb2_3 hfb2_4; obtain ⟨hzb8_0, hzb8_1, hzb8_2, hzb8_3, hzb8_4, hfb8_0, hfb8_1, hfb8_2, hfb8_3, hfb8_4⟩ := box5 (HS.blk 13); obtain ⟨hzb2_0, hzb2_1, hzb2_2, hzb2_3, hzb2_4, hfb2_0, hfb2_1, hfb2_2, hfb2_3, hfb2_4⟩ := box5 (HS.blk 19)) | ((with_reducible refine gate_callee (f := 7) rfl ?_); refine goesLa (some 81) rfl Try.func7 #[.agg #[.slice Azv0 x1.length czv0, .slice Azv1 x2.length czv1, .slice Azv2 x3.length czv2, .slice Azv3 x4.length czv3, .int .i64 x5], .int .i64 a1] rfl ?_; have HC_ := nw_iib (n := ⟨x1, x2, x3, x4, x5⟩) (sepNc HS 0) T3.out; refine HC_.mono ?_; clear HC_; rintro e W_ ⟨hv, rfl, ho_, hb_⟩; refine ⟨_, rfl, ?_⟩; replace HS := HS.new (A := rA Kd.string 9 hv g1) hb_ ho_; obtain ⟨Ahv, chv, rfl⟩ := HS.slR 0; clear ho_ hb_; clear hzb8_0 hzb8_1 hzb8_2 hzb8_3 hzb8_4 hfb8_0 hfb8_1 hfb8_2 hfb8_3 hfb8_4 hzb2_0 hzb2_1 hzb2_2 hzb2_3 hzb2_4 hfb2_0 hfb2_1 hfb2_2 hfb2_3 hfb2_4; obtain ⟨hzb8_0, hzb8_1, hzb8_2, hzb8_3, hzb8_4, hfb8_0, hfb8_1, hfb8_2, hfb8_3, hfb8_4⟩ := box5 (HS.blk 14); obtain ⟨hzb2_0, hzb2_1, hzb2_2, hzb2_3, hzb2_4, hfb2_0, hfb2_1, hfb2_2, hfb2_3, hfb2_4⟩ := box5 (HS.blk 20)) | ((with_reducible refine gate_callee (f := 8) rfl ?_); refine goesLa (some 86) rfl Try.func8 #[.slice Ahv g1.length chv, .slice Awv w1.length cwv] rfl ?_; have HC_ := laws_eqStringS.calls k _ _ g1 _ _ w1 true _ (HS.rdR 0).2.2 (HS.rdR 0).2.1 (HS.rdR 15).2.2 (HS.rdR 15).2.1 T4.out; refine HC_.mono ?_; clear HC_; rintro e W_ ⟨rfl, hd_⟩; refine ⟨_, rfl, ?_⟩; replace HS := HS.below hd_.below; clear hd_; clear hzb8_0 hzb8_1 hzb8_2 hzb8_3 hzb8_4 hfb8_0 hfb8_1 hfb8_2 hfb8_3 hfb8_4 hzb2_0 hzb2_1 hzb2_2 hzb2_3 hzb2_4 hfb2_0 hfb2_1 hfb2_2 hfb2_3 hfb2_4; obtain ⟨hzb8_0, hzb8_1, hzb8_2, hzb8_3, hzb8_4, hfb8_0, hfb8_1, hfb8_2, hfb8_3, hfb8_4⟩ := box5 (HS.blk 14); obtain ⟨hzb2_0, hzb2_1, hzb2_2, hzb2_3, hzb2_4, hfb2_0, hfb2_1, hfb2_2, hfb2_3, hfb2_4⟩ := box5 (HS.blk 20)) | ((with_reducible refine gate_callee (f := 12) rfl ?_); refine goesLa (some 95) rfl Try.func12 #[.slice Agv g1.length cgv, .int .i64 1] rfl ?_; have HC_ := nw_heldT (HS.rdR 5) T8.out; refine HC_.mono ?_; clear HC_; rintro e W_ ⟨rfl, hb_⟩; refine ⟨_, rfl, ?_⟩; replace HS := HS.below hb_; clear hb_; clear hzb8_0 hzb8_1 hzb8_2 hzb8_3 hzb8_4 hfb8_0 hfb8_1 hfb8_2 hfb8_3 hfb8_4 hzb2_0 hzb2_1 hzb2_2 hzb2_3 hzb2_4 hfb2_0 hfb2_1 hfb2_2 hfb2_3 hfb2_4; obtain ⟨hzb8_0, hzb8_1, hzb8_2, hzb8_3, hzb8_4, hfb8_0, hfb8_1, hfb8_2, hfb8_3, hfb8_4⟩ := box5 (HS.blk 14); obtain ⟨hzb2_0, hzb2_1, hzb2_2, hzb2_3, hzb2_4, hfb2_0, hfb2_1, hfb2_2, hfb2_3, hfb2_4⟩ := box5 (HS.blk 20)))
  go_ret
  exact ⟨er, HS.base⟩

/-- THE ONE PURE STATEMENT of laws_FnExactInboxOf. -/
def laws_FnExactInboxOf.Pure : Prop := ∀ (l0_0 : List Int) (l0_1 : List (List ByteArray)) (l0_2 : List (List ByteArray)) (l0_3 : List (List ByteArray)) (a0_4 : Int) (a1 : Int), W25 (⟨l0_0, l0_1, l0_2, l0_3, a0_4⟩ : S25) → (Lit.int .i64 a1).wf = true → ∃ k, laws_FnExactInboxOf.f k l0_0 l0_1 l0_2 l0_3 a0_4 a1 = some true
theorem laws_FnExactInboxOf.walk (P : laws_FnExactInboxOf.Pure) (A0_0 : Option Addr) (c0_0 : Nat) (l0_0 : List Int) (A0_1 : Option Addr) (c0_1 : Nat) (l0_1 : List (List ByteArray)) (A0_2 : Option Addr) (c0_2 : Nat) (l0_2 : List (List ByteArray)) (A0_3 : Option Addr) (c0_3 : Nat) (l0_3 : List (List ByteArray)) (a0_4 : Int) (a1 : Int) (w : World) (hr0_0 : Kd.C (Kd.int .i64) w A0_0 l0_0.length l0_0) (hc0_0 : l0_0.length ≤ c0_0) (hr0_1 : Kd.C (Kd.slice 9 Kd.string) w A0_1 l0_1.length l0_1) (hc0_1 : l0_1.length ≤ c0_1) (hr0_2 : Kd.C (Kd.slice 9 Kd.string) w A0_2 l0_2.length l0_2) (hc0_2 : l0_2.length ≤ c0_2) (hr0_3 : Kd.C (Kd.slice 9 Kd.string) w A0_3 l0_3.length l0_3) (hc0_3 : l0_3.length ≤ c0_3) (g0 : W25 (⟨l0_0, l0_1, l0_2, l0_3, a0_4⟩ : S25)) (g1 : (Lit.int .i64 a1).wf = true) :
  Calls Try.prog 3 #[.agg #[.slice A0_0 l0_0.length c0_0, .slice A0_1 l0_1.length c0_1, .slice A0_2 l0_2.length c0_2, .slice A0_3 l0_3.length c0_3, .int .i64 a0_4], .int .i64 a1] w fun e w' => e = .returned (.bool true) ∧ Below w.heap.size w w' := by
 obtain ⟨k, h⟩ := P l0_0 l0_1 l0_2 l0_3 a0_4 a1 g0 g1
 refine (laws_FnExactInboxOf.calls k _ _ l0_0 _ _ l0_1 _ _ l0_2 _ _ l0_3 a0_4 a1 true w hr0_0 hc0_0 hr0_1 hc0_1 hr0_2 hc0_2 hr0_3 hc0_3 h rfl).mono ?_
 rintro e w' ⟨rfl, hd⟩
 exact ⟨rfl, hd⟩

end Go.Proofs.Ytmhdjkbfghfajaa.QFnExactInboxOf
