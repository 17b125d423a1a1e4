/- The law FnExactLowestOf, told over numbers alone. No condition. -/
import Derived.Test.YtmapmbgjjnlggaaQFnExactLowestOfx1
import Derived.Test.YtmapmbgjjnlggaaPk
namespace Go.Proofs.Ytmapmbgjjnlggaa.Pure
open Go.RowKit Go.Proofs.Ytmapmbgjjnlggaa.QFnExactLowestOf Go.Proofs.YtmapmbgjjnlggaaW.PrintWords Go.Proofs.YtmapmbgjjnlggaaW.PrintLast Go.Proofs.YtmapmbgjjnlggaaW.PrintMore Go.Proofs.Ytmapmbgjjnlggaa
set_option linter.unusedVariables false
set_option linter.unusedSimpArgs false

open Pk
def inR (lo hi x : Int) : Bool := decide (x ≥ lo) && decide (x ≤ hi)
theorem inR_iff {lo hi x : Int} : inR lo hi x = true ↔ lo ≤ x ∧ x ≤ hi := by simp [inR]
theorem l1In_eq (a lo hi : Int) : spec_l1In.f a lo hi = some (inR lo hi a) := by
  unfold spec_l1In.f inR
  by_cases h : a ≥ lo <;> simp [h]
theorem within_eq (a lo hi : Int) : impl_within.f a lo hi = some (inR lo hi a) := by
  unfold impl_within.f inR
  by_cases h : a ≥ lo <;> simp [h]
def goodW (T B : Int) : Bool := inR 0 100000 T && (inR 0 65535 B && (((Go.bits .and .i64 B 1) == 1) == (T != 0) && (decide (T ≥ 16) || (shr .i64 B T == 0))))
noncomputable def allow (i T B : Nat) : Bool := @decide (∀ j, j < 16 → i ≤ j → B.testBit j = true → j < T) (Classical.propDecidable _)
theorem allow_iff {i T B : Nat} : allow i T B = true ↔ ∀ j, j < 16 → i ≤ j → B.testBit j = true → j < T := by unfold allow; exact @decide_eq_true_iff _ (Classical.propDecidable _)
theorem gw_l (T B : Nat) (hT : T ≤ 100000) (hB : B ≤ 65535) : ∀ (d i : Nat), i + d = 16 → Ev (fun k => spec_GoodWindow.l0 k (i : Int) (T : Int) (B : Int)) (allow i T B) := by
  intro d
  induction d with
  | zero =>
    intro i hi
    refine eround (fun k => by rw [spec_GoodWindow.l0]) (eneg (by omega) (enow ?_))
    symm
    rw [allow_iff]
    intro j h1 h2
    omega
  | succ d ih =>
    intro i hi
    refine eround (fun k => by rw [spec_GoodWindow.l0]) (epos (by omega) ?_)
    rw [u64_wrap_small (i : Int) (by omega) (by omega)]
    refine epos (by omega) ?_
    rw [bit_at B i (by omega) (by omega), w64 (x := (i : Int) + 1) (by omega) (by omega), w64 (x := (T : Int) - i) (by omega) (by omega)]
    cases hb : B.testBit i with
    | true =>
      refine epos rfl ?_
      by_cases h : T ≤ i
      · refine epos (by omega) (enow ?_)
        symm
        rw [Bool.eq_false_iff]
        intro hh
        have := allow_iff.1 hh i (by omega) (Nat.le_refl i) hb
        omega
      · refine eneg (by omega) ?_
        rw [show allow i T B = allow (i + 1) T B from by
          rw [Bool.eq_iff_iff, allow_iff, allow_iff]
          constructor
          · exact fun hh j h2 h1 => hh j h2 (by omega)
          · intro hh j h2 h1 h3
            rcases Nat.eq_or_lt_of_le h1 with rfl | h4
            · omega
            · exact hh j h2 h4 h3]
        exact ih (i + 1) (by omega)
    | false =>
      refine eneg (by decide) ?_
      rw [show allow i T B = allow (i + 1) T B from by
        rw [Bool.eq_iff_iff, allow_iff, allow_iff]
        constructor
        · exact fun hh j h2 h1 => hh j h2 (by omega)
        · intro hh j h2 h1 h3
          rcases Nat.eq_or_lt_of_le h1 with rfl | h4
          · rw [hb] at h3; cases h3
          · exact hh j h2 h4 h3]
      exact ih (i + 1) (by omega)
theorem gw_tail (T B : Nat) (hB : B ≤ 65535) : allow 0 T B = (decide ((T : Int) ≥ 16) || (shr .i64 (B : Int) (T : Int) == 0)) := by
  by_cases h : T ≥ 16
  · rw [show decide ((T : Int) ≥ 16) = true from by simp; omega, Bool.true_or]
    rw [allow_iff]
    intro j h2 _ _
    omega
  · rw [show decide ((T : Int) ≥ 16) = false from by simp; omega, Bool.false_or, shr_nat B T (by omega)]
    rw [Bool.eq_iff_iff, allow_iff]
    simp only [beq_iff_eq]
    constructor
    · intro hh
      have : B >>> T = 0 := by
        apply Nat.eq_of_testBit_eq
        intro i
        rw [Nat.testBit_shiftRight, Nat.zero_testBit]
        cases hb : B.testBit (T + i) with
        | false => rfl
        | true =>
          rcases Nat.lt_or_ge (T + i) 16 with h1 | h1
          · have := hh (T + i) h1 (Nat.zero_le _) hb
            omega
          · have h2 : B < 2 ^ (T + i) := Nat.lt_of_lt_of_le (show B < 2 ^ 16 by omega) (Nat.pow_le_pow_right (by decide) h1)
            rw [Nat.testBit_lt_two_pow h2] at hb
            cases hb
      omega
    · intro hh j h2 _ h3
      have hz : B >>> T = 0 := by omega
      rcases Nat.lt_or_ge j T with h1 | h1
      · exact h1
      · have : (B >>> T).testBit (j - T) = true := by
          rw [Nat.testBit_shiftRight, show T + (j - T) = j by omega]
          exact h3
        rw [hz, Nat.zero_testBit] at this
        cases this
theorem specGW_e (T B : Int) : Ev (fun k => spec_GoodWindow.f k T B) (goodW T B) := by
  unfold spec_GoodWindow.f goodW
  refine enb (l1In_eq _ _ _) ?_
  cases h1 : inR 0 100000 T with
  | false => exact eneg (by simp) (eround (fun k => by rw [spec_GoodWindow.j0]) (epos rfl (enow (by simp))))
  | true =>
    refine epos rfl (enb (l1In_eq _ _ _) ?_)
    cases h2 : inR 0 65535 B with
    | false => exact eneg (by simp) (eround (fun k => by rw [spec_GoodWindow.j0]) (epos rfl (enow (by simp))))
    | true =>
      refine epos rfl (eround (fun k => by rw [spec_GoodWindow.j0]) ?_)
      rw [inR_iff] at h1 h2
      have e : (decide (T > 0)) = (T != 0) := by
        rw [Bool.eq_iff_iff]; simp; omega
      rw [e]
      cases h3 : (((Go.bits .and .i64 B 1) == 1) != (T != 0)) with
      | true => exact epos rfl (enow (by simp only [bne, Bool.not_eq_true'] at h3; simp [bne, h3]))
      | false =>
        refine eneg (by simp) ?_
        have h3' : (((Go.bits .and .i64 B 1) == 1) == (T != 0)) = true := by simp only [bne, Bool.not_eq_false'] at h3 ⊢; exact h3
        rw [h3', Bool.true_and, Bool.true_and, Bool.true_and]
        obtain ⟨t, rfl⟩ := Int.eq_ofNat_of_zero_le h1.1
        obtain ⟨b, rfl⟩ := Int.eq_ofNat_of_zero_le h2.1
        rw [← gw_tail t b (by omega)]
        exact gw_l t b (by omega) (by omega) 16 0 rfl
theorem implGW_eq (T B : Int) : impl_GoodWindow.f T B = some (goodW T B) := by
  unfold impl_GoodWindow.f goodW
  rw [within_eq, Option.bind_some]
  cases h1 : inR 0 100000 T with
  | false => simp
  | true =>
    rw [if_pos rfl, within_eq, Option.bind_some]
    cases h2 : inR 0 65535 B with
    | false => simp
    | true =>
      rw [if_pos rfl]
      rw [inR_iff] at h1
      cases h3 : (((Go.bits .and .i64 B 1) == 1) != (T != 0)) with
      | true => simp only [bne, Bool.not_eq_true'] at h3; simp [bne, h3]
      | false =>
        have h3' : (((Go.bits .and .i64 B 1) == 1) == (T != 0)) = true := by simp only [bne, Bool.not_eq_false'] at h3 ⊢; exact h3
        rw [h3', Bool.true_and, Bool.true_and, Bool.true_and, if_neg (by simp)]
        by_cases h : T ≥ 16
        · simp [h]
        · simp [h, h1.1]
theorem FnExactLowestOf : laws_FnExactLowestOf.Pure := by
  intro a b _
  apply Ev.rounds
  unfold laws_FnExactLowestOf.f laws_toWindow.f spec_LowestOf.f impl_LowestOf.f
  refine enb rfl ?_
  dsimp only
  cases h : goodW a b with
  | false =>
    refine ebind (a := (0, false)) (ebind (specGW_e a b) (eneg (by simp [h]) (enow rfl))) (enb rfl (enb (a := (0, false)) (by rw [implGW_eq, h]; rfl) (epos rfl (eneg (by simp) (enow rfl)))))
  | true =>
    have h1 : 0 ≤ a ∧ a ≤ 100000 := by
      unfold goodW at h
      simp only [Bool.and_eq_true] at h
      exact inR_iff.1 h.1
    have e : mx 1 (wrap64 ((wrap64 (a - 16)) + 1)) = if a < 16 then 1 else a - 15 := by
      rw [w64 (x := a - 16) (by omega) (by omega), w64 (by omega) (by omega)]
      unfold mx
      split <;> split <;> omega
    refine ebind (a := (if a < 16 then 1 else a - 15, true)) (ebind (specGW_e a b) (epos h ?_)) (enb rfl (enb (a := (if a < 16 then 1 else a - 15, true)) (by rw [implGW_eq, h]; simp [e]) (epos rfl (eneg (by simp) (enow rfl)))))
    by_cases h2 : a < 16
    · exact epos h2 (enow (by simp [h2]))
    · exact eneg h2 (enow (by rw [w64 (x := a - 16) (by omega) (by omega), w64 (by omega) (by omega)]; simp [h2]; omega))

end Go.Proofs.Ytmapmbgjjnlggaa.Pure
