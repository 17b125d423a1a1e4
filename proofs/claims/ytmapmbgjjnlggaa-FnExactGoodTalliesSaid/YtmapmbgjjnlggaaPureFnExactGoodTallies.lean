/- The law FnExactGoodTallies, told over lists: the program's GoodTallies and the reference's answer alike. No condition. -/
import Derived.Test.YtmapmbgjjnlggaaQFnExactGoodTalliesx2
import Derived.Test.YtmapmbgjjnlggaaPk
namespace Go.Proofs.Ytmapmbgjjnlggaa.Pure
open Go.RowKit Go.Proofs.Ytmapmbgjjnlggaa.QFnExactGoodTallies Go.Proofs.YtmapmbgjjnlggaaW.PrintWords Go.Proofs.YtmapmbgjjnlggaaW.PrintLast Go.Proofs.YtmapmbgjjnlggaaW.PrintMore Go.Proofs.Ytmapmbgjjnlggaa
set_option linter.unusedVariables false
set_option linter.unusedSimpArgs false

open Pk
/-! laws_szTallyS -/
theorem laws_szTallyS_z (xs : List S32) (m : Int) (h0 : 0 ≤ m) (h1 : m ≤ 1048576) (hw : xs.length ≤ 9223372036854775807) : ∃ r, r ≤ m ∧ laws_szTallyS.f xs m = some r ∧ (0 ≤ r → xs.length ≤ 1048576) := by
  unfold laws_szTallyS.f
  rw [w64 (by omega) (by omega)]
  by_cases h : m - (xs.length : Int) < 0
  · exact ⟨-1, by omega, if_pos h, fun h => by omega⟩
  · exact ⟨_, by omega, if_neg h, fun _ => by omega⟩
/-! laws_toTally -/
theorem laws_toTally_e (a0_0 : Int) (a0_1 : Int) (a0_2 : Int) : laws_toTally.f a0_0 a0_1 a0_2 = some (a0_0, a0_1, a0_2) := rfl
/-! laws_toTallyS -/
theorem laws_toTallyS_l (xs : List S32) (hs : xs.length ≤ 1048576) : ∀ (d i : Nat) (acc : List S35), i + d = xs.length → acc.length = xs.length → acc.take i = (xs.map fun x => (⟨x.f0, x.f1, x.f2⟩ : S35)).take i → Ev (fun k => laws_toTallyS.l0 k xs acc (i : Int)) (xs.map fun x => (⟨x.f0, x.f1, x.f2⟩ : S35)) := by
  have hn := hs
  intro d
  induction d with
  | zero =>
    intro i acc hi hl ht
    refine eround (fun k => by rw [laws_toTallyS.l0]) (eneg (by omega) (enow ?_))
    rwa [List.take_of_length_le (by omega), List.take_of_length_le (by first | omega | (simp; omega))] at ht
  | succ d ih =>
    intro i acc hi hl ht
    have hlt : i < xs.length := by omega
    refine eround (fun k => by rw [laws_toTallyS.l0]) (epos (by omega) (epos (by omega) ?_))
    refine enb rfl (epos (by omega) ?_)
    rw [w64 (by omega) (by omega)]
    refine ih (i + 1) _ (by omega) (by simpa using hl) ?_
    exact take_set_succ _ _ rfl (by first | exact hlt | (simp; omega)) (by first | exact hl | simpa using hl) ht (by first | exact (getD_get xs i _ hlt).symm | (simp only [List.getElem_map]; rw [← getD_get xs i _ hlt]; rfl))
theorem laws_toTallyS_e (xs : List S32) (hs : xs.length ≤ 1048576) : Ev (fun k => laws_toTallyS.f k xs) (xs.map fun x => (⟨x.f0, x.f1, x.f2⟩ : S35)) := by
  have hn := hs
  unfold laws_toTallyS.f
  exact epos (by omega) (epos (by omega) (laws_toTallyS_l xs hs xs.length 0 _ (by omega) (by simp) (by simp)))
/-! laws_eqTally -/
theorem laws_eqTally_r (a0_0 : Int) (a0_1 : Int) (a0_2 : Int) : laws_eqTally.f a0_0 a0_1 a0_2 a0_0 a0_1 a0_2 = some true := by
  unfold laws_eqTally.f
  simp
/-! laws_eqTallyS -/
theorem laws_eqTallyS_lr (xs : List S35) (hs : xs.length ≤ 1048576) : ∀ (d i : Nat), i + d = xs.length → Ev (fun k => laws_eqTallyS.l0 k xs xs (i : Int)) true := by
  have hn := hs
  intro d
  induction d with
  | zero =>
    intro i hi
    exact eround (fun k => by rw [laws_eqTallyS.l0]) (eneg (by omega) (enow rfl))
  | succ d ih =>
    intro i hi
    have hlt : i < xs.length := by omega
    refine eround (fun k => by rw [laws_eqTallyS.l0]) (epos (by omega) (epos (by omega) (epos (by omega) ?_)))
    refine enb (laws_eqTally_r _ _ _) (epos rfl ?_)
    rw [w64 (by omega) (by omega)]
    exact ih (i + 1) (by omega)
theorem laws_eqTallyS_r (xs : List S35) (hs : xs.length ≤ 1048576) : Ev (fun k => laws_eqTallyS.f k xs xs) true := by
  unfold laws_eqTallyS.f
  exact epos rfl (laws_eqTallyS_lr xs hs xs.length 0 (by omega))
def inR (lo hi x : Int) : Bool := decide (x ≥ lo) && decide (x ≤ hi)
theorem inR_iff {lo hi x : Int} : inR lo hi x = true ↔ lo ≤ x ∧ x ≤ hi := by simp [inR]
theorem l1In_eq (a lo hi : Int) : spec_l1In.f a lo hi = some (inR lo hi a) := by
  unfold spec_l1In.f inR
  by_cases h : a ≥ lo <;> simp [h]
theorem within_eq (a lo hi : Int) : impl_within.f a lo hi = some (inR lo hi a) := by
  unfold impl_within.f inR
  by_cases h : a ≥ lo <;> simp [h]
/-- all elements, each with its place, from place i on -/
def allI {α : Type} (p : Nat → α → Bool) : Nat → List α → Bool
  | _, [] => true
  | i, x :: xs => p i x && allI p (i + 1) xs
theorem allI_congr {α : Type} {p q : Nat → α → Bool} : ∀ (xs : List α) (i : Nat), (∀ j x, i ≤ j → j < i + xs.length → p j x = q j x) → allI p i xs = allI q i xs
  | [], _, _ => rfl
  | x :: xs, i, h => by
    simp only [allI]
    rw [h i x (Nat.le_refl _) (by simp), allI_congr xs (i + 1) (fun j y h1 h2 => h j y (by omega) (by simp only [List.length_cons]; omega))]
def tallyAt (i : Nat) (x : S35) : Bool := decide (x.f0 = (i : Int)) && (inR 0 100 x.f1 && inR 0 100 x.f2)
def tallyAt' (i : Nat) (x : S35) : Bool := (inR 0 11 x.f0 && (inR 0 100 x.f1 && inR 0 100 x.f2)) && decide (x.f0 = (i : Int))
def goodT (xs : List S35) : Bool := allI tallyAt 0 xs && inR 1 12 (xs.length : Int)
theorem l14Tally_eq (x : S35) (i : Nat) : spec_l14Tally.f x.f0 x.f1 x.f2 (i : Int) = some (tallyAt i x) := by
  unfold spec_l14Tally.f tallyAt
  rw [l1In_eq, l1In_eq]
  by_cases h : x.f0 = (i : Int) <;> cases h1 : inR 0 100 x.f1 <;> simp [h]
theorem isTally_eq (x : S35) : impl_isTally.f x.f0 x.f1 x.f2 = some (inR 0 11 x.f0 && (inR 0 100 x.f1 && inR 0 100 x.f2)) := by
  unfold impl_isTally.f
  rw [within_eq, within_eq, within_eq]
  cases h : inR 0 11 x.f0 <;> cases h1 : inR 0 100 x.f1 <;> simp
theorem specGT_l (xs : List S35) (hn : xs.length ≤ 1048576) : ∀ (d i : Nat), i + d = xs.length → Ev (fun k => spec_GoodTallies.l0 k xs xs (xs.length : Int) (i : Int)) (allI tallyAt i (xs.drop i) && inR 1 12 (xs.length : Int)) := by
  intro d
  induction d with
  | zero =>
    intro i hi
    refine eround (fun k => by rw [spec_GoodTallies.l0]) (eneg (by omega) (enb (l1In_eq _ _ _) (enow ?_)))
    rw [List.drop_eq_nil_of_le (by omega)]; rfl
  | succ d ih =>
    intro i hi
    have hlt : i < xs.length := by omega
    refine eround (fun k => by rw [spec_GoodTallies.l0]) (epos (by omega) (epos (by omega) (epos (by omega) ?_)))
    rw [show rd_T35 xs (i : Int) = xs[i] from getD_get xs i _ hlt, List.drop_eq_getElem_cons hlt]
    refine enb (l14Tally_eq _ _) ?_
    simp only [allI]
    cases h : tallyAt i xs[i] with
    | true =>
      refine epos rfl ?_
      rw [w64 (by omega) (by omega), Bool.true_and]
      exact ih (i + 1) (by omega)
    | false => exact eneg (by simp) (enow (by simp))
theorem implGT_l (xs : List S35) (hn : xs.length ≤ 1048576) : ∀ (d i : Nat), i + d = xs.length → Ev (fun k => impl_GoodTallies.l0 k xs xs (xs.length : Int) (i : Int)) (allI tallyAt' i (xs.drop i) && inR 1 12 (xs.length : Int)) := by
  intro d
  induction d with
  | zero =>
    intro i hi
    refine eround (fun k => by rw [impl_GoodTallies.l0]) (eneg (by omega) (enb (within_eq _ _ _) (enow ?_)))
    rw [List.drop_eq_nil_of_le (by omega)]; rfl
  | succ d ih =>
    intro i hi
    have hlt : i < xs.length := by omega
    refine eround (fun k => by rw [impl_GoodTallies.l0]) (epos (by omega) (epos (by omega) (epos (by omega) ?_)))
    rw [show rd_T35 xs (i : Int) = xs[i] from getD_get xs i _ hlt, List.drop_eq_getElem_cons hlt]
    refine enb (isTally_eq _) ?_
    simp only [allI, tallyAt']
    cases h : inR 0 11 xs[i].f0 && (inR 0 100 xs[i].f1 && inR 0 100 xs[i].f2) with
    | true =>
      refine epos rfl ?_
      by_cases h2 : xs[i].f0 = (i : Int)
      · refine epos h2 ?_
        rw [w64 (by omega) (by omega)]
        simp only [h2, decide_true, Bool.true_and]
        exact ih (i + 1) (by omega)
      · exact eneg h2 (enow (by simp [h2]))
    | false => exact eneg (by simp) (enow (by simp))
theorem specGT_e (xs : List S35) (hn : xs.length ≤ 1048576) : Ev (fun k => spec_GoodTallies.f k xs) (goodT xs) := specGT_l xs hn xs.length 0 (by omega)
theorem implGT_e (xs : List S35) (hn : xs.length ≤ 1048576) : Ev (fun k => impl_GoodTallies.f k xs) (goodT xs) := by
  have h := implGT_l xs hn xs.length 0 (by omega)
  have e : goodT xs = (allI tallyAt' 0 (xs.drop 0) && inR 1 12 (xs.length : Int)) := by
    unfold goodT
    cases hl : inR 1 12 (xs.length : Int) with
    | false => simp
    | true =>
      rw [inR_iff] at hl
      rw [Bool.and_true, Bool.and_true, List.drop_zero]
      refine allI_congr xs 0 (fun j x h1 h2 => ?_)
      unfold tallyAt tallyAt'
      by_cases h3 : x.f0 = (j : Int)
      · have : inR 0 11 x.f0 = true := by rw [inR_iff]; omega
        simp [h3] at this ⊢
        simp [this]
      · simp [h3]
  rw [e]
  exact h
theorem szTally_e (xs : List S32) (left : Int) (h0 : 0 ≤ left) (h1 : left ≤ 1048576) (hm : xs.length ≤ 9223372036854775807) : laws_szTallyS.f xs left = some (if left < xs.length then -1 else left - xs.length) := by
  unfold laws_szTallyS.f
  rw [w64 (by omega) (by omega)]
  by_cases h : left < (xs.length : Int)
  · rw [if_pos (by omega), if_pos h]
  · rw [if_neg (by omega), if_neg h]
theorem FnExactGoodTallies : laws_FnExactGoodTallies.Pure := by
  intro l h
  apply Ev.rounds
  unfold laws_FnExactGoodTallies.f
  refine enb (szTally_e l 1048576 (by omega) (by omega) h.1) ?_
  by_cases hl : (1048576 : Int) < l.length
  · exact epos (by simp [hl]) (enow rfl)
  · refine eneg (by simp [hl]; omega) ?_
    have hs : l.length ≤ 1048576 := by omega
    have hs' : (l.map fun x => (⟨x.f0, x.f1, x.f2⟩ : S35)).length ≤ 1048576 := by simpa using hs
    refine ebind (laws_toTallyS_e l hs) (ebind (specGT_e _ hs') (ebind (laws_toTallyS_e l hs) (ebind (implGT_e _ hs') (eneg (by simp) (ebind (laws_toTallyS_e l hs) (ebind (laws_eqTallyS_r _ hs') (epos rfl (enow rfl))))))))

end Go.Proofs.Ytmapmbgjjnlggaa.Pure
