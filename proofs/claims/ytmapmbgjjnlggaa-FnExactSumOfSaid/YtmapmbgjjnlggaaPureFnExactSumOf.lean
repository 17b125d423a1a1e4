/- The law FnExactSumOf, told over lists of numbers: the program's SumOf and the reference's answer alike. No condition. -/
import Derived.Test.YtmapmbgjjnlggaaQFnExactSumOfx2
import Derived.Test.YtmapmbgjjnlggaaPk
namespace Go.Proofs.Ytmapmbgjjnlggaa.Pure
open Go.RowKit Go.Proofs.Ytmapmbgjjnlggaa.QFnExactSumOf Go.Proofs.YtmapmbgjjnlggaaW.PrintWords Go.Proofs.YtmapmbgjjnlggaaW.PrintLast Go.Proofs.YtmapmbgjjnlggaaW.PrintMore Go.Proofs.Ytmapmbgjjnlggaa
set_option linter.unusedVariables false
set_option linter.unusedSimpArgs false

open Pk
def inR (lo hi x : Int) : Bool := decide (x ≥ lo) && decide (x ≤ hi)
theorem inR_iff {lo hi x : Int} : inR lo hi x = true ↔ lo ≤ x ∧ x ≤ hi := by simp [inR]
theorem l1In_eq (a lo hi : Int) : spec_l1In.f a lo hi = some (inR lo hi a) := by
  unfold spec_l1In.f inR
  by_cases h : a ≥ lo <;> simp [h]
theorem l1All_l (xs : List Int) (lo up : Int) (hn : xs.length ≤ 9223372036854775807) : ∀ (d i : Nat), i + d = xs.length → Ev (fun k => spec_l1All.l0 k lo up xs (xs.length : Int) (i : Int)) ((xs.drop i).all (inR lo up)) := by
  intro d
  induction d with
  | zero =>
    intro i hi
    refine eround (fun k => by rw [spec_l1All.l0]) ?_
    refine eneg (by omega) (enow ?_)
    rw [List.drop_eq_nil_of_le (by omega)]; rfl
  | succ d ih =>
    intro i hi
    have hlt : i < xs.length := by omega
    refine eround (fun k => by rw [spec_l1All.l0]) ?_
    refine epos (by omega) (epos (by omega) (epos (by omega) ?_))
    rw [rd_get xs i hlt, List.drop_eq_getElem_cons hlt, List.all_cons]
    refine enb (l1In_eq _ _ _) ?_
    cases h : inR lo up xs[i] with
    | true =>
      refine epos rfl ?_
      rw [w64 (by omega) (by omega)]
      simpa using ih (i + 1) (by omega)
    | false => exact eneg (by simp) (enow (by simp))
theorem l1All_e (xs : List Int) (lo up : Int) (hn : xs.length ≤ 9223372036854775807) : Ev (fun k => spec_l1All.f k xs lo up) (xs.all (inR lo up)) :=
  l1All_l xs lo up hn xs.length 0 (by omega)
theorem within_eq (a lo hi : Int) : impl_within.f a lo hi = some (inR lo hi a) := by
  unfold impl_within.f inR
  by_cases h : a ≥ lo <;> simp [h]
theorem allWithin_l (xs : List Int) (lo up : Int) (hn : xs.length ≤ 9223372036854775807) : ∀ (d i : Nat), i + d = xs.length → Ev (fun k => impl_allWithin.l0 k lo up xs (xs.length : Int) (i : Int)) ((xs.drop i).all (inR lo up)) := by
  intro d
  induction d with
  | zero =>
    intro i hi
    refine eround (fun k => by rw [impl_allWithin.l0]) ?_
    refine eneg (by omega) (enow ?_)
    rw [List.drop_eq_nil_of_le (by omega)]; rfl
  | succ d ih =>
    intro i hi
    have hlt : i < xs.length := by omega
    refine eround (fun k => by rw [impl_allWithin.l0]) ?_
    refine epos (by omega) (epos (by omega) (epos (by omega) ?_))
    rw [rd_get xs i hlt, List.drop_eq_getElem_cons hlt, List.all_cons]
    refine enb (within_eq _ _ _) ?_
    cases h : inR lo up xs[i] with
    | true =>
      refine epos rfl ?_
      rw [w64 (by omega) (by omega)]
      simpa using ih (i + 1) (by omega)
    | false => exact eneg (by simp) (enow (by simp))
theorem allWithin_e (xs : List Int) (lo up : Int) (hn : xs.length ≤ 9223372036854775807) : Ev (fun k => impl_allWithin.f k xs lo up) (xs.all (inR lo up)) :=
  allWithin_l xs lo up hn xs.length 0 (by omega)
theorem toIntS_l (xs : List Int) (hn : xs.length ≤ 9223372036854775807) : ∀ (d i : Nat) (acc : List Int), i + d = xs.length → acc.length = xs.length → acc.take i = xs.take i → Ev (fun k => laws_toIntS.l0 k xs acc (i : Int)) xs := by
  intro d
  induction d with
  | zero =>
    intro i acc hi hl ht
    refine eround (fun k => by rw [laws_toIntS.l0]) ?_
    refine eneg (by omega) (enow ?_)
    rwa [List.take_of_length_le (by omega), List.take_of_length_le (by omega)] at ht
  | succ d ih =>
    intro i acc hi hl ht
    have hlt : i < xs.length := by omega
    refine eround (fun k => by rw [laws_toIntS.l0]) ?_
    refine epos (by omega) (epos (by omega) (epos (by omega) ?_))
    rw [w64 (by omega) (by omega)]
    refine ih (i + 1) _ (by omega) (by simpa using hl) ?_
    exact take_set_succ _ _ (rd_get xs i hlt) hlt hl ht rfl
theorem toIntS_e (xs : List Int) (hn : xs.length ≤ 35184372088832) : Ev (fun k => laws_toIntS.f k xs) xs := by
  unfold laws_toIntS.f
  refine epos (by omega) (epos (by omega) ?_)
  exact toIntS_l xs (by omega) xs.length 0 _ (by omega) (by simp) (by simp)
theorem eqIntS_l (xs ys : List Int) (hl : xs.length = ys.length) (hn : xs.length ≤ 9223372036854775807) : ∀ (d i : Nat), i + d = xs.length → Ev (fun k => laws_eqIntS.l0 k xs ys (i : Int)) (decide (xs.drop i = ys.drop i)) := by
  intro d
  induction d with
  | zero =>
    intro i hi
    refine eround (fun k => by rw [laws_eqIntS.l0]) ?_
    refine eneg (by omega) (enow ?_)
    rw [List.drop_eq_nil_of_le (by omega), List.drop_eq_nil_of_le (by omega)]; simp
  | succ d ih =>
    intro i hi
    have hlt : i < xs.length := by omega
    have hlt' : i < ys.length := by omega
    refine eround (fun k => by rw [laws_eqIntS.l0]) ?_
    refine epos (by omega) (epos (by omega) (epos (by omega) ?_))
    rw [rd_get xs i hlt, rd_get ys i hlt', List.drop_eq_getElem_cons hlt, List.drop_eq_getElem_cons hlt']
    by_cases h : xs[i] = ys[i]
    · refine epos h ?_
      rw [w64 (by omega) (by omega)]
      simp only [h, List.cons.injEq, true_and]
      exact ih (i + 1) (by omega)
    · exact eneg h (enow (by simp only [List.cons.injEq, h, false_and, decide_false]))
theorem eqIntS_e (xs ys : List Int) (hn : xs.length ≤ 9223372036854775807) : Ev (fun k => laws_eqIntS.f k xs ys) (decide (xs = ys)) := by
  unfold laws_eqIntS.f
  by_cases h : xs.length = ys.length
  · exact epos (by omega) (eqIntS_l xs ys h hn xs.length 0 (by omega))
  · refine eneg (by omega) (enow ?_)
    have : xs ≠ ys := fun e => h (by rw [e])
    simp [this]
def sumX (xs : List Int) (s : Int) : Int := xs.foldl (fun a b => Go.bits .xor .i64 a b) s
theorem specSum_l (xs : List Int) (hn : xs.length ≤ 9223372036854775807) : ∀ (d i : Nat) (s : Int), i + d = xs.length → Ev (fun k => spec_SumOf.l0 k s xs (xs.length : Int) (i : Int)) (sumX (xs.drop i) s, true) := by
  intro d
  induction d with
  | zero =>
    intro i s hi
    refine eround (fun k => by rw [spec_SumOf.l0]) ?_
    refine eneg (by omega) (enow ?_)
    rw [List.drop_eq_nil_of_le (by omega)]; rfl
  | succ d ih =>
    intro i s hi
    have hlt : i < xs.length := by omega
    refine eround (fun k => by rw [spec_SumOf.l0]) ?_
    refine epos (by omega) (epos (by omega) (epos (by omega) ?_))
    rw [rd_get xs i hlt, List.drop_eq_getElem_cons hlt, w64 (by omega) (by omega)]
    exact ih (i + 1) _ (by omega)
theorem implSum_l (xs : List Int) (hn : xs.length ≤ 9223372036854775807) : ∀ (d i : Nat) (s : Int), i + d = xs.length → Ev (fun k => impl_SumOf.l0 k s xs (xs.length : Int) (i : Int)) (sumX (xs.drop i) s, true) := by
  intro d
  induction d with
  | zero =>
    intro i s hi
    refine eround (fun k => by rw [impl_SumOf.l0]) ?_
    refine eneg (by omega) (enow ?_)
    rw [List.drop_eq_nil_of_le (by omega)]; rfl
  | succ d ih =>
    intro i s hi
    have hlt : i < xs.length := by omega
    refine eround (fun k => by rw [impl_SumOf.l0]) ?_
    refine epos (by omega) (epos (by omega) (epos (by omega) ?_))
    rw [rd_get xs i hlt, List.drop_eq_getElem_cons hlt, w64 (by omega) (by omega)]
    exact ih (i + 1) _ (by omega)
def sumR (xs : List Int) : Int × Bool := if xs.length ≤ 6 ∧ xs.all (inR 0 255) = true then (sumX xs 0, true) else (0, false)
theorem specSum_e (xs : List Int) (hn : xs.length ≤ 9223372036854775807) : Ev (fun k => spec_SumOf.f k xs) (sumR xs) := by
  unfold spec_SumOf.f sumR
  by_cases h : xs.length ≤ 6
  · refine eneg (by omega) (ebind (l1All_e xs 0 255 hn) (eround (fun k => by rw [spec_SumOf.j0]) ?_))
    cases h2 : xs.all (inR 0 255) with
    | true => exact eneg (by simp) (by simpa [h] using specSum_l xs hn xs.length 0 0 (by omega))
    | false => exact epos (by simp) (enow (by simp))
  · refine epos (by omega) (eround (fun k => by rw [spec_SumOf.j0]) (epos rfl (enow (by simp [h]))))
theorem implSum_e (xs : List Int) (hn : xs.length ≤ 9223372036854775807) : Ev (fun k => impl_SumOf.f k xs) (sumR xs) := by
  unfold impl_SumOf.f sumR
  by_cases h : xs.length ≤ 6
  · refine eneg (by omega) (ebind (allWithin_e xs 0 255 hn) (eround (fun k => by rw [impl_SumOf.j0]) ?_))
    cases h2 : xs.all (inR 0 255) with
    | true => exact eneg (by simp) (by simpa [h] using implSum_l xs hn xs.length 0 0 (by omega))
    | false => exact epos (by simp) (enow (by simp))
  · refine epos (by omega) (eround (fun k => by rw [impl_SumOf.j0]) (epos rfl (enow (by simp [h]))))
theorem FnExactSumOf : laws_FnExactSumOf.Pure := by
  intro l hm _ _
  apply Ev.rounds
  unfold laws_FnExactSumOf.f
  by_cases h : l.length ≤ 1048576
  · refine eneg (by omega) (ebind (toIntS_e l (by omega)) (ebind (specSum_e l (by omega)) (ebind (toIntS_e l (by omega)) (ebind (implSum_e l (by omega)) (epos rfl ?_)))))
    refine eround (fun k => by rw [laws_FnExactSumOf.j0]) (eneg (by simp) ?_)
    refine ebind (toIntS_e l (by omega)) (ebind (eqIntS_e l l (by omega)) (epos (by simp) (enow rfl)))
  · exact epos (by omega) (enow rfl)

end Go.Proofs.Ytmapmbgjjnlggaa.Pure
