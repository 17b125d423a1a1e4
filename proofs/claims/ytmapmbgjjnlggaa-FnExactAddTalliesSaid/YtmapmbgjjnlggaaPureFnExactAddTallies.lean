/- The law FnExactAddTallies, told over lists: the program's AddTallies and the reference's answer alike; nothing is written into an argument. No condition. -/
import Derived.Test.YtmapmbgjjnlggaaQFnExactAddTalliesx4
import Derived.Test.YtmapmbgjjnlggaaPk
namespace Go.Proofs.Ytmapmbgjjnlggaa.Pure
open Go.RowKit Go.Proofs.Ytmapmbgjjnlggaa.QFnExactAddTallies Go.Proofs.YtmapmbgjjnlggaaW.PrintWords Go.Proofs.YtmapmbgjjnlggaaW.PrintLast Go.Proofs.YtmapmbgjjnlggaaW.PrintMore Go.Proofs.Ytmapmbgjjnlggaa
set_option linter.unusedVariables false
set_option linter.unusedSimpArgs false

open Pk
/-! laws_szTallyS -/
theorem laws_szTallyS_z (xs : List S32) (m : Int) (h0 : 0 ≤ m) (h1 : m ≤ 1048576) (hw : xs.length ≤ 9223372036854775807) : ∃ r, r ≤ m ∧ laws_szTallyS.f xs m = some r ∧ (0 ≤ r → xs.length ≤ 1048576) := by
  unfold laws_szTallyS.f
  rw [w64 (by omega) (by omega)]
  by_cases h : m - (xs.length : Int) < 0
  · exact ⟨-1, by omega, if_pos h, fun h => by omega⟩
  · exact ⟨_, by omega, if_neg h, fun _ => by omega⟩
/-! laws_toTally -/
theorem laws_toTally_e (a0_0 : Int) (a0_1 : Int) (a0_2 : Int) : laws_toTally.f a0_0 a0_1 a0_2 = some (a0_0, a0_1, a0_2) := rfl
/-! laws_toTallyS -/
theorem laws_toTallyS_l (xs : List S32) (hs : xs.length ≤ 1048576) : ∀ (d i : Nat) (acc : List S35), i + d = xs.length → acc.length = xs.length → acc.take i = (xs.map fun x => (⟨x.f0, x.f1, x.f2⟩ : S35)).take i → Ev (fun k => laws_toTallyS.l0 k xs acc (i : Int)) (xs.map fun x => (⟨x.f0, x.f1, x.f2⟩ : S35)) := by
  have hn := hs
  intro d
  induction d with
  | zero =>
    intro i acc hi hl ht
    refine eround (fun k => by rw [laws_toTallyS.l0]) (eneg (by omega) (enow ?_))
    rwa [List.take_of_length_le (by omega), List.take_of_length_le (by first | omega | (simp; omega))] at ht
  | succ d ih =>
    intro i acc hi hl ht
    have hlt : i < xs.length := by omega
    refine eround (fun k => by rw [laws_toTallyS.l0]) (epos (by omega) (epos (by omega) ?_))
    refine enb rfl (epos (by omega) ?_)
    rw [w64 (by omega) (by omega)]
    refine ih (i + 1) _ (by omega) (by simpa using hl) ?_
    exact take_set_succ _ _ rfl (by first | exact hlt | (simp; omega)) (by first | exact hl | simpa using hl) ht (by first | exact (getD_get xs i _ hlt).symm | (simp only [List.getElem_map]; rw [← getD_get xs i _ hlt]; rfl))
theorem laws_toTallyS_e (xs : List S32) (hs : xs.length ≤ 1048576) : Ev (fun k => laws_toTallyS.f k xs) (xs.map fun x => (⟨x.f0, x.f1, x.f2⟩ : S35)) := by
  have hn := hs
  unfold laws_toTallyS.f
  exact epos (by omega) (epos (by omega) (laws_toTallyS_l xs hs xs.length 0 _ (by omega) (by simp) (by simp)))
/-! laws_eqTally -/
theorem laws_eqTally_r (a0_0 : Int) (a0_1 : Int) (a0_2 : Int) : laws_eqTally.f a0_0 a0_1 a0_2 a0_0 a0_1 a0_2 = some true := by
  unfold laws_eqTally.f
  simp
/-! laws_eqTallyS -/
theorem laws_eqTallyS_lr (xs : List S35) (hs : xs.length ≤ 1048576) : ∀ (d i : Nat), i + d = xs.length → Ev (fun k => laws_eqTallyS.l0 k xs xs (i : Int)) true := by
  have hn := hs
  intro d
  induction d with
  | zero =>
    intro i hi
    exact eround (fun k => by rw [laws_eqTallyS.l0]) (eneg (by omega) (enow rfl))
  | succ d ih =>
    intro i hi
    have hlt : i < xs.length := by omega
    refine eround (fun k => by rw [laws_eqTallyS.l0]) (epos (by omega) (epos (by omega) (epos (by omega) ?_)))
    refine enb (laws_eqTally_r _ _ _) (epos rfl ?_)
    rw [w64 (by omega) (by omega)]
    exact ih (i + 1) (by omega)
theorem laws_eqTallyS_r (xs : List S35) (hs : xs.length ≤ 1048576) : Ev (fun k => laws_eqTallyS.f k xs xs) true := by
  unfold laws_eqTallyS.f
  exact epos rfl (laws_eqTallyS_lr xs hs xs.length 0 (by omega))
/-! laws_markTallyS -/
theorem laws_markTallyS_h : ∀ (d i : Nat) (xs : List S35) (m : Int), i + d = xs.length → xs.length ≤ 1048576 → 0 ≤ m → m ≤ 4611686018427387904 - 3 * d → ∃ ys : List S35, ys.length = xs.length ∧ ys.take i = xs.take i ∧
    Ev (fun k => laws_markTallyS.l0 k xs m (i : Int)) (m + 3 * d, ys) ∧ Ev (fun k => laws_heldTallyS.l0 k ys m (i : Int)) (m + 3 * d) := by
  intro d
  induction d with
  | zero =>
    intro i xs m hi hn h0 h1
    exact ⟨xs, rfl, rfl, eround (fun k => by rw [laws_markTallyS.l0]) (eneg (by omega) (enow (by simp))), eround (fun k => by rw [laws_heldTallyS.l0]) (eneg (by omega) (enow (by simp)))⟩
  | succ d ih =>
    intro i xs m hi hn h0 h1
    have hlt : i < xs.length := by omega
    have w1 : wrap64 ((i : Int) + 1) = ((i + 1 : Nat) : Int) := by rw [w64 (by omega) (by omega)]; rfl
    have v0 : wrap64 (m + 1) = m + 1 := w64 (by omega) (by omega)
    have v1 : wrap64 (m + 1 + 1) = m + 2 := by rw [w64 (by omega) (by omega)]; omega
    have v2 : wrap64 (m + 2 + 1) = m + 3 := by rw [w64 (by omega) (by omega)]; omega
    obtain ⟨ys, hl, ht, hm, hh⟩ := ih (i + 1) (xs.set ((i : Int)).toNat (⟨m, m + 1, m + 2⟩ : S35)) (m + 3) (by simp; omega) (by simpa using hn) (by omega) (by push_cast at h1; omega)
    have hlt' : i < ys.length := by rw [hl]; simpa using hlt
    have hy : ys[i] = (⟨m, m + 1, m + 2⟩ : S35) := by
      have := congrArg (fun l => l[i]?) ht
      simp only [List.getElem?_take_of_lt (Nat.lt_succ_self i), List.getElem?_eq_getElem hlt'] at this
      rw [show ((i : Int)).toNat = i by simp, List.getElem?_set_self (by simpa using hlt)] at this
      exact Option.some.inj this
    refine ⟨ys, by rw [hl]; simp, ?_, ?_, ?_⟩
    · have := congrArg (List.take i) ht
      rw [List.take_take, List.take_take, Nat.min_eq_left (by omega)] at this
      rw [this]
      simp [List.take_set_of_le]
    · refine eround (fun k => by rw [laws_markTallyS.l0]) (epos (by omega) ?_)
      try simp only [w1, v0, v1, v2]
      refine epos (by omega) ?_
      refine enb rfl ?_
      refine enb rfl ?_
      refine enb rfl ?_
      try simp only [w1, v0, v1, v2]
      simp only [rd_T35, getD_get, List.length_set, hlt, set_get, set_set_]
      rw [show m + 3 * ((d + 1 : Nat) : Int) = m + 3 + 3 * (d : Int) by push_cast; omega]
      simpa using hm
    · refine eround (fun k => by rw [laws_heldTallyS.l0]) (epos (by omega) (epos (by omega) ?_))
      have hr : ∀ z, ys.getD ((i : Int)).toNat z = ys[i] := fun z => getD_get ys i z hlt'
      try simp only [w1, v0, v1, v2]
      simp only [rd_T35, hr, hy]
      repeat (first | refine epos trivial ?_ | refine epos rfl ?_ | (refine eneg ?_ ?_; focus (simp; done)))
      rw [show m + 3 * ((d + 1 : Nat) : Int) = m + 3 + 3 * (d : Int) by push_cast; omega]
      exact hh
theorem laws_markTallyS_m (xs : List S35) (m : Int) (hn : xs.length ≤ 1048576) (h0 : 0 ≤ m) (h1 : m ≤ 4611686018427387904 - 3 * xs.length) : ∃ ys : List S35, ys.length = xs.length ∧ Ev (fun k => laws_markTallyS.f k xs m) (m + 3 * xs.length, ys) ∧ Ev (fun k => laws_heldTallyS.f k ys m) (m + 3 * xs.length) := by
  obtain ⟨ys, hl, _, h⟩ := laws_markTallyS_h xs.length 0 xs m (by omega) hn h0 h1
  exact ⟨ys, hl, h⟩
def inR (lo hi x : Int) : Bool := decide (x ≥ lo) && decide (x ≤ hi)
theorem inR_iff {lo hi x : Int} : inR lo hi x = true ↔ lo ≤ x ∧ x ≤ hi := by simp [inR]
theorem l1In_eq (a lo hi : Int) : spec_l1In.f a lo hi = some (inR lo hi a) := by
  unfold spec_l1In.f inR
  by_cases h : a ≥ lo <;> simp [h]
theorem within_eq (a lo hi : Int) : impl_within.f a lo hi = some (inR lo hi a) := by
  unfold impl_within.f inR
  by_cases h : a ≥ lo <;> simp [h]
/-- all elements, each with its place, from place i on -/
def allI {α : Type} (p : Nat → α → Bool) : Nat → List α → Bool
  | _, [] => true
  | i, x :: xs => p i x && allI p (i + 1) xs
theorem allI_congr {α : Type} {p q : Nat → α → Bool} : ∀ (xs : List α) (i : Nat), (∀ j x, i ≤ j → j < i + xs.length → p j x = q j x) → allI p i xs = allI q i xs
  | [], _, _ => rfl
  | x :: xs, i, h => by
    simp only [allI]
    rw [h i x (Nat.le_refl _) (by simp), allI_congr xs (i + 1) (fun j y h1 h2 => h j y (by omega) (by simp only [List.length_cons]; omega))]
def tallyAt (i : Nat) (x : S35) : Bool := decide (x.f0 = (i : Int)) && (inR 0 100 x.f1 && inR 0 100 x.f2)
def tallyAt' (i : Nat) (x : S35) : Bool := (inR 0 11 x.f0 && (inR 0 100 x.f1 && inR 0 100 x.f2)) && decide (x.f0 = (i : Int))
def goodT (xs : List S35) : Bool := allI tallyAt 0 xs && inR 1 12 (xs.length : Int)
theorem l14Tally_eq (x : S35) (i : Nat) : spec_l14Tally.f x.f0 x.f1 x.f2 (i : Int) = some (tallyAt i x) := by
  unfold spec_l14Tally.f tallyAt
  rw [l1In_eq, l1In_eq]
  by_cases h : x.f0 = (i : Int) <;> cases h1 : inR 0 100 x.f1 <;> simp [h]
theorem isTally_eq (x : S35) : impl_isTally.f x.f0 x.f1 x.f2 = some (inR 0 11 x.f0 && (inR 0 100 x.f1 && inR 0 100 x.f2)) := by
  unfold impl_isTally.f
  rw [within_eq, within_eq, within_eq]
  cases h : inR 0 11 x.f0 <;> cases h1 : inR 0 100 x.f1 <;> simp
theorem specGT_l (xs : List S35) (hn : xs.length ≤ 1048576) : ∀ (d i : Nat), i + d = xs.length → Ev (fun k => spec_GoodTallies.l0 k xs xs (xs.length : Int) (i : Int)) (allI tallyAt i (xs.drop i) && inR 1 12 (xs.length : Int)) := by
  intro d
  induction d with
  | zero =>
    intro i hi
    refine eround (fun k => by rw [spec_GoodTallies.l0]) (eneg (by omega) (enb (l1In_eq _ _ _) (enow ?_)))
    rw [List.drop_eq_nil_of_le (by omega)]; rfl
  | succ d ih =>
    intro i hi
    have hlt : i < xs.length := by omega
    refine eround (fun k => by rw [spec_GoodTallies.l0]) (epos (by omega) (epos (by omega) (epos (by omega) ?_)))
    rw [show rd_T35 xs (i : Int) = xs[i] from getD_get xs i _ hlt, List.drop_eq_getElem_cons hlt]
    refine enb (l14Tally_eq _ _) ?_
    simp only [allI]
    cases h : tallyAt i xs[i] with
    | true =>
      refine epos rfl ?_
      rw [w64 (by omega) (by omega), Bool.true_and]
      exact ih (i + 1) (by omega)
    | false => exact eneg (by simp) (enow (by simp))
theorem implGT_l (xs : List S35) (hn : xs.length ≤ 1048576) : ∀ (d i : Nat), i + d = xs.length → Ev (fun k => impl_GoodTallies.l0 k xs xs (xs.length : Int) (i : Int)) (allI tallyAt' i (xs.drop i) && inR 1 12 (xs.length : Int)) := by
  intro d
  induction d with
  | zero =>
    intro i hi
    refine eround (fun k => by rw [impl_GoodTallies.l0]) (eneg (by omega) (enb (within_eq _ _ _) (enow ?_)))
    rw [List.drop_eq_nil_of_le (by omega)]; rfl
  | succ d ih =>
    intro i hi
    have hlt : i < xs.length := by omega
    refine eround (fun k => by rw [impl_GoodTallies.l0]) (epos (by omega) (epos (by omega) (epos (by omega) ?_)))
    rw [show rd_T35 xs (i : Int) = xs[i] from getD_get xs i _ hlt, List.drop_eq_getElem_cons hlt]
    refine enb (isTally_eq _) ?_
    simp only [allI, tallyAt']
    cases h : inR 0 11 xs[i].f0 && (inR 0 100 xs[i].f1 && inR 0 100 xs[i].f2) with
    | true =>
      refine epos rfl ?_
      by_cases h2 : xs[i].f0 = (i : Int)
      · refine epos h2 ?_
        rw [w64 (by omega) (by omega)]
        simp only [h2, decide_true, Bool.true_and]
        exact ih (i + 1) (by omega)
      · exact eneg h2 (enow (by simp [h2]))
    | false => exact eneg (by simp) (enow (by simp))
theorem specGT_e (xs : List S35) (hn : xs.length ≤ 1048576) : Ev (fun k => spec_GoodTallies.f k xs) (goodT xs) := specGT_l xs hn xs.length 0 (by omega)
theorem implGT_e (xs : List S35) (hn : xs.length ≤ 1048576) : Ev (fun k => impl_GoodTallies.f k xs) (goodT xs) := by
  have h := implGT_l xs hn xs.length 0 (by omega)
  have e : goodT xs = (allI tallyAt' 0 (xs.drop 0) && inR 1 12 (xs.length : Int)) := by
    unfold goodT
    cases hl : inR 1 12 (xs.length : Int) with
    | false => simp
    | true =>
      rw [inR_iff] at hl
      rw [Bool.and_true, Bool.and_true, List.drop_zero]
      refine allI_congr xs 0 (fun j x h1 h2 => ?_)
      unfold tallyAt tallyAt'
      by_cases h3 : x.f0 = (j : Int)
      · have : inR 0 11 x.f0 = true := by rw [inR_iff]; omega
        simp [h3] at this ⊢
        simp [this]
      · simp [h3]
  rw [e]
  exact h
theorem szTally_e (xs : List S32) (left : Int) (h0 : 0 ≤ left) (h1 : left ≤ 1048576) (hm : xs.length ≤ 9223372036854775807) : laws_szTallyS.f xs left = some (if left < xs.length then -1 else left - xs.length) := by
  unfold laws_szTallyS.f
  rw [w64 (by omega) (by omega)]
  by_cases h : left < (xs.length : Int)
  · rw [if_pos (by omega), if_pos h]
  · rw [if_neg (by omega), if_neg h]
def addF : Nat → List S35 → List S35 → List S35
  | i, x :: xs, y :: ys => ⟨(i : Int), wrap64 (x.f1 + y.f1), wrap64 (x.f2 + y.f2)⟩ :: addF (i + 1) xs ys
  | _, _, _ => []
def finT (o : List S35) : List S35 × Bool := if goodT o = true then (o, true) else ([], false)
def addT (xs ys : List S35) : List S35 × Bool := if goodT xs = true ∧ goodT ys = true ∧ xs.length = ys.length then finT (addF 0 xs ys) else ([], false)
theorem addF_len : ∀ (xs ys : List S35) (i : Nat), (addF i xs ys).length ≤ xs.length
  | [], _, _ => by simp [addF]
  | _ :: _, [], _ => by simp [addF]
  | x :: xs, y :: ys, i => by simp only [addF, List.length_cons]; have := addF_len xs ys (i + 1); omega
theorem addT_len (xs ys : List S35) : (addT xs ys).1.length ≤ xs.length := by
  unfold addT finT
  split
  · split
    · exact addF_len xs ys 0
    · simp
  · simp
theorem specAT_l (xs ys : List S35) (hl : xs.length = ys.length) (hn : xs.length ≤ 1048576) : ∀ (d i : Nat) (out : List S35), i + d = xs.length → out.length = i → Ev (fun k => spec_AddTallies.l0 k ys out xs (xs.length : Int) (i : Int)) (finT (out ++ addF i (xs.drop i) (ys.drop i))) := by
  intro d
  induction d with
  | zero =>
    intro i out hi ho
    refine eround (fun k => by rw [spec_AddTallies.l0]) (eneg (by omega) ?_)
    rw [List.drop_eq_nil_of_le (show xs.length ≤ i by omega), List.drop_eq_nil_of_le (show ys.length ≤ i by omega)]
    simp only [addF, List.append_nil]
    refine ebind (specGT_e out (by omega)) ?_
    unfold finT
    cases h : goodT out with
    | true => exact epos rfl (enow rfl)
    | false => exact eneg (by simp) (enow rfl)
  | succ d ih =>
    intro i out hi ho
    have hlt : i < xs.length := by omega
    have hlt' : i < ys.length := by omega
    refine eround (fun k => by rw [spec_AddTallies.l0]) (epos (by omega) (epos (by omega) (epos (by omega) (epos (by omega) (epos (by omega) ?_)))))
    rw [show rd_T35 xs (i : Int) = xs[i] from getD_get xs i _ hlt, show rd_T35 ys (i : Int) = ys[i] from getD_get ys i _ hlt', List.drop_eq_getElem_cons hlt, List.drop_eq_getElem_cons hlt', w64 (x := (i : Int) + 1) (by omega) (by omega)]
    simp only [addF]
    have := ih (i + 1) (out ++ [(⟨(i : Int), wrap64 (xs[i].f1 + ys[i].f1), wrap64 (xs[i].f2 + ys[i].f2)⟩ : S35)]) (by omega) (by simp [ho])
    rw [List.append_assoc, List.singleton_append] at this
    exact this
theorem specAT_e (xs ys : List S35) (hn : xs.length ≤ 1048576) (hm : ys.length ≤ 1048576) : Ev (fun k => spec_AddTallies.f k xs ys) (addT xs ys) := by
  unfold spec_AddTallies.f addT
  refine ebind (specGT_e xs hn) ?_
  cases h1 : goodT xs with
  | false => exact eneg (by simp) (eround (fun k => by rw [spec_AddTallies.j0]) (epos rfl (enow (by simp))))
  | true =>
    refine epos rfl (ebind (specGT_e ys hm) ?_)
    cases h2 : goodT ys with
    | false => exact eneg (by simp) (eround (fun k => by rw [spec_AddTallies.j0]) (epos rfl (enow (by simp))))
    | true =>
      refine epos rfl (eround (fun k => by rw [spec_AddTallies.j0]) ?_)
      by_cases h3 : xs.length = ys.length
      · refine eneg (by simp [h3]) ?_
        rw [if_pos ⟨rfl, rfl, h3⟩]
        exact specAT_l xs ys h3 hn xs.length 0 [] (by omega) rfl
      · refine epos (by simp; omega) (enow (by simp [h3]))
theorem implAT_l (xs ys : List S35) (hl : xs.length = ys.length) (hn : xs.length ≤ 1048576) : ∀ (d i : Nat) (out : List S35), i + d = xs.length → out.length = i → Ev (fun k => impl_AddTallies.l0 k ys out xs (xs.length : Int) (i : Int)) (finT (out ++ addF i (xs.drop i) (ys.drop i))) := by
  intro d
  induction d with
  | zero =>
    intro i out hi ho
    refine eround (fun k => by rw [impl_AddTallies.l0]) (eneg (by omega) ?_)
    rw [List.drop_eq_nil_of_le (show xs.length ≤ i by omega), List.drop_eq_nil_of_le (show ys.length ≤ i by omega)]
    simp only [addF, List.append_nil]
    refine ebind (implGT_e out (by omega)) ?_
    unfold finT
    cases h : goodT out with
    | true => exact epos rfl (enow rfl)
    | false => exact eneg (by simp) (enow rfl)
  | succ d ih =>
    intro i out hi ho
    have hlt : i < xs.length := by omega
    have hlt' : i < ys.length := by omega
    refine eround (fun k => by rw [impl_AddTallies.l0]) (epos (by omega) (epos (by omega) (epos (by omega) (epos (by omega) (epos (by omega) ?_)))))
    rw [show rd_T35 xs (i : Int) = xs[i] from getD_get xs i _ hlt, show rd_T35 ys (i : Int) = ys[i] from getD_get ys i _ hlt', List.drop_eq_getElem_cons hlt, List.drop_eq_getElem_cons hlt', w64 (x := (i : Int) + 1) (by omega) (by omega)]
    simp only [addF]
    have := ih (i + 1) (out ++ [(⟨(i : Int), wrap64 (xs[i].f1 + ys[i].f1), wrap64 (xs[i].f2 + ys[i].f2)⟩ : S35)]) (by omega) (by simp [ho])
    rw [List.append_assoc, List.singleton_append] at this
    exact this
theorem implAT_e (xs ys : List S35) (hn : xs.length ≤ 1048576) (hm : ys.length ≤ 1048576) : Ev (fun k => impl_AddTallies.f k xs ys) (addT xs ys) := by
  unfold impl_AddTallies.f addT
  refine ebind (implGT_e xs hn) ?_
  cases h1 : goodT xs with
  | false => exact eneg (by simp) (eround (fun k => by rw [impl_AddTallies.j0]) (epos rfl (enow (by simp))))
  | true =>
    refine epos rfl (ebind (implGT_e ys hm) ?_)
    cases h2 : goodT ys with
    | false => exact eneg (by simp) (eround (fun k => by rw [impl_AddTallies.j0]) (epos rfl (enow (by simp))))
    | true =>
      refine epos rfl (eround (fun k => by rw [impl_AddTallies.j0]) ?_)
      by_cases h3 : xs.length = ys.length
      · refine eneg (by simp [h3]) ?_
        rw [if_pos ⟨rfl, rfl, h3⟩]
        exact implAT_l xs ys h3 hn xs.length 0 [] (by omega) rfl
      · refine epos (by simp; omega) (enow (by simp [h3]))
theorem FnExactAddTallies : laws_FnExactAddTallies.Pure := by
  intro l m h g
  apply Ev.rounds
  unfold laws_FnExactAddTallies.f
  refine enb (szTally_e l 1048576 (by omega) (by omega) h.1) ?_
  by_cases hl : (1048576 : Int) < l.length
  · exact epos (by simp [hl]) (enow rfl)
  rw [if_neg hl]
  refine eneg (by omega) (enb (szTally_e m _ (by omega) (by omega) g.1) ?_)
  by_cases hm : (1048576 : Int) - l.length < m.length
  · exact epos (by simp [hm]) (enow rfl)
  rw [if_neg hm]
  refine eneg (by omega) ?_
  have hs : l.length ≤ 1048576 := by omega
  have hs2 : m.length ≤ 1048576 := by omega
  have hc := laws_toTallyS_e l hs
  have hd := laws_toTallyS_e m hs2
  generalize hx : (l.map fun x => (⟨x.f0, x.f1, x.f2⟩ : S35)) = xs at hc
  generalize hy : (m.map fun x => (⟨x.f0, x.f1, x.f2⟩ : S35)) = ys at hd
  have hxs : xs.length ≤ 1048576 := by rw [← hx]; simpa using hs
  have hys : ys.length ≤ 1048576 := by rw [← hy]; simpa using hs2
  have hR : (addT xs ys).1.length ≤ 1048576 := Nat.le_trans (addT_len xs ys) hxs
  refine ebind hc (ebind hd (ebind (specAT_e xs ys hxs hys) (ebind hc (ebind hd (ebind (implAT_e xs ys hxs hys) (ebind (laws_eqTallyS_r _ hR) (epos rfl ?_)))))))
  refine eround (fun k => by rw [laws_FnExactAddTallies.j0]) (eneg (by simp) ?_)
  obtain ⟨z1, hz1, q1, _⟩ := laws_markTallyS_m xs 1 hxs (by omega) (by omega)
  obtain ⟨z2, hz2, q2, _⟩ := laws_markTallyS_m ys (1 + 3 * xs.length) hys (by omega) (by omega)
  refine ebind hc (ebind (laws_eqTallyS_r _ hxs) (epos rfl (ebind hd (ebind (laws_eqTallyS_r _ hys) (epos rfl (ebind q1 (ebind q2 (eneg (by simp; omega) (ebind (laws_eqTallyS_r _ hR) (epos rfl ?_))))))))))
  refine eround (fun k => by rw [laws_FnExactAddTallies.j1]) (eneg (by simp) ?_)
  obtain ⟨z3, hz3, q3, q4⟩ := laws_markTallyS_m (addT xs ys).1 1 hR (by omega) (by omega)
  refine ebind q3 (ebind q4 (eneg (by omega) (epos rfl (ebind hc (ebind hd (ebind (implAT_e xs ys hxs hys) (ebind (laws_eqTallyS_r _ hR) (epos rfl ?_))))))))
  refine eround (fun k => by rw [laws_FnExactAddTallies.j2]) (eneg (by simp) (ebind q4 ?_))
  dsimp only
  exact eneg (by omega) (epos rfl (enow rfl))

end Go.Proofs.Ytmapmbgjjnlggaa.Pure
