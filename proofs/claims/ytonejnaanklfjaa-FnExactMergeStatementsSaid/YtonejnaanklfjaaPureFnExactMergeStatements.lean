/- The law FnExactMergeStatements, told over lists: the program's MergeStatements and the reference's answer alike; nothing is written into an argument. No condition. -/
import Derived.Test.YtonejnaanklfjaaQFnExactMergeStatementsx6
import Derived.Test.YtonejnaanklfjaaPk
namespace Go.Proofs.Ytonejnaanklfjaa.Pure
open Go.RowKit Go.Proofs.Ytonejnaanklfjaa.QFnExactMergeStatements Go.Proofs.YtonejnaanklfjaaW.PrintWords Go.Proofs.YtonejnaanklfjaaW.PrintLast Go.Proofs.YtonejnaanklfjaaW.PrintMore Go.Proofs.Ytonejnaanklfjaa
set_option linter.unusedVariables false
set_option linter.unusedSimpArgs false

open Pk
/-! laws_szStatementS -/
theorem laws_szStatementS_z (xs : List S127) (m : Int) (h0 : 0 ≤ m) (h1 : m ≤ 1048576) (hw : xs.length ≤ 9223372036854775807) : ∃ r, r ≤ m ∧ laws_szStatementS.f xs m = some r ∧ (0 ≤ r → xs.length ≤ 1048576) := by
  unfold laws_szStatementS.f
  rw [w64 (by omega) (by omega)]
  by_cases h : m - (xs.length : Int) < 0
  · exact ⟨-1, by omega, if_pos h, fun h => by omega⟩
  · exact ⟨_, by omega, if_neg h, fun _ => by omega⟩
/-! laws_toClaim -/
theorem laws_toClaim_e (a0_0 : Int) (a0_1 : Int) (a0_2 : Int) : laws_toClaim.f a0_0 a0_1 a0_2 = some (a0_0, a0_1, a0_2) := rfl
/-! laws_toStatement -/
theorem laws_toStatement_e (a0_0 : Int) (a0_1 : Int) (a0_2 : Int) (a0_3 : Int) (a0_4 : Bool) : laws_toStatement.f a0_0 a0_1 a0_2 a0_3 a0_4 = some (a0_0, a0_1, a0_2, a0_3, a0_4) := rfl
/-! laws_toStatementS -/
theorem laws_toStatementS_l (xs : List S127) (hs : xs.length ≤ 1048576) : ∀ (d i : Nat) (acc : List S124), i + d = xs.length → acc.length = xs.length → acc.take i = (xs.map fun x => (⟨x.f0, (⟨x.f1.f0, x.f1.f1, x.f1.f2⟩ : S30), x.f2⟩ : S124)).take i → Ev (fun k => laws_toStatementS.l0 k xs acc (i : Int)) (xs.map fun x => (⟨x.f0, (⟨x.f1.f0, x.f1.f1, x.f1.f2⟩ : S30), x.f2⟩ : S124)) := by
  have hn := hs
  intro d
  induction d with
  | zero =>
    intro i acc hi hl ht
    refine eround (fun k => by rw [laws_toStatementS.l0]) (eneg (by omega) (enow ?_))
    rwa [List.take_of_length_le (by omega), List.take_of_length_le (by first | omega | (simp; omega))] at ht
  | succ d ih =>
    intro i acc hi hl ht
    have hlt : i < xs.length := by omega
    refine eround (fun k => by rw [laws_toStatementS.l0]) (epos (by omega) (epos (by omega) ?_))
    refine enb rfl (epos (by omega) ?_)
    rw [w64 (by omega) (by omega)]
    refine ih (i + 1) _ (by omega) (by simpa using hl) ?_
    exact take_set_succ _ _ rfl (by first | exact hlt | (simp; omega)) (by first | exact hl | simpa using hl) ht (by first | exact (getD_get xs i _ hlt).symm | (simp only [List.getElem_map]; rw [← getD_get xs i _ hlt]; rfl))
theorem laws_toStatementS_e (xs : List S127) (hs : xs.length ≤ 1048576) : Ev (fun k => laws_toStatementS.f k xs) (xs.map fun x => (⟨x.f0, (⟨x.f1.f0, x.f1.f1, x.f1.f2⟩ : S30), x.f2⟩ : S124)) := by
  have hn := hs
  unfold laws_toStatementS.f
  exact epos (by omega) (epos (by omega) (laws_toStatementS_l xs hs xs.length 0 _ (by omega) (by simp) (by simp)))
/-! laws_eqClaim -/
theorem laws_eqClaim_r (a0_0 : Int) (a0_1 : Int) (a0_2 : Int) : laws_eqClaim.f a0_0 a0_1 a0_2 a0_0 a0_1 a0_2 = some true := by
  unfold laws_eqClaim.f
  simp
/-! laws_eqStatement -/
theorem laws_eqStatement_r (a0_0 : Int) (a0_1 : Int) (a0_2 : Int) (a0_3 : Int) (a0_4 : Bool) : laws_eqStatement.f a0_0 a0_1 a0_2 a0_3 a0_4 a0_0 a0_1 a0_2 a0_3 a0_4 = some true := by
  unfold laws_eqStatement.f
  simp [laws_eqClaim_r]
/-! laws_eqStatementS -/
theorem laws_eqStatementS_lr (xs : List S124) (hs : xs.length ≤ 1048576) : ∀ (d i : Nat), i + d = xs.length → Ev (fun k => laws_eqStatementS.l0 k xs xs (i : Int)) true := by
  have hn := hs
  intro d
  induction d with
  | zero =>
    intro i hi
    exact eround (fun k => by rw [laws_eqStatementS.l0]) (eneg (by omega) (enow rfl))
  | succ d ih =>
    intro i hi
    have hlt : i < xs.length := by omega
    refine eround (fun k => by rw [laws_eqStatementS.l0]) (epos (by omega) (epos (by omega) (epos (by omega) ?_)))
    refine enb (laws_eqStatement_r _ _ _ _ _) (epos rfl ?_)
    rw [w64 (by omega) (by omega)]
    exact ih (i + 1) (by omega)
theorem laws_eqStatementS_r (xs : List S124) (hs : xs.length ≤ 1048576) : Ev (fun k => laws_eqStatementS.f k xs xs) true := by
  unfold laws_eqStatementS.f
  exact epos rfl (laws_eqStatementS_lr xs hs xs.length 0 (by omega))
/-! laws_markStatementS -/
theorem laws_markStatementS_h : ∀ (d i : Nat) (xs : List S124) (m : Int), i + d = xs.length → xs.length ≤ 1048576 → 0 ≤ m → m ≤ 4611686018427387904 - 5 * d → ∃ ys : List S124, ys.length = xs.length ∧ ys.take i = xs.take i ∧
    Ev (fun k => laws_markStatementS.l0 k xs m (i : Int)) (m + 5 * d, ys) ∧ Ev (fun k => laws_heldStatementS.l0 k ys m (i : Int)) (m + 5 * d) := by
  intro d
  induction d with
  | zero =>
    intro i xs m hi hn h0 h1
    exact ⟨xs, rfl, rfl, eround (fun k => by rw [laws_markStatementS.l0]) (eneg (by omega) (enow (by simp))), eround (fun k => by rw [laws_heldStatementS.l0]) (eneg (by omega) (enow (by simp)))⟩
  | succ d ih =>
    intro i xs m hi hn h0 h1
    have hlt : i < xs.length := by omega
    have w1 : wrap64 ((i : Int) + 1) = ((i + 1 : Nat) : Int) := by rw [w64 (by omega) (by omega)]; rfl
    have v0 : wrap64 (m + 1) = m + 1 := w64 (by omega) (by omega)
    have v1 : wrap64 (m + 1 + 1) = m + 2 := by rw [w64 (by omega) (by omega)]; omega
    have v2 : wrap64 (m + 2 + 1) = m + 3 := by rw [w64 (by omega) (by omega)]; omega
    have v3 : wrap64 (m + 3 + 1) = m + 4 := by rw [w64 (by omega) (by omega)]; omega
    have v4 : wrap64 (m + 4 + 1) = m + 5 := by rw [w64 (by omega) (by omega)]; omega
    obtain ⟨ys, hl, ht, hm, hh⟩ := ih (i + 1) (xs.set ((i : Int)).toNat (⟨m, (⟨m + 1, m + 2, m + 3⟩ : S30), (Int.tmod (m + 4) 3 == 0)⟩ : S124)) (m + 5) (by simp; omega) (by simpa using hn) (by omega) (by push_cast at h1; omega)
    have hlt' : i < ys.length := by rw [hl]; simpa using hlt
    have hy : ys[i] = (⟨m, (⟨m + 1, m + 2, m + 3⟩ : S30), (Int.tmod (m + 4) 3 == 0)⟩ : S124) := by
      have := congrArg (fun l => l[i]?) ht
      simp only [List.getElem?_take_of_lt (Nat.lt_succ_self i), List.getElem?_eq_getElem hlt'] at this
      rw [show ((i : Int)).toNat = i by simp, List.getElem?_set_self (by simpa using hlt)] at this
      exact Option.some.inj this
    refine ⟨ys, by rw [hl]; simp, ?_, ?_, ?_⟩
    · have := congrArg (List.take i) ht
      rw [List.take_take, List.take_take, Nat.min_eq_left (by omega)] at this
      rw [this]
      simp [List.take_set_of_le]
    · refine eround (fun k => by rw [laws_markStatementS.l0]) (epos (by omega) ?_)
      try simp only [w1, v0, v1, v2, v3, v4]
      refine epos (by omega) ?_
      refine enb rfl ?_
      refine enb rfl ?_
      refine enb rfl ?_
      refine enb rfl ?_
      refine enb rfl ?_
      try simp only [w1, v0, v1, v2, v3, v4]
      simp only [rd_T124, getD_get, List.length_set, hlt, set_get, set_set_]
      rw [show m + 5 * ((d + 1 : Nat) : Int) = m + 5 + 5 * (d : Int) by push_cast; omega]
      simpa using hm
    · refine eround (fun k => by rw [laws_heldStatementS.l0]) (epos (by omega) (epos (by omega) ?_))
      have hr : ∀ z, ys.getD ((i : Int)).toNat z = ys[i] := fun z => getD_get ys i z hlt'
      try simp only [w1, v0, v1, v2, v3, v4]
      simp only [rd_T124, hr, hy]
      repeat (first | refine epos trivial ?_ | refine epos rfl ?_ | (refine eneg ?_ ?_; focus (simp; done)))
      rw [show m + 5 * ((d + 1 : Nat) : Int) = m + 5 + 5 * (d : Int) by push_cast; omega]
      exact hh
theorem laws_markStatementS_m (xs : List S124) (m : Int) (hn : xs.length ≤ 1048576) (h0 : 0 ≤ m) (h1 : m ≤ 4611686018427387904 - 5 * xs.length) : ∃ ys : List S124, ys.length = xs.length ∧ Ev (fun k => laws_markStatementS.f k xs m) (m + 5 * xs.length, ys) ∧ Ev (fun k => laws_heldStatementS.f k ys m) (m + 5 * xs.length) := by
  obtain ⟨ys, hl, _, h⟩ := laws_markStatementS_h xs.length 0 xs m (by omega) hn h0 h1
  exact ⟨ys, hl, h⟩
def inR (lo hi x : Int) : Bool := decide (x ≥ lo) && decide (x ≤ hi)
theorem inR_iff {lo hi x : Int} : inR lo hi x = true ↔ lo ≤ x ∧ x ≤ hi := by simp [inR]
theorem l1In_eq (a lo hi : Int) : spec_l1In.f a lo hi = some (inR lo hi a) := by
  unfold spec_l1In.f inR
  by_cases h : a ≥ lo <;> simp [h]
theorem within_eq (a lo hi : Int) : impl_within.f a lo hi = some (inR lo hi a) := by
  unfold impl_within.f inR
  by_cases h : a ≥ lo <;> simp [h]
def goodC (a b c : Int) : Bool := inR 0 20 a && (inR 0 1000 b && inR 0 100 c)
theorem specGC_eq (a b c : Int) : spec_GoodClaim.f a b c = some (goodC a b c) := by
  unfold spec_GoodClaim.f goodC
  rw [l1In_eq, l1In_eq, l1In_eq]
  cases h : inR 0 20 a <;> cases h1 : inR 0 1000 b <;> simp
theorem implGC_eq (a b c : Int) : impl_GoodClaim.f a b c = some (goodC a b c) := by
  unfold impl_GoodClaim.f impl_isLetterNumber.f goodC
  rw [within_eq, within_eq, within_eq]
  cases h : inR 0 20 a <;> cases h1 : inR 0 1000 b <;> simp
def goodSt (x : S124) : Bool := inR 0 6 x.f0 && goodC x.f1.f0 x.f1.f1 x.f1.f2
def goodSts (xs : List S124) : Bool := xs.all goodSt && decide ((xs.length : Int) ≤ 60)
theorem l12W_eq (a : Int) : spec_l12Witness.f a = some (inR 0 6 a) := by
  unfold spec_l12Witness.f
  rw [l1In_eq]; rfl
theorem specG12_l (xs : List S124) (hn : xs.length ≤ 1048576) : ∀ (d i : Nat), i + d = xs.length → Ev (fun k => spec_l12Good.l0 k xs xs (xs.length : Int) (i : Int)) ((xs.drop i).all goodSt && decide ((xs.length : Int) ≤ 60)) := by
  intro d
  induction d with
  | zero =>
    intro i hi
    refine eround (fun k => by rw [spec_l12Good.l0]) (eneg (by omega) (enow ?_))
    rw [List.drop_eq_nil_of_le (by omega)]; rfl
  | succ d ih =>
    intro i hi
    have hlt : i < xs.length := by omega
    refine eround (fun k => by rw [spec_l12Good.l0]) (epos (by omega) (epos (by omega) (epos (by omega) ?_)))
    rw [show rd_T124 xs (i : Int) = xs[i] from getD_get xs i _ hlt, List.drop_eq_getElem_cons hlt, List.all_cons]
    refine enb (l12W_eq _) ?_
    have hg : goodSt xs[i] = (inR 0 6 xs[i].f0 && goodC xs[i].f1.f0 xs[i].f1.f1 xs[i].f1.f2) := rfl
    cases h : inR 0 6 xs[i].f0 with
    | false => exact eneg (by simp) (enow (by simp [hg, h]))
    | true =>
      refine epos rfl (enb (specGC_eq _ _ _) ?_)
      cases h2 : goodC xs[i].f1.f0 xs[i].f1.f1 xs[i].f1.f2 with
      | false => exact eneg (by simp) (enow (by simp [hg, h2]))
      | true =>
        refine epos rfl ?_
        rw [w64 (by omega) (by omega), hg, h, h2]
        exact ih (i + 1) (by omega)
theorem specG12_e (xs : List S124) (hn : xs.length ≤ 1048576) : Ev (fun k => spec_l12Good.f k xs) (goodSts xs) := specG12_l xs hn xs.length 0 (by omega)
theorem isSt_eq (a b c d : Int) (e : Bool) : impl_isStatement.f a b c d e = some (inR 0 6 a && goodC b c d) := by
  unfold impl_isStatement.f
  rw [within_eq, implGC_eq]
  cases h : inR 0 6 a <;> simp
theorem areSt1_eq (x : S124) : impl_areStatements_1.f x.f0 x.f1.f0 x.f1.f1 x.f1.f2 x.f2 = some (!goodSt x) := by
  unfold impl_areStatements_1.f
  rw [isSt_eq]; rfl
theorem ixSt_l (xs : List S124) (hn : xs.length ≤ 1048576) : ∀ (d i : Nat), i + d = xs.length → ∃ r : Int, Ev (fun k => slices_IndexFunc_169_at_153.l0 k xs (xs.length : Int) (i : Int)) r ∧ -1 ≤ r ∧ r < (xs.length : Int) ∧ (r ≥ 0 ↔ (xs.drop i).any (fun x => !goodSt x) = true) := by
  intro d
  induction d with
  | zero =>
    intro i hi
    refine ⟨-1, eround (fun k => by rw [slices_IndexFunc_169_at_153.l0]) (eneg (by omega) (enow rfl)), by omega, by omega, ?_⟩
    rw [List.drop_eq_nil_of_le (by omega)]; simp
  | succ d ih =>
    intro i hi
    have hlt : i < xs.length := by omega
    obtain ⟨r, h1, h2, h2', h3⟩ := ih (i + 1) (by omega)
    rw [List.drop_eq_getElem_cons hlt, List.any_cons]
    cases h : (fun x : S124 => !goodSt x) xs[i] with
    | true =>
      refine ⟨(i : Int), eround (fun k => by rw [slices_IndexFunc_169_at_153.l0]) (epos (by omega) (epos (by omega) (epos (by omega) ?_))), by omega, by omega, ⟨fun _ => by rw [show (!goodSt xs[i]) = true from h]; rfl, fun _ => by omega⟩⟩
      rw [show rd_T124 xs (i : Int) = xs[i] from getD_get xs i _ hlt]
      exact enb (areSt1_eq _) (epos h (enow rfl))
    | false =>
      refine ⟨r, eround (fun k => by rw [slices_IndexFunc_169_at_153.l0]) (epos (by omega) (epos (by omega) (epos (by omega) ?_))), h2, h2', by rw [show (!goodSt xs[i]) = false from h, Bool.false_or]; exact h3⟩
      rw [show rd_T124 xs (i : Int) = xs[i] from getD_get xs i _ hlt]
      refine enb (areSt1_eq _) (eneg (by rw [show (!goodSt xs[i]) = false from h]; decide) ?_)
      rw [w64 (by omega) (by omega)]
      exact h1
theorem ixSt_e (xs : List S124) (hn : xs.length ≤ 1048576) : ∃ r : Int, Ev (fun k => slices_IndexFunc_169_at_153.f k xs) r ∧ -1 ≤ r ∧ r < (xs.length : Int) ∧ (r ≥ 0 ↔ xs.any (fun x => !goodSt x) = true) := ixSt_l xs hn xs.length 0 (by omega)
theorem implG12_e (xs : List S124) (hn : xs.length ≤ 1048576) : Ev (fun k => impl_areStatements.f k xs) (goodSts xs) := by
  unfold impl_areStatements.f goodSts
  by_cases h : (xs.length : Int) ≤ 60
  · obtain ⟨r, h1, _, _, h3⟩ := ixSt_e xs hn
    refine epos h (ebind (f := fun _ t => some (!t)) (a := decide (r ≥ 0)) ?_ (enow ?_))
    · exact ebind (f := fun _ t => some (decide (t ≥ 0))) h1 (enow rfl)
    · rw [decide_eq_true h, Bool.and_true]
      cases ha : xs.all goodSt with
      | true =>
        have : ¬ r ≥ 0 := by
          rw [h3, List.any_eq_true]
          rintro ⟨x, hx, hx'⟩
          have := List.all_eq_true.1 ha x hx
          simp [this] at hx'
        simp [this]
      | false =>
        have : r ≥ 0 := by
          rw [h3, List.any_eq_true]
          rw [List.all_eq_false] at ha
          obtain ⟨x, hx, hx'⟩ := ha
          exact ⟨x, hx, by simpa using hx'⟩
        simp [this]
  · exact eneg h (enow (by simp [h]))
def hasS (xs : List S124) (h a b c : Int) (f : Bool) : Bool := xs.any (fun x => h == x.f0 && ((a == x.f1.f0 && (b == x.f1.f1 && (c == x.f1.f2))) && (f == x.f2)))
theorem ixS_l (xs : List S124) (h a b c : Int) (f : Bool) (hn : xs.length ≤ 4194304) : ∀ (d i : Nat), i + d = xs.length → ∃ r : Int, Ev (fun k => impl_Statement_157.l0 k xs (xs.length : Int) (i : Int) h a b c f) r ∧ (r ≥ 0 ↔ hasS (xs.drop i) h a b c f = true) := by
  intro d
  induction d with
  | zero =>
    intro i hi
    refine ⟨-1, eround (fun k => by rw [impl_Statement_157.l0]) (eneg (by omega) (enow rfl)), ?_⟩
    rw [List.drop_eq_nil_of_le (by omega)]; simp [hasS]
  | succ d ih =>
    intro i hi
    have hlt : i < xs.length := by omega
    obtain ⟨r, h1, h3⟩ := ih (i + 1) (by omega)
    unfold hasS at h3 ⊢
    rw [List.drop_eq_getElem_cons hlt, List.any_cons]
    cases e : (h == xs[i].f0 && ((a == xs[i].f1.f0 && (b == xs[i].f1.f1 && (c == xs[i].f1.f2))) && (f == xs[i].f2))) with
    | true =>
      refine ⟨(i : Int), eround (fun k => by rw [impl_Statement_157.l0]) (epos (by omega) (epos (by omega) (epos (by omega) ?_))), by simp⟩
      rw [show rd_T124 xs (i : Int) = xs[i] from getD_get xs i _ hlt]
      exact epos e (enow rfl)
    | false =>
      refine ⟨r, eround (fun k => by rw [impl_Statement_157.l0]) (epos (by omega) (epos (by omega) (epos (by omega) ?_))), by rw [Bool.false_or]; exact h3⟩
      rw [show rd_T124 xs (i : Int) = xs[i] from getD_get xs i _ hlt]
      refine eneg (by rw [e]; decide) ?_
      rw [w64 (by omega) (by omega)]
      exact h1
theorem coS_e' (xs : List S124) (h a b c : Int) (f : Bool) (hn : xs.length ≤ 4194304) : Ev (fun k => impl_Statement_115.f k xs h a b c f) (hasS xs h a b c f) := by
  obtain ⟨r, h1, h3⟩ := ixS_l xs h a b c f hn xs.length 0 (by omega)
  refine ebind (f := fun _ t => some (decide (t ≥ 0))) h1 (enow ?_)
  rw [List.drop_zero] at h3
  cases e : hasS xs h a b c f with
  | true => rw [e] at h3; simpa using h3
  | false => rw [e] at h3; simpa using h3
theorem coS_e (xs : List S124) (h a b c : Int) (f : Bool) (hn : xs.length ≤ 1048576) : Ev (fun k => impl_Statement_115.f k xs h a b c f) (hasS xs h a b c f) := coS_e' xs h a b c f (by omega)
theorem hasS_cons (x : S124) (xs : List S124) (h a b c : Int) (f : Bool) : hasS (x :: xs) h a b c f = ((h == x.f0 && ((a == x.f1.f0 && (b == x.f1.f1 && (c == x.f1.f2))) && (f == x.f2))) || hasS xs h a b c f) := rfl
def fin60 (l : List S124) : List S124 × Bool := if (l.length : Int) > 60 then ([], false) else (l, true)
def mgF (xs : List S124) : List S124 → List S124
  | [] => xs
  | y :: ys => mgF (if hasS xs y.f0 y.f1.f0 y.f1.f1 y.f1.f2 y.f2 = true then xs else xs ++ [y]) ys
theorem mgF_len : ∀ (ys xs : List S124), (mgF xs ys).length ≤ xs.length + ys.length
  | [], _ => by simp [mgF]
  | y :: ys, xs => by
    have := mgF_len ys (if hasS xs y.f0 y.f1.f0 y.f1.f1 y.f1.f2 y.f2 = true then xs else xs ++ [y])
    simp only [mgF, List.length_cons]
    split at this <;> simp_all <;> omega
def mgR (xs ys : List S124) : List S124 × Bool := if goodSts xs && goodSts ys then fin60 (mgF xs ys) else ([], false)
theorem mgR_len (xs ys : List S124) : (mgR xs ys).1.length ≤ 60 := by
  unfold mgR
  split
  · unfold fin60; split <;> simp <;> omega
  · simp
theorem flip (x : S124) (h a b c : Int) (f : Bool) : (x.f0 == h && ((x.f1.f0 == a && (x.f1.f1 == b && (x.f1.f2 == c))) && (x.f2 == f))) = (h == x.f0 && ((a == x.f1.f0 && (b == x.f1.f1 && (c == x.f1.f2))) && (f == x.f2))) := by
  rw [BEq.comm (a := x.f0), BEq.comm (a := x.f1.f0), BEq.comm (a := x.f1.f1), BEq.comm (a := x.f1.f2), BEq.comm (a := x.f2)]
theorem specM_l1 (ys : List S124) (hm : ys.length ≤ 1048576) (xs : List S124) (hn : xs.length ≤ 4194304) (j : Nat) (h a b c : Int) (f : Bool) (R : List S124 × Bool)
    (H : Ev (fun k => spec_MergeStatements.l0 k (if hasS xs h a b c f = true then xs else xs ++ [(⟨h, ⟨a, b, c⟩, f⟩ : S124)]) ys (ys.length : Int) (wrap64 ((j : Int) + 1))) R) :
    ∀ (d i : Nat) (y : Bool), i + d = xs.length → (y || hasS (xs.drop i) h a b c f) = hasS xs h a b c f → Ev (fun k => spec_MergeStatements.l1 k xs y ys (ys.length : Int) (j : Int) (xs.length : Int) (i : Int) h a b c f) R := by
  intro d
  induction d with
  | zero =>
    intro i y hi hy
    rw [List.drop_eq_nil_of_le (by omega)] at hy
    have hy' : y = hasS xs h a b c f := by simpa [hasS] using hy
    refine eround (fun k => by rw [spec_MergeStatements.l1]) (eneg (by omega) ?_)
    rw [hy']
    cases h1 : hasS xs h a b c f with
    | true => refine epos rfl ?_; simpa [h1] using H
    | false => refine eneg (by decide) (epos (by omega) ?_); simpa [h1] using H
  | succ d ih =>
    intro i y hi hy
    have hlt : i < xs.length := by omega
    rw [List.drop_eq_getElem_cons hlt, hasS_cons] at hy
    refine eround (fun k => by rw [spec_MergeStatements.l1]) (epos (by omega) (epos (by omega) (epos (by omega) ?_)))
    rw [show rd_T124 xs (i : Int) = xs[i] from getD_get xs i _ hlt, w64 (x := (i : Int) + 1) (by omega) (by omega), flip]
    cases y with
    | true => exact epos rfl (ih (i + 1) true (by omega) (by simpa using hy))
    | false => exact eneg (by decide) (ih (i + 1) _ (by omega) (by simpa using hy))
theorem mg_step {c : Prop} [Decidable c] (xs : List S124) (y : S124) {j : Nat} (h : xs.length ≤ 1048576 + j) (_ : Nat) : (if c then xs else xs ++ [y]).length ≤ 1048576 + (j + 1) := by
  split
  · omega
  · simp; omega
theorem specM_l (ys : List S124) (hm : ys.length ≤ 1048576) : ∀ (d j : Nat) (xs : List S124), j + d = ys.length → xs.length ≤ 1048576 + j → Ev (fun k => spec_MergeStatements.l0 k xs ys (ys.length : Int) (j : Int)) (fin60 (mgF xs (ys.drop j))) := by
  intro d
  induction d with
  | zero =>
    intro j xs hj hx
    refine eround (fun k => by rw [spec_MergeStatements.l0]) (eneg (by omega) ?_)
    rw [List.drop_eq_nil_of_le (by omega)]
    rw [show mgF xs [] = xs from rfl]
    unfold fin60
    by_cases h : (xs.length : Int) > 60
    · exact epos h (enow (by simp [h]))
    · exact eneg h (enow (by simp [h]))
  | succ d ih =>
    intro j xs hj hx
    have hlt : j < ys.length := by omega
    refine eround (fun k => by rw [spec_MergeStatements.l0]) (epos (by omega) (epos (by omega) (epos (by omega) ?_)))
    rw [show rd_T124 ys (j : Int) = ys[j] from getD_get ys j _ hlt, List.drop_eq_getElem_cons hlt]
    refine specM_l1 ys hm xs (by omega) j _ _ _ _ _ _ ?_ xs.length 0 false (by omega) (by simp)
    rw [w64 (by omega) (by omega)]
    rw [mgF]
    have := ih (j + 1) (if hasS xs ys[j].f0 ys[j].f1.f0 ys[j].f1.f1 ys[j].f1.f2 ys[j].f2 = true then xs else xs ++ [ys[j]]) (by omega) (mg_step _ _ hx j)
    exact this
theorem implM_l (ys : List S124) (hm : ys.length ≤ 1048576) : ∀ (d j : Nat) (xs : List S124), j + d = ys.length → xs.length ≤ 1048576 + j → Ev (fun k => impl_MergeStatements.l0 k xs ys (ys.length : Int) (j : Int)) (fin60 (mgF xs (ys.drop j))) := by
  intro d
  induction d with
  | zero =>
    intro j xs hj hx
    refine eround (fun k => by rw [impl_MergeStatements.l0]) (eneg (by omega) ?_)
    rw [List.drop_eq_nil_of_le (by omega)]
    rw [show mgF xs [] = xs from rfl]
    unfold fin60
    by_cases h : (xs.length : Int) > 60
    · exact epos h (enow (by simp [h]))
    · exact eneg h (enow (by simp [h]))
  | succ d ih =>
    intro j xs hj hx
    have hlt : j < ys.length := by omega
    refine eround (fun k => by rw [impl_MergeStatements.l0]) (epos (by omega) (epos (by omega) (epos (by omega) ?_)))
    rw [show rd_T124 ys (j : Int) = ys[j] from getD_get ys j _ hlt, List.drop_eq_getElem_cons hlt]
    refine ebind (coS_e' xs _ _ _ _ _ (by omega)) ?_
    rw [w64 (by omega) (by omega)]
    rw [mgF]
    have := ih (j + 1) (if hasS xs ys[j].f0 ys[j].f1.f0 ys[j].f1.f1 ys[j].f1.f2 ys[j].f2 = true then xs else xs ++ [ys[j]]) (by omega) (mg_step _ _ hx j)
    cases h : hasS xs ys[j].f0 ys[j].f1.f0 ys[j].f1.f1 ys[j].f1.f2 ys[j].f2 with
    | true => refine epos rfl ?_; simpa [h] using this
    | false => refine eneg (by decide) (epos (by omega) ?_); simpa [h] using this
theorem specM_e (xs ys : List S124) (hn : xs.length ≤ 1048576) (hm : ys.length ≤ 1048576) : Ev (fun k => spec_MergeStatements.f k xs ys) (mgR xs ys) := by
  unfold spec_MergeStatements.f mgR
  refine ebind (specG12_e xs hn) ?_
  cases h1 : goodSts xs with
  | false => exact eneg (by decide) (eround (fun k => by rw [spec_MergeStatements.j0]) (epos rfl (enow (by simp))))
  | true =>
    refine epos rfl (ebind (specG12_e ys hm) (eround (fun k => by rw [spec_MergeStatements.j0]) ?_))
    cases h2 : goodSts ys with
    | false => exact epos rfl (enow (by simp))
    | true =>
      refine eneg (by decide) (enb rfl ?_)
      simp only [List.nil_append, List.length_nil, Nat.zero_add]
      exact epos (by omega) (by simpa using specM_l ys hm ys.length 0 xs (by omega) (by omega))
theorem implM_e (xs ys : List S124) (hn : xs.length ≤ 1048576) (hm : ys.length ≤ 1048576) : Ev (fun k => impl_MergeStatements.f k xs ys) (mgR xs ys) := by
  unfold impl_MergeStatements.f mgR
  refine ebind (implG12_e xs hn) ?_
  cases h1 : goodSts xs with
  | false => exact eneg (by decide) (eround (fun k => by rw [impl_MergeStatements.j0]) (epos rfl (enow (by simp))))
  | true =>
    refine epos rfl (ebind (implG12_e ys hm) (eround (fun k => by rw [impl_MergeStatements.j0]) ?_))
    cases h2 : goodSts ys with
    | false => exact epos rfl (enow (by simp))
    | true =>
      refine eneg (by decide) (enb (a := xs) ?_ ?_)
      · unfold impl_Statement_114.f
        simp only [List.nil_append, List.length_nil, Nat.zero_add, Option.bind_some]
        rw [if_pos (by omega)]
      · simpa using implM_l ys hm ys.length 0 xs (by omega) (by omega)
theorem FnExactMergeStatements : laws_FnExactMergeStatements.Pure := by
  intro l m h g
  apply Ev.rounds
  unfold laws_FnExactMergeStatements.f
  obtain ⟨r, q1, r2, r3⟩ := laws_szStatementS_z l 1048576 (by omega) (by omega) (by have := h.1; unfold maxLen at this; omega)
  refine enb r2 ?_
  by_cases hr : r < 0
  · exact epos hr (enow rfl)
  refine eneg hr ?_
  have hl := r3 (by omega)
  obtain ⟨s, q2, s2, s3⟩ := laws_szStatementS_z m r (by omega) (by omega) (by have := g.1; unfold maxLen at this; omega)
  refine enb s2 ?_
  by_cases hs : s < 0
  · exact epos hs (enow rfl)
  refine eneg hs ?_
  have hm := s3 (by omega)
  have e1 := laws_toStatementS_e l hl
  generalize hx : (l.map fun x => (⟨x.f0, (⟨x.f1.f0, x.f1.f1, x.f1.f2⟩ : S30), x.f2⟩ : S124)) = xs at e1
  have hxl : xs.length ≤ 1048576 := by rw [← hx]; simpa using hl
  have e2 := laws_toStatementS_e m hm
  generalize hy : (m.map fun x => (⟨x.f0, (⟨x.f1.f0, x.f1.f1, x.f1.f2⟩ : S30), x.f2⟩ : S124)) = ys at e2
  have hyl : ys.length ≤ 1048576 := by rw [← hy]; simpa using hm
  have e3 := specM_e xs ys hxl hyl
  have e4 := implM_e xs ys hxl hyl
  have hR : (mgR xs ys).1.length ≤ 1048576 := Nat.le_trans (mgR_len xs ys) (by omega)
  have e5 := laws_eqStatementS_r _ hR
  have e6 := laws_eqStatementS_r xs hxl
  have e7 := laws_eqStatementS_r ys hyl
  obtain ⟨_, _, p1, _⟩ := laws_markStatementS_m xs 1 hxl (by omega) (by omega)
  obtain ⟨_, _, p2, _⟩ := laws_markStatementS_m ys (1 + 5 * xs.length) hyl (by omega) (by omega)
  obtain ⟨_, _, p3, p4⟩ := laws_markStatementS_m (mgR xs ys).1 1 hR (by omega) (by omega)
  repeat' first
    | exact enow rfl
    | (with_reducible refine ebind e1 ?_)
    | (with_reducible refine ebind e2 ?_)
    | (with_reducible refine ebind e3 ?_)
    | (with_reducible refine ebind e4 ?_)
    | (with_reducible refine ebind e5 ?_)
    | (with_reducible refine ebind e6 ?_)
    | (with_reducible refine ebind e7 ?_)
    | (with_reducible refine ebind p1 ?_)
    | (with_reducible refine ebind p2 ?_)
    | (with_reducible refine ebind p3 ?_)
    | (with_reducible refine ebind p4 ?_)
    | (with_reducible refine enb (laws_toClaim_e _ _ _) ?_)
    | (with_reducible refine enb (laws_toStatement_e _ _ _ _ _) ?_)
    | (with_reducible refine eround (fun k => laws_FnExactMergeStatements.j0.eq_2 _ _ _ _ _ _ _ _ _ _) ?_)
    | (with_reducible refine eround (fun k => laws_FnExactMergeStatements.j1.eq_2 _ _ _ _ _ _ _) ?_)
    | (with_reducible refine eround (fun k => laws_FnExactMergeStatements.j2.eq_2 _ _ _ _) ?_)
    | (with_reducible refine enb rfl ?_)
    | (with_reducible refine epos rfl ?_)
    | (refine eneg ?_ ?_; focus (first | omega | (dsimp only; omega) | (simp; done) | (simp; omega)))

end Go.Proofs.Ytonejnaanklfjaa.Pure
