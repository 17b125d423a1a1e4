/- The law FnProved, told over lists: RunClaim, IsProved, RefusedBy answer alike on both sides for what is drawn, and what is proved of a run of a claim counts the witnesses who say that the hand refused. No condition. -/
import Derived.Test.YtonejnaanklfjaaQFnProvedx8
import Derived.Test.YtonejnaanklfjaaPk
namespace Go.Proofs.Ytonejnaanklfjaa.Pure
open Go.RowKit Go.Proofs.Ytonejnaanklfjaa.QFnProved Go.Proofs.YtonejnaanklfjaaW.PrintWords Go.Proofs.YtonejnaanklfjaaW.PrintLast Go.Proofs.YtonejnaanklfjaaW.PrintMore Go.Proofs.Ytonejnaanklfjaa
set_option linter.unusedVariables false
set_option linter.unusedSimpArgs false

open Pk

def inR (lo hi x : Int) : Bool := decide (x ≥ lo) && decide (x ≤ hi)
theorem inR_iff {lo hi x : Int} : inR lo hi x = true ↔ lo ≤ x ∧ x ≤ hi := by simp [inR]
theorem l1In_eq (a lo hi : Int) : spec_l1In.f a lo hi = some (inR lo hi a) := by
  unfold spec_l1In.f inR
  by_cases h : a ≥ lo <;> simp [h]
theorem within_eq (a lo hi : Int) : impl_within.f a lo hi = some (inR lo hi a) := by
  unfold impl_within.f inR
  by_cases h : a ≥ lo <;> simp [h]
def goodC (a b c : Int) : Bool := inR 0 20 a && (inR 0 1000 b && inR 0 100 c)
theorem specGC_eq (a b c : Int) : spec_GoodClaim.f a b c = some (goodC a b c) := by
  unfold spec_GoodClaim.f goodC
  rw [l1In_eq, l1In_eq, l1In_eq]
  cases h : inR 0 20 a <;> cases h1 : inR 0 1000 b <;> simp
theorem implGC_eq (a b c : Int) : impl_GoodClaim.f a b c = some (goodC a b c) := by
  unfold impl_GoodClaim.f impl_isLetterNumber.f goodC
  rw [within_eq, within_eq, within_eq]
  cases h : inR 0 20 a <;> cases h1 : inR 0 1000 b <;> simp
def goodSt (x : S124) : Bool := inR 0 6 x.f0 && goodC x.f1.f0 x.f1.f1 x.f1.f2
def goodSts (xs : List S124) : Bool := xs.all goodSt && decide ((xs.length : Int) ≤ 60)
theorem l12W_eq (a : Int) : spec_l12Witness.f a = some (inR 0 6 a) := by
  unfold spec_l12Witness.f
  rw [l1In_eq]; rfl
theorem specG12_l (xs : List S124) (hn : xs.length ≤ 1048576) : ∀ (d i : Nat), i + d = xs.length → Ev (fun k => spec_l12Good.l0 k xs xs (xs.length : Int) (i : Int)) ((xs.drop i).all goodSt && decide ((xs.length : Int) ≤ 60)) := by
  intro d
  induction d with
  | zero =>
    intro i hi
    refine eround (fun k => by rw [spec_l12Good.l0]) (eneg (by omega) (enow ?_))
    rw [List.drop_eq_nil_of_le (by omega)]; rfl
  | succ d ih =>
    intro i hi
    have hlt : i < xs.length := by omega
    refine eround (fun k => by rw [spec_l12Good.l0]) (epos (by omega) (epos (by omega) (epos (by omega) ?_)))
    rw [show rd_T124 xs (i : Int) = xs[i] from getD_get xs i _ hlt, List.drop_eq_getElem_cons hlt, List.all_cons]
    refine enb (l12W_eq _) ?_
    have hg : goodSt xs[i] = (inR 0 6 xs[i].f0 && goodC xs[i].f1.f0 xs[i].f1.f1 xs[i].f1.f2) := rfl
    cases h : inR 0 6 xs[i].f0 with
    | false => exact eneg (by simp) (enow (by simp [hg, h]))
    | true =>
      refine epos rfl (enb (specGC_eq _ _ _) ?_)
      cases h2 : goodC xs[i].f1.f0 xs[i].f1.f1 xs[i].f1.f2 with
      | false => exact eneg (by simp) (enow (by simp [hg, h2]))
      | true =>
        refine epos rfl ?_
        rw [w64 (by omega) (by omega), hg, h, h2]
        exact ih (i + 1) (by omega)
theorem specG12_e (xs : List S124) (hn : xs.length ≤ 1048576) : Ev (fun k => spec_l12Good.f k xs) (goodSts xs) := specG12_l xs hn xs.length 0 (by omega)
theorem isSt_eq (a b c d : Int) (e : Bool) : impl_isStatement.f a b c d e = some (inR 0 6 a && goodC b c d) := by
  unfold impl_isStatement.f
  rw [within_eq, implGC_eq]
  cases h : inR 0 6 a <;> simp
theorem areSt1_eq (x : S124) : impl_areStatements_1.f x.f0 x.f1.f0 x.f1.f1 x.f1.f2 x.f2 = some (!goodSt x) := by
  unfold impl_areStatements_1.f
  rw [isSt_eq]; rfl
theorem ixSt_l (xs : List S124) (hn : xs.length ≤ 1048576) : ∀ (d i : Nat), i + d = xs.length → ∃ r : Int, Ev (fun k => slices_IndexFunc_169_at_153.l0 k xs (xs.length : Int) (i : Int)) r ∧ -1 ≤ r ∧ r < (xs.length : Int) ∧ (r ≥ 0 ↔ (xs.drop i).any (fun x => !goodSt x) = true) := by
  intro d
  induction d with
  | zero =>
    intro i hi
    refine ⟨-1, eround (fun k => by rw [slices_IndexFunc_169_at_153.l0]) (eneg (by omega) (enow rfl)), by omega, by omega, ?_⟩
    rw [List.drop_eq_nil_of_le (by omega)]; simp
  | succ d ih =>
    intro i hi
    have hlt : i < xs.length := by omega
    obtain ⟨r, h1, h2, h2', h3⟩ := ih (i + 1) (by omega)
    rw [List.drop_eq_getElem_cons hlt, List.any_cons]
    cases h : (fun x : S124 => !goodSt x) xs[i] with
    | true =>
      refine ⟨(i : Int), eround (fun k => by rw [slices_IndexFunc_169_at_153.l0]) (epos (by omega) (epos (by omega) (epos (by omega) ?_))), by omega, by omega, ⟨fun _ => by rw [show (!goodSt xs[i]) = true from h]; rfl, fun _ => by omega⟩⟩
      rw [show rd_T124 xs (i : Int) = xs[i] from getD_get xs i _ hlt]
      exact enb (areSt1_eq _) (epos h (enow rfl))
    | false =>
      refine ⟨r, eround (fun k => by rw [slices_IndexFunc_169_at_153.l0]) (epos (by omega) (epos (by omega) (epos (by omega) ?_))), h2, h2', by rw [show (!goodSt xs[i]) = false from h, Bool.false_or]; exact h3⟩
      rw [show rd_T124 xs (i : Int) = xs[i] from getD_get xs i _ hlt]
      refine enb (areSt1_eq _) (eneg (by rw [show (!goodSt xs[i]) = false from h]; decide) ?_)
      rw [w64 (by omega) (by omega)]
      exact h1
theorem ixSt_e (xs : List S124) (hn : xs.length ≤ 1048576) : ∃ r : Int, Ev (fun k => slices_IndexFunc_169_at_153.f k xs) r ∧ -1 ≤ r ∧ r < (xs.length : Int) ∧ (r ≥ 0 ↔ xs.any (fun x => !goodSt x) = true) := ixSt_l xs hn xs.length 0 (by omega)
theorem implG12_e (xs : List S124) (hn : xs.length ≤ 1048576) : Ev (fun k => impl_areStatements.f k xs) (goodSts xs) := by
  unfold impl_areStatements.f goodSts
  by_cases h : (xs.length : Int) ≤ 60
  · obtain ⟨r, h1, _, _, h3⟩ := ixSt_e xs hn
    refine epos h (ebind (f := fun _ t => some (!t)) (a := decide (r ≥ 0)) ?_ (enow ?_))
    · exact ebind (f := fun _ t => some (decide (t ≥ 0))) h1 (enow rfl)
    · rw [decide_eq_true h, Bool.and_true]
      cases ha : xs.all goodSt with
      | true =>
        have : ¬ r ≥ 0 := by
          rw [h3, List.any_eq_true]
          rintro ⟨x, hx, hx'⟩
          have := List.all_eq_true.1 ha x hx
          simp [this] at hx'
        simp [this]
      | false =>
        have : r ≥ 0 := by
          rw [h3, List.any_eq_true]
          rw [List.all_eq_false] at ha
          obtain ⟨x, hx, hx'⟩ := ha
          exact ⟨x, hx, by simpa using hx'⟩
        simp [this]
  · exact eneg h (enow (by simp [h]))
def hasS (xs : List S124) (h a b c : Int) (f : Bool) : Bool := xs.any (fun x => h == x.f0 && ((a == x.f1.f0 && (b == x.f1.f1 && (c == x.f1.f2))) && (f == x.f2)))
theorem ixS_l (xs : List S124) (h a b c : Int) (f : Bool) (hn : xs.length ≤ 4194304) : ∀ (d i : Nat), i + d = xs.length → ∃ r : Int, Ev (fun k => impl_Statement_157.l0 k xs (xs.length : Int) (i : Int) h a b c f) r ∧ (r ≥ 0 ↔ hasS (xs.drop i) h a b c f = true) := by
  intro d
  induction d with
  | zero =>
    intro i hi
    refine ⟨-1, eround (fun k => by rw [impl_Statement_157.l0]) (eneg (by omega) (enow rfl)), ?_⟩
    rw [List.drop_eq_nil_of_le (by omega)]; simp [hasS]
  | succ d ih =>
    intro i hi
    have hlt : i < xs.length := by omega
    obtain ⟨r, h1, h3⟩ := ih (i + 1) (by omega)
    unfold hasS at h3 ⊢
    rw [List.drop_eq_getElem_cons hlt, List.any_cons]
    cases e : (h == xs[i].f0 && ((a == xs[i].f1.f0 && (b == xs[i].f1.f1 && (c == xs[i].f1.f2))) && (f == xs[i].f2))) with
    | true =>
      refine ⟨(i : Int), eround (fun k => by rw [impl_Statement_157.l0]) (epos (by omega) (epos (by omega) (epos (by omega) ?_))), by simp⟩
      rw [show rd_T124 xs (i : Int) = xs[i] from getD_get xs i _ hlt]
      exact epos e (enow rfl)
    | false =>
      refine ⟨r, eround (fun k => by rw [impl_Statement_157.l0]) (epos (by omega) (epos (by omega) (epos (by omega) ?_))), by rw [Bool.false_or]; exact h3⟩
      rw [show rd_T124 xs (i : Int) = xs[i] from getD_get xs i _ hlt]
      refine eneg (by rw [e]; decide) ?_
      rw [w64 (by omega) (by omega)]
      exact h1
theorem coS_e' (xs : List S124) (h a b c : Int) (f : Bool) (hn : xs.length ≤ 4194304) : Ev (fun k => impl_Statement_115.f k xs h a b c f) (hasS xs h a b c f) := by
  obtain ⟨r, h1, h3⟩ := ixS_l xs h a b c f hn xs.length 0 (by omega)
  refine ebind (f := fun _ t => some (decide (t ≥ 0))) h1 (enow ?_)
  rw [List.drop_zero] at h3
  cases e : hasS xs h a b c f with
  | true => rw [e] at h3; simpa using h3
  | false => rw [e] at h3; simpa using h3
theorem coS_e (xs : List S124) (h a b c : Int) (f : Bool) (hn : xs.length ≤ 1048576) : Ev (fun k => impl_Statement_115.f k xs h a b c f) (hasS xs h a b c f) := coS_e' xs h a b c f (by omega)
theorem hasS_cons (x : S124) (xs : List S124) (h a b c : Int) (f : Bool) : hasS (x :: xs) h a b c f = ((h == x.f0 && ((a == x.f1.f0 && (b == x.f1.f1 && (c == x.f1.f2))) && (f == x.f2))) || hasS xs h a b c f) := rfl
def refF (xs : List S124) (a b c : Int) : Nat → Nat → List Int
  | 0, _ => []
  | d + 1, i => (if hasS xs (i : Int) a b c true = true ∧ hasS xs (i : Int) a b c false = false then [(i : Int)] else []) ++ refF xs a b c d (i + 1)
theorem refF_len (xs : List S124) (a b c : Int) : ∀ d i, (refF xs a b c d i).length ≤ d
  | 0, _ => Nat.le_refl _
  | d + 1, i => by
    have := refF_len xs a b c d (i + 1)
    simp only [refF, List.length_append]
    split <;> simp <;> omega
theorem implRef_l (xs : List S124) (a b c : Int) (hn : xs.length ≤ 1048576) : ∀ (d i : Nat) (out : List Int), i + d = 7 → out.length ≤ i → Ev (fun k => impl_refusedBy.l0 k xs out (i : Int) a b c) (out ++ refF xs a b c d i) := by
  intro d
  induction d with
  | zero =>
    intro i out hi ho
    exact eround (fun k => by rw [impl_refusedBy.l0]) (eneg (by omega) (enow (by simp [refF])))
  | succ d ih =>
    intro i out hi ho
    refine eround (fun k => by rw [impl_refusedBy.l0]) (epos (by omega) (ebind (coS_e _ _ _ _ _ _ hn) ?_))
    rw [w64 (by omega) (by omega)]
    simp only [refF]
    cases h1 : hasS xs (i : Int) a b c true with
    | false =>
      refine eneg (by decide) ?_
      simpa using ih (i + 1) out (by omega) (by omega)
    | true =>
      refine epos rfl (ebind (coS_e _ _ _ _ _ _ hn) ?_)
      cases h2 : hasS xs (i : Int) a b c false with
      | true =>
        refine epos rfl ?_
        simpa using ih (i + 1) out (by omega) (by omega)
      | false =>
        refine eneg (by decide) (epos (by omega) ?_)
        have := ih (i + 1) (out ++ [(i : Int)]) (by omega) (by simp; omega)
        rw [List.append_assoc] at this
        simpa using this
theorem implRef_e (xs : List S124) (a b c : Int) (hn : xs.length ≤ 1048576) : Ev (fun k => impl_refusedBy.f k xs a b c) (refF xs a b c 7 0) := implRef_l xs a b c hn 7 0 [] (by omega) (by simp)
theorem specRef_l1 (xs : List S124) (a b c : Int) (hn : xs.length ≤ 1048576) (out : List Int) (w : Nat) (hw : w < 7) (ho : out.length ≤ w) (R : List Int)
    (H : Ev (fun k => spec_l12Refused.l0 k xs (out ++ if hasS xs (w : Int) a b c true = true ∧ hasS xs (w : Int) a b c false = false then [(w : Int)] else []) ((w + 1 : Nat) : Int) a b c) R) :
    ∀ (d i : Nat) (y n : Bool), i + d = xs.length → (y || hasS (xs.drop i) (w : Int) a b c true) = hasS xs (w : Int) a b c true → (n || hasS (xs.drop i) (w : Int) a b c false) = hasS xs (w : Int) a b c false → Ev (fun k => spec_l12Refused.l1 k xs out (w : Int) y n xs (xs.length : Int) (i : Int) a b c) R := by
  intro d
  induction d with
  | zero =>
    intro i y n hi hy hx
    rw [List.drop_eq_nil_of_le (by omega)] at hy hx
    have hy' : y = hasS xs (w : Int) a b c true := by simpa [hasS] using hy
    have hx' : n = hasS xs (w : Int) a b c false := by simpa [hasS] using hx
    refine eround (fun k => by rw [spec_l12Refused.l1]) (eneg (by omega) ?_)
    rw [w64 (by omega) (by omega), hy', hx']
    cases h1 : hasS xs (w : Int) a b c true with
    | false => refine eneg (by decide) ?_; simpa [h1] using H
    | true =>
      refine epos rfl ?_
      cases h2 : hasS xs (w : Int) a b c false with
      | true => refine epos rfl ?_; simpa [h1, h2] using H
      | false => refine eneg (by decide) (epos (by omega) ?_); simpa [h1, h2] using H
  | succ d ih =>
    intro i y n hi hy hx
    have hlt : i < xs.length := by omega
    rw [List.drop_eq_getElem_cons hlt, hasS_cons] at hy hx
    refine eround (fun k => by rw [spec_l12Refused.l1]) (epos (by omega) (epos (by omega) (epos (by omega) ?_)))
    rw [show rd_T124 xs (i : Int) = xs[i] from getD_get xs i _ hlt, w64 (by omega) (by omega)]
    by_cases e1 : xs[i].f0 = (w : Int)
    · refine epos e1 ?_
      cases e2 : ((xs[i].f1.f0 == a) && ((xs[i].f1.f1 == b) && (xs[i].f1.f2 == c))) with
      | false =>
        refine eneg (by decide) ?_
        refine ih (i + 1) y n (by omega) ?_ ?_
        · rw [← hy]; congr 1
          have : ((w : Int) == xs[i].f0 && ((a == xs[i].f1.f0 && (b == xs[i].f1.f1 && (c == xs[i].f1.f2))) && (true == xs[i].f2))) = false := by
            rw [Bool.eq_false_iff] at e2 ⊢; intro e; apply e2; simp only [Bool.and_eq_true, beq_iff_eq] at e ⊢; exact ⟨e.2.1.1.symm, e.2.1.2.1.symm, e.2.1.2.2.symm⟩
          rw [this]; rfl
        · rw [← hx]; congr 1
          have : ((w : Int) == xs[i].f0 && ((a == xs[i].f1.f0 && (b == xs[i].f1.f1 && (c == xs[i].f1.f2))) && (false == xs[i].f2))) = false := by
            rw [Bool.eq_false_iff] at e2 ⊢; intro e; apply e2; simp only [Bool.and_eq_true, beq_iff_eq] at e ⊢; exact ⟨e.2.1.1.symm, e.2.1.2.1.symm, e.2.1.2.2.symm⟩
          rw [this]; rfl
      | true =>
        refine epos rfl ?_
        simp only [Bool.and_eq_true, beq_iff_eq] at e2
        have E : ∀ f : Bool, ((w : Int) == xs[i].f0 && ((a == xs[i].f1.f0 && (b == xs[i].f1.f1 && (c == xs[i].f1.f2))) && (f == xs[i].f2))) = (f == xs[i].f2) := by
          intro f; simp [e1, e2.1, e2.2.1, e2.2.2]
        rw [E] at hy hx
        cases y <;> cases n <;> cases hf : xs[i].f2 <;> simp only [hf] at hy hx ⊢ <;> refine ih (i + 1) _ _ (by omega) (by simpa using hy) (by simpa using hx)
    · refine eneg e1 (ih (i + 1) y n (by omega) ?_ ?_)
      · rw [← hy]; congr 1
        have : ((w : Int) == xs[i].f0) = false := by simpa using fun e => e1 e.symm
        rw [this]; rfl
      · rw [← hx]; congr 1
        have : ((w : Int) == xs[i].f0) = false := by simpa using fun e => e1 e.symm
        rw [this]; rfl
theorem specRef_l (xs : List S124) (a b c : Int) (hn : xs.length ≤ 1048576) : ∀ (d i : Nat) (out : List Int), i + d = 7 → out.length ≤ i → Ev (fun k => spec_l12Refused.l0 k xs out (i : Int) a b c) (out ++ refF xs a b c d i) := by
  intro d
  induction d with
  | zero =>
    intro i out hi ho
    exact eround (fun k => by rw [spec_l12Refused.l0]) (eneg (by omega) (enow (by simp [refF])))
  | succ d ih =>
    intro i out hi ho
    refine eround (fun k => by rw [spec_l12Refused.l0]) (epos (by omega) ?_)
    refine specRef_l1 xs a b c hn out i (by omega) ho _ ?_ xs.length 0 false false (by omega) (by simp) (by simp)
    simp only [refF]
    rw [← List.append_assoc]
    refine ih (i + 1) _ (by omega) ?_
    rw [List.length_append]
    split <;> simp <;> omega
theorem specRef_e (xs : List S124) (a b c : Int) (hn : xs.length ≤ 1048576) : Ev (fun k => spec_l12Refused.f k xs a b c) (refF xs a b c 7 0) := specRef_l xs a b c hn 7 0 [] (by omega) (by simp)
def provR (fa : Int) (xs : List S124) (a b c : Int) : Bool × Bool := if goodSts xs && goodC a b c && inR 0 2 fa then (decide (((refF xs a b c 7 0).length : Int) > fa), true) else (false, false)
theorem specP_e (fa : Int) (xs : List S124) (a b c : Int) (hn : xs.length ≤ 1048576) : Ev (fun k => spec_IsProved.f k fa xs a b c) (provR fa xs a b c) := by
  unfold spec_IsProved.f provR
  refine ebind (specG12_e xs hn) ?_
  cases h1 : goodSts xs with
  | false => exact eneg (by decide) (enow (by simp))
  | true =>
    refine epos rfl (enb (specGC_eq _ _ _) ?_)
    cases h2 : goodC a b c with
    | false => exact eneg (by decide) (enow (by simp))
    | true =>
      refine epos rfl (enb (l1In_eq _ _ _) ?_)
      cases h3 : inR 0 2 fa with
      | false => exact eneg (by decide) (enow (by simp))
      | true => exact epos rfl (ebind (specRef_e xs a b c hn) (enow (by simp)))
theorem implP_e (fa : Int) (xs : List S124) (a b c : Int) (hn : xs.length ≤ 1048576) : Ev (fun k => impl_IsProved.f k fa xs a b c) (provR fa xs a b c) := by
  unfold impl_IsProved.f provR
  refine enb (a := inR 0 2 fa) (by unfold impl_areFaults.f; rw [within_eq]; rfl) ?_
  cases h3 : inR 0 2 fa with
  | false => exact eneg (by decide) (enow (by simp))
  | true =>
    refine epos rfl (ebind (implG12_e xs hn) ?_)
    cases h1 : goodSts xs with
    | false => exact eneg (by decide) (enow (by simp))
    | true =>
      refine epos rfl (enb (implGC_eq _ _ _) ?_)
      cases h2 : goodC a b c with
      | false => exact eneg (by decide) (enow (by simp))
      | true => exact epos rfl (ebind (implRef_e xs a b c hn) (enow (by simp)))
def rbR (xs : List S124) (a b c : Int) : List Int × Bool := if goodSts xs && goodC a b c then (refF xs a b c 7 0, true) else ([], false)
theorem specRB_e (xs : List S124) (a b c : Int) (hn : xs.length ≤ 1048576) : Ev (fun k => spec_RefusedBy.f k xs a b c) (rbR xs a b c) := by
  unfold spec_RefusedBy.f rbR
  refine ebind (specG12_e xs hn) ?_
  cases h1 : goodSts xs with
  | false => exact eneg (by decide) (enow (by simp))
  | true =>
    refine epos rfl (enb (specGC_eq _ _ _) ?_)
    cases h2 : goodC a b c with
    | false => exact eneg (by decide) (enow (by simp))
    | true => exact epos rfl (ebind (specRef_e xs a b c hn) (enow (by simp)))
theorem implRB_e (xs : List S124) (a b c : Int) (hn : xs.length ≤ 1048576) : Ev (fun k => impl_RefusedBy.f k xs a b c) (rbR xs a b c) := by
  unfold impl_RefusedBy.f rbR
  refine ebind (implG12_e xs hn) ?_
  cases h1 : goodSts xs with
  | false => exact eneg (by decide) (enow (by simp))
  | true =>
    refine epos rfl (enb (implGC_eq _ _ _) ?_)
    cases h2 : goodC a b c with
    | false => exact eneg (by decide) (enow (by simp))
    | true => exact epos rfl (ebind (implRef_e xs a b c hn) (enow (by simp)))
theorem rbR_len (xs : List S124) (a b c : Int) : (rbR xs a b c).1.length ≤ 7 := by
  unfold rbR; split
  · exact refF_len xs a b c 7 0
  · simp
/-! the cursor of what is drawn -/
def bytes (s : List Int) : Prop := ∀ x ∈ s, 0 ≤ x ∧ x ≤ 255
theorem bytes_of {s : List Int} (h : ∀ x ∈ s, (Lit.int .u8 x).wf = true) : bytes s := by
  intro x hx
  have := h x hx
  simp [Lit.wf, IntKind.min, IntKind.max, IntKind.bits, IntKind.signed] at this
  omega
theorem u64_range (y : Int) : 0 ≤ IntKind.u64.wrap y ∧ IntKind.u64.wrap y < 18446744073709551616 := by
  simp only [IntKind.wrap, IntKind.bits, IntKind.signed]
  constructor
  · simp; omega
  · simp; omega
theorem wraps_u64 (n : Int) (h0 : 0 ≤ n) (h1 : n < 2 ^ 62) : IntKind.u64.wrap n = n := by
  have : (2 : Int) ^ 62 = 4611686018427387904 := by decide
  exact u64_wrap_small n h0 (by omega)
theorem and255 (x : Int) (h0 : 0 ≤ x) (h1 : x < 4611686018427387904) : 0 ≤ Go.bits .and .u64 x 255 ∧ Go.bits .and .u64 x 255 ≤ 255 := by
  obtain ⟨a, rfl⟩ := Int.eq_ofNat_of_zero_le h0
  have ha : a < 2 ^ 62 := by have : (2 : Nat) ^ 62 = 4611686018427387904 := by decide
                             omega
  have := (bits_nat .u64 62 (by decide) wraps_u64 a 255 ha (by decide)).1
  rw [show ((255 : Nat) : Int) = 255 from rfl] at this
  rw [this]
  have : a &&& 255 ≤ 255 := Nat.and_le_right
  omega
theorem and_u64 (y : Int) : 0 ≤ wrap64 (Go.bits .and .u64 (IntKind.u64.wrap y / 1099511627776) 255) ∧ wrap64 (Go.bits .and .u64 (IntKind.u64.wrap y / 1099511627776) 255) ≤ 255 := by
  have r := u64_range y
  have := and255 (IntKind.u64.wrap y / 1099511627776) (by omega) (by omega)
  rw [w64 (by omega) (by omega)]
  exact this
theorem bytes_rd {s : List Int} (hb : bytes s) (p : Int) (h0 : 0 ≤ p) (h1 : p < s.length) : 0 ≤ rd s p ∧ rd s p ≤ 255 := by
  obtain ⟨i, rfl⟩ := Int.eq_ofNat_of_zero_le h0
  rw [rd_get s i (by omega)]
  exact hb _ (List.getElem_mem _)
theorem next_e (s : List Int) (hb : bytes s) (p x : Int) (h0 : 0 ≤ p) (h1 : p ≤ 1152921504606846976) : ∃ v x', spec_l1Cur_next.f s p x = some (v, p + 1, x') ∧ 0 ≤ v ∧ v ≤ 255 := by
  unfold spec_l1Cur_next.f
  rw [w64 (x := p + 1) (by omega) (by omega)]
  by_cases h : p < (s.length : Int)
  · have := bytes_rd hb p h0 h
    rw [w64 (x := rd s p) (by omega) (by omega), if_pos h, if_pos h0, if_pos (by omega)]
    exact ⟨_, _, rfl, this⟩
  · rw [if_neg h, if_neg (by omega)]
    exact ⟨_, _, rfl, and_u64 _⟩
theorem tmod_range (v n : Int) (h0 : 0 ≤ v) (h : 1 < n) : 0 ≤ Int.tmod v n ∧ Int.tmod v n < n := by
  rw [Int.tmod_eq_emod_of_nonneg h0]
  exact ⟨Int.emod_nonneg _ (by omega), Int.emod_lt_of_pos _ (by omega)⟩
theorem pick_e (s : List Int) (hb : bytes s) (p x n : Int) (h0 : 0 ≤ p) (h1 : p ≤ 1152921504606846900) : ∃ r p' x', spec_l1Cur_pick.f s p x n = some (r, p', x') ∧ (0 ≤ r ∧ (n ≤ 1 → r = 0) ∧ (1 < n → r < n)) ∧ p ≤ p' ∧ p' ≤ p + 2 := by
  unfold spec_l1Cur_pick.f
  by_cases hn : n ≤ 1
  · exact ⟨0, p, x, by rw [if_pos hn], ⟨by omega, fun _ => rfl, fun h => by omega⟩, by omega, by omega⟩
  · rw [if_neg hn]
    obtain ⟨v, x', e, v0, v1⟩ := next_e s hb p x h0 (by omega)
    rw [e, Option.bind_some]
    by_cases h2 : n > 200
    · obtain ⟨u, x'', e', u0, u1⟩ := next_e s hb (p + 1) x' (by omega) (by omega)
      rw [if_pos h2]
      simp only [e', Option.bind_some]
      rw [if_neg (by omega), w64 (x := v * 256) (by omega) (by omega), w64 (by omega) (by omega)]
      have := tmod_range (v * 256 + u) n (by omega) (by omega)
      exact ⟨_, _, _, rfl, ⟨this.1, fun h => by omega, fun _ => this.2⟩, by omega, by omega⟩
    · rw [if_neg h2, if_neg (by omega)]
      have := tmod_range v n v0 (by omega)
      exact ⟨_, p + 1, x', rfl, ⟨this.1, fun h => by omega, fun _ => this.2⟩, by omega, by omega⟩
theorem one_e (s : List Int) (hb : bytes s) (p x n : Int) (h0 : 0 ≤ p) (h1 : p ≤ 1152921504606846900) : ∃ b p' x', spec_l1Cur_one.f s p x n = some (b, p', x') ∧ p ≤ p' ∧ p' ≤ p + 2 := by
  obtain ⟨r, p', x', e, _, h2, h3⟩ := pick_e s hb p x n h0 h1
  exact ⟨r == 0, p', x', by unfold spec_l1Cur_one.f; simp only [e, Option.bind_some], h2, h3⟩
theorem among_e (s : List Int) (hb : bytes s) (p x : Int) (l : List Int) (hl : 1 ≤ l.length) (h0 : 0 ≤ p) (h1 : p ≤ 1152921504606846900) : ∃ v p' x', spec_l1Cur_among.f s p x l = some (v, p', x') ∧ v ∈ l ∧ p ≤ p' ∧ p' ≤ p + 2 := by
  obtain ⟨r, p', x', e, ⟨r0, r1, r2⟩, h2, h3⟩ := pick_e s hb p x (l.length : Int) h0 h1
  have hr : r < (l.length : Int) := by
    by_cases h : 1 < (l.length : Int)
    · exact r2 h
    · have := r1 (by omega); omega
  refine ⟨rd l r, p', x', ?_, ?_, h2, h3⟩
  · unfold spec_l1Cur_among.f
    simp only [e, Option.bind_some]
    rw [if_pos r0, if_pos hr]
  · obtain ⟨i, rfl⟩ := Int.eq_ofNat_of_zero_le r0
    rw [rd_get l i (by omega)]
    exact List.getElem_mem _
theorem claim_e (s : List Int) (hb : bytes s) (p x : Int) (h0 : 0 ≤ p) (h1 : p ≤ 1152921504606846000) : ∃ a b c p' x', spec_l1Cur_claim.f s p x = some (a, b, c, p', x') ∧ (a ≤ 21 ∧ b ≤ 1001 ∧ c ≤ 101 ∧ -1 ≤ a ∧ 0 ≤ b ∧ 0 ≤ c) ∧ p ≤ p' ∧ p' ≤ p + 8 := by
  unfold spec_l1Cur_claim.f
  obtain ⟨b, p1, x1, e1, g1, g2⟩ := one_e s hb p x 30 h0 (by omega)
  simp only [e1, Option.bind_some]
  cases b with
  | true =>
    obtain ⟨v2, p2, x2, e2, m2, g3, g4⟩ := among_e s hb p1 x1 [(-1), 20, 21] (by simp) (by omega) (by omega)
    obtain ⟨v3, p3, x3, e3, m3, g5, g6⟩ := among_e s hb p2 x2 [0, 1000, 1001] (by simp) (by omega) (by omega)
    obtain ⟨v4, p4, x4, e4, m4, g7, g8⟩ := among_e s hb p3 x3 [0, 100, 101] (by simp) (by omega) (by omega)
    simp only [if_true, e2, e3, e4, Option.bind_some]
    simp only [List.mem_cons, List.not_mem_nil, or_false] at m2 m3 m4
    exact ⟨_, _, _, _, _, rfl, ⟨by omega, by omega, by omega, by omega, by omega, by omega⟩, by omega, by omega⟩
  | false =>
    obtain ⟨v2, p2, x2, e2, m2, g3, g4⟩ := pick_e s hb p1 x1 3 (by omega) (by omega)
    obtain ⟨v3, p3, x3, e3, m3, g5, g6⟩ := pick_e s hb p2 x2 3 (by omega) (by omega)
    obtain ⟨v4, p4, x4, e4, m4, g7, g8⟩ := pick_e s hb p3 x3 2 (by omega) (by omega)
    simp only [Bool.false_eq_true, if_false, e2, e3, e4, Option.bind_some]
    exact ⟨_, _, _, _, _, rfl, ⟨by omega, by omega, by omega, by omega, by omega, by omega⟩, by omega, by omega⟩
theorem sts_j2 (s : List Int) (hb : bytes s) (out : List S124) (b : Bool) (p x : Int) (hb' : b = true → 1 ≤ out.length) (h0 : 0 ≤ p) (h1 : p ≤ 1152921504606840000) : ∃ l p' x', Ev (fun k => spec_l1Cur_statements.j2 k out b s p x) (l, p', x') ∧ l.length = out.length ∧ p ≤ p' ∧ p' ≤ p + 10 := by
  cases b with
  | false => exact ⟨_, _, _, eround (fun k => by rw [spec_l1Cur_statements.j2]) (eneg (by decide) (enow rfl)), rfl, by omega, by omega⟩
  | true =>
    obtain ⟨v2, p2, x2, e2, m2, g3, g4⟩ := among_e s hb p x [(-1), 6, 7] (by simp) (by omega) (by omega)
    obtain ⟨a, b, c, p3, x3, e3, _, g5, g6⟩ := claim_e s hb p2 x2 (by omega) (by omega)
    have := hb' rfl
    refine ⟨out.set 0 (⟨v2, (⟨a, b, c⟩ : S30), false⟩ : S124), p3, x3, ?_, by simp, by omega, by omega⟩
    refine eround (fun k => by rw [spec_l1Cur_statements.j2]) (epos rfl ?_)
    refine enb e2 ?_
    refine enb e3 ?_
    exact epos (by omega) (enow rfl)
theorem sts_l (s : List Int) (hb : bytes s) : ∀ (d : Nat) (out : List S124) (p x : Int), out.length + d ≤ 1000 → 0 ≤ p → p + 8 * d ≤ 1152921504606800000 → ∃ l p' x', Ev (fun k => spec_l1Cur_statements.l0 k out (d : Int) s p x) (l, p', x') ∧ l.length = out.length + d ∧ p ≤ p' ∧ p' ≤ p + 8 * d + 12 := by
  intro d
  induction d with
  | zero =>
    intro out p x hl h0 h1
    by_cases ho : (out.length : Int) > 0
    · obtain ⟨b, p1, x1, e, g1, g2⟩ := one_e s hb p x 20 h0 (by omega)
      obtain ⟨l, p2, x2, E, hl2, g3, g4⟩ := sts_j2 s hb out b p1 x1 (fun _ => by omega) (by omega) (by omega)
      exact ⟨l, p2, x2, eround (fun k => by rw [spec_l1Cur_statements.l0]) (eneg (by omega) (epos ho (enb e E))), by omega, by omega, by omega⟩
    · obtain ⟨l, p2, x2, E, hl2, g3, g4⟩ := sts_j2 s hb out false p x (fun h => by simp at h) h0 (by omega)
      exact ⟨l, p2, x2, eround (fun k => by rw [spec_l1Cur_statements.l0]) (eneg (by omega) (eneg ho E)), by omega, by omega, by omega⟩
  | succ d ih =>
    intro out p x hl h0 h1
    obtain ⟨v1, p1, x1, e1, _, g1, g2⟩ := pick_e s hb p x 7 h0 (by omega)
    obtain ⟨v2, p2, x2, e2, _, g3, g4⟩ := pick_e s hb p1 x1 2 (by omega) (by omega)
    obtain ⟨v3, p3, x3, e3, _, g5, g6⟩ := pick_e s hb p2 x2 2 (by omega) (by omega)
    obtain ⟨v4, p4, x4, e4, g7, g8⟩ := one_e s hb p3 x3 3 (by omega) (by omega)
    obtain ⟨l, p5, x5, E, hl5, g9, g10⟩ := ih (out ++ [(⟨v1, (⟨v2, v3, 0⟩ : S30), !v4⟩ : S124)]) p4 x4 (by simp; omega) (by omega) (by push_cast at h1; omega)
    refine ⟨l, p5, x5, ?_, by rw [hl5]; simp; omega, by omega, by push_cast; omega⟩
    refine eround (fun k => by rw [spec_l1Cur_statements.l0]) (epos (by omega) ?_)
    refine enb e1 ?_
    refine enb e2 ?_
    refine enb e3 ?_
    refine enb e4 ?_
    refine epos (by omega) ?_
    rw [w64 (by omega) (by omega), show ((d + 1 : Nat) : Int) - 1 = (d : Int) by omega]
    exact E
theorem sts_e (s : List Int) (hb : bytes s) (p x : Int) (h0 : 0 ≤ p) (h1 : p ≤ 1152921504606000000) : ∃ l p' x', Ev (fun k => spec_l1Cur_statements.f k s p x) (l, p', x') ∧ l.length ≤ 61 ∧ p ≤ p' ∧ p' ≤ p + 600 := by
  obtain ⟨n, p1, x1, e1, ⟨n0, _, n1⟩, g1, g2⟩ := pick_e s hb p x 14 h0 (by omega)
  obtain ⟨b, p2, x2, e2, g3, g4⟩ := one_e s hb p1 x1 20 (by omega) (by omega)
  cases b with
  | true =>
    obtain ⟨m, p3, x3, e3, ⟨m0, _, m1⟩, g5, g6⟩ := pick_e s hb p2 x2 2 (by omega) (by omega)
    obtain ⟨l, p4, x4, E, hl, g7, g8⟩ := sts_l s hb (60 + m).toNat [] p3 x3 (by simp; omega) (by omega) (by omega)
    refine ⟨l, p4, x4, ?_, by simp at hl; omega, by omega, by omega⟩
    unfold spec_l1Cur_statements.f
    refine enb e1 ?_
    refine enb e2 ?_
    refine epos rfl ?_
    refine enb e3 ?_
    refine eround (fun k => by rw [spec_l1Cur_statements.j0]) ?_
    rw [w64 (by omega) (by omega), show 60 + m = (((60 + m).toNat : Nat) : Int) by omega]
    exact E
  | false =>
    obtain ⟨l, p4, x4, E, hl, g7, g8⟩ := sts_l s hb n.toNat [] p2 x2 (by simp; omega) (by omega) (by omega)
    refine ⟨l, p4, x4, ?_, by simp at hl; omega, by omega, by omega⟩
    unfold spec_l1Cur_statements.f
    refine enb e1 ?_
    refine enb e2 ?_
    refine eneg (by simp) ?_
    refine eround (fun k => by rw [spec_l1Cur_statements.j0]) ?_
    rw [show ((n.toNat : Nat) : Int) = n by omega] at E
    exact E
theorem bits_l (s : List Int) (hb : bytes s) (n : Int) (hn : n ≤ 1048576) : ∀ (d i : Nat) (bs : List Bool) (p x : Int), i + d = n.toNat → bs.length = i → 0 ≤ p → p + 2 * d ≤ 1152921504606846000 → ∃ bs' p' x', Ev (fun k => spec_l1Cur_bits.l0 k n bs (i : Int) s p x) (bs', p', x') ∧ bs'.length = n.toNat ∧ p ≤ p' ∧ p' ≤ p + 2 * d := by
  intro d
  induction d with
  | zero =>
    intro i bs p x hi hl h0 h1
    exact ⟨bs, p, x, eround (fun k => by rw [spec_l1Cur_bits.l0]) (eneg (by omega) (enow rfl)), by omega, by omega, by omega⟩
  | succ d ih =>
    intro i bs p x hi hl h0 h1
    obtain ⟨b, p1, x1, e, g1, g2⟩ := one_e s hb p x 2 h0 (by omega)
    obtain ⟨bs', p', x', E, hl', g3, g4⟩ := ih (i + 1) (bs ++ [b]) p1 x1 (by omega) (by simp [hl]) (by omega) (by push_cast at h1; omega)
    refine ⟨bs', p', x', ?_, hl', by omega, by push_cast; omega⟩
    refine eround (fun k => by rw [spec_l1Cur_bits.l0]) (epos (by omega) ?_)
    refine enb e ?_
    refine epos (by omega) ?_
    rw [w64 (by omega) (by omega)]
    exact E
theorem bits_e (s : List Int) (hb : bytes s) (p x n : Int) (hn : n ≤ 1048576) (h0 : 0 ≤ p) (h1 : p ≤ 1152921504600000000) : ∃ bs p' x', Ev (fun k => spec_l1Cur_bits.f k s p x n) (bs, p', x') ∧ bs.length = n.toNat ∧ p ≤ p' ∧ p' ≤ p + 2 * n.toNat :=
  bits_l s hb n hn n.toNat 0 [] p x (by omega) rfl h0 (by omega)
def runF (hand : Bool) (a b c : Int) : Nat → List Bool → List S124
  | _, [] => []
  | i, w :: ws => ⟨(i : Int), ⟨a, b, c⟩, hand != w⟩ :: runF hand a b c (i + 1) ws
def runC (hand : Bool) (ws : List Bool) (a b c : Int) : List S124 × Bool := if ws.length ≤ 7 ∧ goodC a b c = true then (runF hand a b c 0 ws, true) else ([], false)
theorem runF_len (hand : Bool) (a b c : Int) : ∀ (ws : List Bool) (i : Nat), (runF hand a b c i ws).length = ws.length
  | [], _ => rfl
  | w :: ws, i => by simp [runF, runF_len hand a b c ws (i + 1)]
theorem runC_len (hand : Bool) (a b c : Int) (ws : List Bool) : (runC hand ws a b c).1.length ≤ ws.length := by
  unfold runC
  split
  · rw [runF_len]; exact Nat.le_refl _
  · simp
theorem specRC_l (hand : Bool) (a b c : Int) (ws : List Bool) (hn : ws.length ≤ 1048576) : ∀ (d i : Nat) (out : List S124), i + d = ws.length → out.length = i → Ev (fun k => spec_RunClaim.l0 k hand out ws (ws.length : Int) (i : Int) a b c) (out ++ runF hand a b c i (ws.drop i), true) := by
  intro d
  induction d with
  | zero =>
    intro i out hi ho
    refine eround (fun k => by rw [spec_RunClaim.l0]) (eneg (by omega) (enow ?_))
    rw [List.drop_eq_nil_of_le (show ws.length ≤ i by omega)]
    simp [runF]
  | succ d ih =>
    intro i out hi ho
    have hlt : i < ws.length := by omega
    refine eround (fun k => by rw [spec_RunClaim.l0]) (epos (by omega) (epos (by omega) (epos (by omega) (epos (by omega) ?_))))
    rw [show rdOf false ws (i : Int) = ws[i] from getD_get ws i _ hlt, List.drop_eq_getElem_cons hlt, w64 (x := (i : Int) + 1) (by omega) (by omega)]
    simp only [runF]
    rw [show (hand != ws[i]) = (hand != ws[i]) from by cases hand <;> cases ws[i] <;> rfl]
    have := ih (i + 1) (out ++ [(⟨(i : Int), ⟨a, b, c⟩, (hand != ws[i])⟩ : S124)]) (by omega) (by simp [ho])
    rw [List.append_assoc, List.singleton_append] at this
    exact this
theorem specRC_e (hand : Bool) (a b c : Int) (ws : List Bool) (hn : ws.length ≤ 1048576) : Ev (fun k => spec_RunClaim.f k hand ws a b c) (runC hand ws a b c) := by
  unfold spec_RunClaim.f runC
  by_cases h : ws.length ≤ 7
  · refine eneg (by omega) (enb (specGC_eq a b c) (eround (fun k => by rw [spec_RunClaim.j0]) ?_))
    cases h2 : goodC a b c with
    | false => exact epos (by simp) (enow (by simp))
    | true =>
      refine eneg (by simp) ?_
      rw [if_pos ⟨h, rfl⟩]
      exact specRC_l hand a b c ws hn ws.length 0 [] (by omega) rfl
  · exact epos (by omega) (eround (fun k => by rw [spec_RunClaim.j0]) (epos rfl (enow (by simp [h]))))
theorem implRC_l (hand : Bool) (a b c : Int) (ws : List Bool) (hn : ws.length ≤ 1048576) : ∀ (d i : Nat) (out : List S124), i + d = ws.length → out.length = i → Ev (fun k => impl_RunClaim.l0 k hand out ws (ws.length : Int) (i : Int) a b c) (out ++ runF hand a b c i (ws.drop i), true) := by
  intro d
  induction d with
  | zero =>
    intro i out hi ho
    refine eround (fun k => by rw [impl_RunClaim.l0]) (eneg (by omega) (enow ?_))
    rw [List.drop_eq_nil_of_le (show ws.length ≤ i by omega)]
    simp [runF]
  | succ d ih =>
    intro i out hi ho
    have hlt : i < ws.length := by omega
    refine eround (fun k => by rw [impl_RunClaim.l0]) (epos (by omega) (epos (by omega) (epos (by omega) (epos (by omega) ?_))))
    rw [show rdOf false ws (i : Int) = ws[i] from getD_get ws i _ hlt, List.drop_eq_getElem_cons hlt, w64 (x := (i : Int) + 1) (by omega) (by omega)]
    simp only [runF]
    rw [show (hand != ws[i]) = (ws[i] != hand) from by cases hand <;> cases ws[i] <;> rfl]
    have := ih (i + 1) (out ++ [(⟨(i : Int), ⟨a, b, c⟩, (ws[i] != hand)⟩ : S124)]) (by omega) (by simp [ho])
    rw [List.append_assoc, List.singleton_append] at this
    exact this
theorem implRC_e (hand : Bool) (a b c : Int) (ws : List Bool) (hn : ws.length ≤ 1048576) : Ev (fun k => impl_RunClaim.f k hand ws a b c) (runC hand ws a b c) := by
  unfold impl_RunClaim.f runC
  by_cases h : ws.length ≤ 7
  · refine eneg (by omega) (enb (implGC_eq a b c) (eround (fun k => by rw [impl_RunClaim.j0]) ?_))
    cases h2 : goodC a b c with
    | false => exact epos (by simp) (enow (by simp))
    | true =>
      refine eneg (by simp) ?_
      rw [if_pos ⟨h, rfl⟩]
      exact implRC_l hand a b c ws hn ws.length 0 [] (by omega) rfl
  · exact epos (by omega) (eround (fun k => by rw [impl_RunClaim.j0]) (epos rfl (enow (by simp [h]))))
theorem sameSt_l (xs : List S124) (hs : xs.length ≤ 1048576) : ∀ (d i : Nat), i + d = xs.length → Ev (fun k => laws_sameStatements.l0 k xs xs (xs.length : Int) (i : Int)) true := by
  intro d
  induction d with
  | zero =>
    intro i hi
    exact eround (fun k => by rw [laws_sameStatements.l0]) (eneg (by omega) (enow rfl))
  | succ d ih =>
    intro i hi
    have hlt : i < xs.length := by omega
    refine eround (fun k => by rw [laws_sameStatements.l0]) (epos (by omega) (epos (by omega) (epos (by omega) (epos (by omega) (eneg (by simp) ?_)))))
    rw [w64 (by omega) (by omega)]
    exact ih (i + 1) (by omega)
theorem sameSt_r (xs : List S124) (hs : xs.length ≤ 1048576) : Ev (fun k => laws_sameStatements.f k xs xs) true := by
  unfold laws_sameStatements.f
  exact epos rfl (sameSt_l xs hs xs.length 0 (by omega))
theorem sameI_l (xs ys : List Int) (hl : xs.length = ys.length) (hn : xs.length ≤ 9223372036854775807) : ∀ (d i : Nat), i + d = xs.length → Ev (fun k => laws_sameInts.l0 k xs ys (xs.length : Int) (i : Int)) (decide (xs.drop i = ys.drop i)) := by
  intro d
  induction d with
  | zero =>
    intro i hi
    refine eround (fun k => by rw [laws_sameInts.l0]) (eneg (by omega) (enow ?_))
    rw [List.drop_eq_nil_of_le (show xs.length ≤ i by omega), List.drop_eq_nil_of_le (show ys.length ≤ i by omega)]; rfl
  | succ d ih =>
    intro i hi
    have hlt : i < xs.length := by omega
    have hlt' : i < ys.length := by omega
    refine eround (fun k => by rw [laws_sameInts.l0]) (epos (by omega) (epos (by omega) (epos (by omega) (epos (by omega) ?_))))
    rw [rd_get xs i hlt, rd_get ys i hlt', List.drop_eq_getElem_cons hlt, List.drop_eq_getElem_cons hlt']
    by_cases h : xs[i] = ys[i]
    · refine epos h ?_
      rw [w64 (by omega) (by omega)]
      simp only [h, List.cons.injEq, true_and]
      exact ih (i + 1) (by omega)
    · exact eneg h (enow (by simp only [List.cons.injEq, h, false_and, decide_false]))
theorem sameI_e (xs ys : List Int) (hn : xs.length ≤ 9223372036854775807) : Ev (fun k => laws_sameInts.f k xs ys) (decide (xs = ys)) := by
  unfold laws_sameInts.f
  by_cases hl : xs.length = ys.length
  · exact epos (by omega) (sameI_l xs ys hl hn xs.length 0 (by omega))
  · refine eneg (by omega) (enow ?_)
    have : xs ≠ ys := fun h => hl (by rw [h])
    simp [this]
theorem drawRC_e (s : List Int) (hb : bytes s) : ∃ h ws a b c, Ev (fun k => spec_DrawRunClaim.f k s) (h, ws, a, b, c) ∧ ws.length ≤ 8 := by
  obtain ⟨h, p1, x1, e1, g1, g2⟩ := one_e s hb 0 0 2 (by omega) (by omega)
  obtain ⟨n, p2, x2, e2, ⟨n0, _, n1⟩, g3, g4⟩ := pick_e s hb p1 x1 9 (by omega) (by omega)
  obtain ⟨ws, p3, x3, e3, hl, g5, g6⟩ := bits_e s hb p2 x2 n (by omega) (by omega) (by omega)
  obtain ⟨a, b, c, p4, x4, e4, _⟩ := claim_e s hb p3 x3 (by omega) (by omega)
  refine ⟨h, ws, a, b, c, ?_, by omega⟩
  unfold spec_DrawRunClaim.f
  refine enb e1 ?_
  refine enb e2 ?_
  refine ebind e3 ?_
  refine enb e4 ?_
  exact enow rfl
theorem drawIP_e (s : List Int) (hb : bytes s) : ∃ fa l a b c, Ev (fun k => spec_DrawIsProved.f k s) (fa, l, a, b, c) ∧ l.length ≤ 61 := by
  obtain ⟨n, p1, x1, e1, _, g1, g2⟩ := pick_e s hb 0 0 5 (by omega) (by omega)
  obtain ⟨l, p2, x2, e2, hl, g3, g4⟩ := sts_e s hb p1 x1 (by omega) (by omega)
  obtain ⟨a, b, c, p3, x3, e3, _⟩ := claim_e s hb p2 x2 (by omega) (by omega)
  refine ⟨wrap64 (n - 1), l, a, b, c, ?_, hl⟩
  unfold spec_DrawIsProved.f
  refine enb e1 ?_
  refine ebind e2 ?_
  refine enb e3 ?_
  exact enow rfl
theorem drawRB_e (s : List Int) (hb : bytes s) : ∃ l a b c, Ev (fun k => spec_DrawRefusedBy.f k s) (l, a, b, c) ∧ l.length ≤ 61 := by
  obtain ⟨l, p2, x2, e2, hl, g3, g4⟩ := sts_e s hb 0 0 (by omega) (by omega)
  obtain ⟨a, b, c, p3, x3, e3, _⟩ := claim_e s hb p2 x2 (by omega) (by omega)
  refine ⟨l, a, b, c, ?_, hl⟩
  unfold spec_DrawRefusedBy.f
  refine ebind e2 ?_
  refine enb e3 ?_
  exact enow rfl
theorem fp_j3 (s : List Int) (hb : bytes s) : Ev (fun k => laws_FnProved.j3 k s) true := by
  obtain ⟨fa, l, a, b, c, e1, hl⟩ := drawIP_e s hb
  obtain ⟨l', a', b', c', e4, hl'⟩ := drawRB_e s hb
  refine eround (fun k => by rw [laws_FnProved.j3]) ?_
  refine ebind e1 ?_
  refine ebind (implP_e fa l a b c (by omega)) ?_
  refine ebind (specP_e fa l a b c (by omega)) ?_
  refine ebind e4 ?_
  refine ebind (implRB_e l' a' b' c' (by omega)) ?_
  refine ebind (specRB_e l' a' b' c' (by omega)) ?_
  refine epos (by simp) (epos (by simp) (epos (by simp) ?_))
  refine ebind (sameI_e _ _ (by have := rbR_len l' a' b' c'; omega)) (enow (by simp))
theorem runF_lo (hand : Bool) (a b c a' b' c' : Int) (f : Bool) : ∀ (ws : List Bool) (j : Nat) (i : Int), i < j → hasS (runF hand a b c j ws) i a' b' c' f = false
  | [], _, _, _ => rfl
  | w :: ws, j, i, h => by
    simp only [runF]
    rw [hasS_cons, runF_lo hand a b c a' b' c' f ws (j + 1) i (by omega)]
    have : (i == (j : Int)) = false := by rw [beq_eq_false_iff_ne]; omega
    simp [this]
theorem runF_has (hand : Bool) (a b c : Int) (f : Bool) : ∀ (ws : List Bool) (j n : Nat), hasS (runF hand a b c j ws) ((j + n : Nat) : Int) a b c f = (match ws[n]? with | some w => f == (hand != w) | none => false)
  | [], _, _ => by simp [runF, hasS]
  | w :: ws, j, 0 => by
    simp only [runF]
    rw [hasS_cons, runF_lo hand a b c a b c f ws (j + 1) _ (by omega)]
    simp
  | w :: ws, j, n + 1 => by
    simp only [runF]
    rw [hasS_cons]
    have : (((j + (n + 1) : Nat) : Int) == (j : Int)) = false := by rw [beq_eq_false_iff_ne]; omega
    simp only [this, Bool.false_and, Bool.false_or, List.getElem?_cons_succ]
    rw [show j + (n + 1) = (j + 1) + n by omega]
    exact runF_has hand a b c f ws (j + 1) n
def saysNo (hand : Bool) (ws : List Bool) : Nat := (ws.filter (fun w => hand != w)).length
theorem saysNo_cons (hand w : Bool) (t : List Bool) : saysNo hand (w :: t) = (if (hand != w) = true then 1 else 0) + saysNo hand t := by
  unfold saysNo
  cases h : (hand != w) with
  | true => rw [List.filter_cons_of_pos h, List.length_cons]; exact Nat.add_comm _ _
  | false => rw [List.filter_cons_of_neg (by simp [h])]; simp
theorem refF_run (hand : Bool) (a b c : Int) (ws : List Bool) (hw : ws.length ≤ 7) : ∀ (d i : Nat), i + d = 7 → (refF (runF hand a b c 0 ws) a b c d i).length = saysNo hand (ws.drop i)
  | 0, i, h => by rw [List.drop_eq_nil_of_le (by omega)]; rfl
  | d + 1, i, h => by
    have e := refF_run hand a b c ws hw d (i + 1) (by omega)
    have k := fun f => runF_has hand a b c f ws 0 i
    simp only [Nat.zero_add] at k
    simp only [refF, List.length_append]
    rw [k, k, e]
    by_cases hlt : i < ws.length
    · rw [List.drop_eq_getElem_cons hlt, List.getElem?_eq_getElem hlt]
      rw [saysNo_cons]
      congr 1
      cases hand <;> cases ws[i] <;> rfl
    · rw [List.getElem?_eq_none (by omega), List.drop_eq_nil_of_le (show ws.length ≤ i by omega), List.drop_eq_nil_of_le (show ws.length ≤ i + 1 by omega)]
      simp
theorem runF_good (hand : Bool) (a b c : Int) (g : goodC a b c = true) : ∀ (ws : List Bool) (j : Nat), j + ws.length ≤ 7 → (runF hand a b c j ws).all goodSt = true
  | [], _, _ => rfl
  | w :: ws, j, h => by
    simp only [List.length_cons] at h
    simp only [runF, List.all_cons]
    rw [runF_good hand a b c g ws (j + 1) (by omega)]
    have : inR 0 6 (j : Int) = true := by rw [inR_iff]; omega
    simp [goodSt, this, g]
theorem saysNo_le (hand : Bool) (ws : List Bool) : saysNo hand ws ≤ ws.length := List.length_filter_le _ _
theorem saysNo_true (ws : List Bool) : saysNo true ws + saysNo false ws = ws.length := by
  induction ws with
  | nil => rfl
  | cons w ws ih =>
    rw [saysNo_cons, saysNo_cons, List.length_cons]
    cases w <;> simp <;> omega
theorem fp_l1 (s : List Int) (hb : bytes s) (hand : Bool) (ws : List Bool) (a b c : Int) (hw : ws.length ≤ 7) (g : goodC a b c = true) (x12 x15 : Int) (h12 : x12 = (saysNo false ws : Int)) (h15 : x15 = (saysNo true ws : Int)) : ∀ (d i : Nat), i + d = 3 → Ev (fun k => laws_FnProved.l1 k s hand (runF hand a b c 0 ws) x12 x15 (i : Int) a b c) true := by
  have hl := runF_len hand a b c ws 0
  intro d
  induction d with
  | zero =>
    intro i hi
    exact eround (fun k => by rw [laws_FnProved.l1]) (eneg (by omega) (fp_j3 s hb))
  | succ d ih =>
    intro i hi
    have hp : provR (i : Int) (runF hand a b c 0 ws) a b c = (decide ((saysNo hand ws : Int) > (i : Int)), true) := by
      unfold provR goodSts
      have h1 : inR 0 2 (i : Int) = true := by rw [inR_iff]; omega
      rw [runF_good hand a b c g ws 0 (by omega), hl, g, h1, refF_run hand a b c ws hw 7 0 (by omega)]
      have h2 : (ws.length : Int) ≤ 60 := by omega
      simp [h2]
    have e := implP_e (i : Int) (runF hand a b c 0 ws) a b c (by omega)
    rw [hp] at e
    have nx := ih (i + 1) (by omega)
    refine eround (fun k => by rw [laws_FnProved.l1]) (epos (by omega) ?_)
    refine ebind e ?_
    rw [w64 (by omega) (by omega)]
    refine epos rfl ?_
    cases hand with
    | true =>
      refine epos rfl ?_
      by_cases h1 : x15 ≤ (i : Int)
      · exact epos h1 (eneg (by simp; omega) nx)
      · exact eneg h1 nx
    | false =>
      refine eneg (by simp) ?_
      by_cases h1 : x12 > (i : Int)
      · exact epos h1 (epos (by simp; omega) nx)
      · exact eneg h1 nx
theorem fp_l0 (s : List Int) (hb : bytes s) (hand : Bool) (ws : List Bool) (a b c : Int) (hw : ws.length ≤ 7) (g : goodC a b c = true) : ∀ (d i : Nat) (x : Int), i + d = ws.length → x = (saysNo false (ws.take i) : Int) → Ev (fun k => laws_FnProved.l0 k s hand ws (runF hand a b c 0 ws) x (ws.length : Int) (i : Int) a b c) true := by
  intro d
  induction d with
  | zero =>
    intro i x hi hx
    refine eround (fun k => by rw [laws_FnProved.l0]) (eneg (by omega) ?_)
    rw [List.take_of_length_le (by omega)] at hx
    have h1 := saysNo_true ws
    have h2 := saysNo_le false ws
    rw [w64 (by omega) (by omega)]
    exact fp_l1 s hb hand ws a b c hw g x _ hx (by omega) 3 0 (by omega)
  | succ d ih =>
    intro i x hi hx
    have hlt : i < ws.length := by omega
    have h2 := saysNo_le false (ws.take i)
    rw [List.length_take] at h2
    refine eround (fun k => by rw [laws_FnProved.l0]) (epos (by omega) (epos (by omega) (epos (by omega) ?_)))
    rw [show rdOf false ws (i : Int) = ws[i] from getD_get ws i _ hlt, w64 (x := (i : Int) + 1) (by omega) (by omega), w64 (x := x + 1) (by omega) (by omega)]
    have hs : saysNo false (ws.take (i + 1)) = saysNo false (ws.take i) + (if ws[i] = true then 1 else 0) := by
      rw [List.take_succ_eq_append_getElem hlt]
      unfold saysNo
      rw [List.filter_append, List.length_append]
      cases ws[i] <;> rfl
    cases hwi : ws[i] with
    | true => refine epos rfl (ih (i + 1) _ (by omega) ?_); rw [hs, hwi, hx]; simp
    | false => refine eneg (by simp) (ih (i + 1) _ (by omega) ?_); rw [hs, hwi, hx]; simp
theorem FnProved : laws_FnProved.Pure := by
  intro s t _ _ hs _ _ ht
  have hbs := bytes_of hs
  have hbt := bytes_of ht
  apply Ev.rounds
  unfold laws_FnProved.f
  by_cases hbig : (wrap64 ((s.length : Int) + (t.length : Int))) > 1048576
  · exact epos hbig (enow rfl)
  refine eneg hbig ?_
  obtain ⟨hand, ws, a, b, c, e1, hw⟩ := drawRC_e s hbs
  refine ebind e1 ?_
  refine ebind (implRC_e hand a b c ws (by omega)) ?_
  refine ebind (specRC_e hand a b c ws (by omega)) ?_
  refine eneg (by simp) ?_
  have hR := runC_len hand a b c ws
  refine ebind (sameSt_r _ (by omega)) ?_
  refine epos rfl ?_
  refine enb (implGC_eq a b c) ?_
  refine enb (specGC_eq a b c) ?_
  refine eround (fun k => by rw [laws_FnProved.j0]) ?_
  refine eneg (by simp) ?_
  by_cases hok : ws.length ≤ 7 ∧ goodC a b c = true
  · have : runC hand ws a b c = (runF hand a b c 0 ws, true) := by unfold runC; rw [if_pos hok]
    rw [this]
    exact epos rfl (fp_l0 t hbt hand ws a b c hok.1 hok.2 ws.length 0 0 (by omega) rfl)
  · have : runC hand ws a b c = ([], false) := by unfold runC; rw [if_neg hok]
    rw [this]
    exact eneg (by simp) (fp_j3 t hbt)

end Go.Proofs.Ytonejnaanklfjaa.Pure
