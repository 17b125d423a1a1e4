/- The law FnTable, told over lists: all learn the word, and with other coins any other one of the group might have said it. No condition. -/
import Derived.Test.YtpibdgknmjjolaaQFnTablex11
import Derived.Test.YtpibdgknmjjolaaPk
namespace Go.Proofs.Ytpibdgknmjjolaa.Pure
open Go.RowKit Go.Proofs.Ytpibdgknmjjolaa.QFnTable Go.Proofs.YtpibdgknmjjolaaW.PrintWords Go.Proofs.YtpibdgknmjjolaaW.PrintLast Go.Proofs.YtpibdgknmjjolaaW.PrintMore Go.Proofs.Ytpibdgknmjjolaa
set_option linter.unusedVariables false
set_option linter.unusedSimpArgs false

open Pk

def inR (lo hi x : Int) : Bool := decide (x ≥ lo) && decide (x ≤ hi)
theorem inR_iff {lo hi x : Int} : inR lo hi x = true ↔ lo ≤ x ∧ x ≤ hi := by simp [inR]
theorem l1In_eq (a lo hi : Int) : spec_l1In.f a lo hi = some (inR lo hi a) := by
  unfold spec_l1In.f inR
  by_cases h : a ≥ lo <;> simp [h]
theorem l1All_l (xs : List Int) (lo up : Int) (hn : xs.length ≤ 9223372036854775807) : ∀ (d i : Nat), i + d = xs.length → Ev (fun k => spec_l1All.l0 k lo up xs (xs.length : Int) (i : Int)) ((xs.drop i).all (inR lo up)) := by
  intro d
  induction d with
  | zero =>
    intro i hi
    refine eround (fun k => by rw [spec_l1All.l0]) ?_
    refine eneg (by omega) (enow ?_)
    rw [List.drop_eq_nil_of_le (by omega)]; rfl
  | succ d ih =>
    intro i hi
    have hlt : i < xs.length := by omega
    refine eround (fun k => by rw [spec_l1All.l0]) ?_
    refine epos (by omega) (epos (by omega) (epos (by omega) ?_))
    rw [rd_get xs i hlt, List.drop_eq_getElem_cons hlt, List.all_cons]
    refine enb (l1In_eq _ _ _) ?_
    cases h : inR lo up xs[i] with
    | true =>
      refine epos rfl ?_
      rw [w64 (by omega) (by omega)]
      simpa using ih (i + 1) (by omega)
    | false => exact eneg (by simp) (enow (by simp))
theorem l1All_e (xs : List Int) (lo up : Int) (hn : xs.length ≤ 9223372036854775807) : Ev (fun k => spec_l1All.f k xs lo up) (xs.all (inR lo up)) :=
  l1All_l xs lo up hn xs.length 0 (by omega)
theorem within_eq (a lo hi : Int) : impl_within.f a lo hi = some (inR lo hi a) := by
  unfold impl_within.f inR
  by_cases h : a ≥ lo <;> simp [h]
theorem allWithin_l (xs : List Int) (lo up : Int) (hn : xs.length ≤ 9223372036854775807) : ∀ (d i : Nat), i + d = xs.length → Ev (fun k => impl_allWithin.l0 k lo up xs (xs.length : Int) (i : Int)) ((xs.drop i).all (inR lo up)) := by
  intro d
  induction d with
  | zero =>
    intro i hi
    refine eround (fun k => by rw [impl_allWithin.l0]) ?_
    refine eneg (by omega) (enow ?_)
    rw [List.drop_eq_nil_of_le (by omega)]; rfl
  | succ d ih =>
    intro i hi
    have hlt : i < xs.length := by omega
    refine eround (fun k => by rw [impl_allWithin.l0]) ?_
    refine epos (by omega) (epos (by omega) (epos (by omega) ?_))
    rw [rd_get xs i hlt, List.drop_eq_getElem_cons hlt, List.all_cons]
    refine enb (within_eq _ _ _) ?_
    cases h : inR lo up xs[i] with
    | true =>
      refine epos rfl ?_
      rw [w64 (by omega) (by omega)]
      simpa using ih (i + 1) (by omega)
    | false => exact eneg (by simp) (enow (by simp))
theorem allWithin_e (xs : List Int) (lo up : Int) (hn : xs.length ≤ 9223372036854775807) : Ev (fun k => impl_allWithin.f k xs lo up) (xs.all (inR lo up)) :=
  allWithin_l xs lo up hn xs.length 0 (by omega)
/-- all elements, each with its place, from place i on -/
def allI {α : Type} (p : Nat → α → Bool) : Nat → List α → Bool
  | _, [] => true
  | i, x :: xs => p i x && allI p (i + 1) xs
theorem allI_congr {α : Type} {p q : Nat → α → Bool} : ∀ (xs : List α) (i : Nat), (∀ j x, i ≤ j → j < i + xs.length → p j x = q j x) → allI p i xs = allI q i xs
  | [], _, _ => rfl
  | x :: xs, i, h => by
    simp only [allI]
    rw [h i x (Nat.le_refl _) (by simp), allI_congr xs (i + 1) (fun j y h1 h2 => h j y (by omega) (by simp only [List.length_cons]; omega))]
theorem l1Same_l (xs ys : List Int) (hl : xs.length = ys.length) (hn : xs.length ≤ 9223372036854775807) : ∀ (d i : Nat), i + d = xs.length → Ev (fun k => spec_l1Same.l0 k xs ys (xs.length : Int) (i : Int)) (decide (xs.drop i = ys.drop i)) := by
  intro d
  induction d with
  | zero =>
    intro i hi
    refine eround (fun k => by rw [spec_l1Same.l0]) (eneg (by omega) (enow ?_))
    rw [List.drop_eq_nil_of_le (show xs.length ≤ i by omega), List.drop_eq_nil_of_le (show ys.length ≤ i by omega)]; rfl
  | succ d ih =>
    intro i hi
    have hlt : i < xs.length := by omega
    have hlt' : i < ys.length := by omega
    refine eround (fun k => by rw [spec_l1Same.l0]) (epos (by omega) (epos (by omega) (epos (by omega) (epos (by omega) ?_))))
    rw [rd_get xs i hlt, rd_get ys i hlt', List.drop_eq_getElem_cons hlt, List.drop_eq_getElem_cons hlt']
    by_cases h : xs[i] = ys[i]
    · refine epos h ?_
      rw [w64 (by omega) (by omega)]
      simp only [h, List.cons.injEq, true_and]
      exact ih (i + 1) (by omega)
    · exact eneg h (enow (by simp only [List.cons.injEq, h, false_and, decide_false]))
theorem l1Same_e (xs ys : List Int) (hn : xs.length ≤ 9223372036854775807) : Ev (fun k => spec_l1Same.f k xs ys) (decide (xs = ys)) := by
  unfold spec_l1Same.f
  by_cases hl : xs.length = ys.length
  · exact epos (by omega) (l1Same_l xs ys hl hn xs.length 0 (by omega))
  · refine eneg (by omega) (enow ?_)
    have : xs ≠ ys := fun h => hl (by rw [h])
    simp [this]
theorem slEq_l (xs ys : List Int) (hl : xs.length = ys.length) (hn : xs.length ≤ 9223372036854775807) : ∀ (d i : Nat), i + d = xs.length → Ev (fun k => slices_Equal_int_int.l0 k xs ys (xs.length : Int) (i : Int)) (decide (xs.drop i = ys.drop i)) := by
  intro d
  induction d with
  | zero =>
    intro i hi
    refine eround (fun k => by rw [slices_Equal_int_int.l0]) (eneg (by omega) (enow ?_))
    rw [List.drop_eq_nil_of_le (show xs.length ≤ i by omega), List.drop_eq_nil_of_le (show ys.length ≤ i by omega)]; rfl
  | succ d ih =>
    intro i hi
    have hlt : i < xs.length := by omega
    have hlt' : i < ys.length := by omega
    refine eround (fun k => by rw [slices_Equal_int_int.l0]) (epos (by omega) (epos (by omega) (epos (by omega) (epos (by omega) ?_))))
    rw [rd_get xs i hlt, rd_get ys i hlt', List.drop_eq_getElem_cons hlt, List.drop_eq_getElem_cons hlt']
    by_cases h : xs[i] = ys[i]
    · refine epos h ?_
      rw [w64 (by omega) (by omega)]
      simp only [h, List.cons.injEq, true_and]
      exact ih (i + 1) (by omega)
    · exact eneg h (enow (by simp only [List.cons.injEq, h, false_and, decide_false]))
theorem slEq_e (xs ys : List Int) (hn : xs.length ≤ 9223372036854775807) : Ev (fun k => slices_Equal_int_int.f k xs ys) (decide (xs = ys)) := by
  unfold slices_Equal_int_int.f
  by_cases hl : xs.length = ys.length
  · exact epos (by omega) (slEq_l xs ys hl hn xs.length 0 (by omega))
  · refine eneg (by omega) (enow ?_)
    have : xs ≠ ys := fun h => hl (by rw [h])
    simp [this]
def inP (h : Int) (r : List Int) : Bool := decide ((r.length : Int) = 2) && (inR 0 (wrap64 (h - 1)) (rd r 0) && (inR 0 (wrap64 (h - 1)) (rd r 1) && !decide (rd r 0 ≥ rd r 1)))
def newP (ps : List (List Int)) (i : Nat) (r : List Int) : Bool := !((ps.take i).any fun p => decide (p = r))
def endT (h : Int) (ps : List (List Int)) (cs : List Int) : Bool := inR 1 6 h && (decide ((ps.length : Int) ≤ 15) && (decide ((cs.length : Int) = (ps.length : Int)) && cs.all (inR 0 255)))
def goodTb (h : Int) (ps : List (List Int)) (cs : List Int) : Bool := allI (fun i r => inP h r && newP ps i r) 0 ps && endT h ps cs
def smallP (ps : List (List Int)) : Prop := ps.length ≤ 1048576 ∧ ∀ p ∈ ps, p.length ≤ 1048576
theorem specGTb_end (h : Int) (ps : List (List Int)) (cs : List Int) (hc : cs.length ≤ 1048576) : Ev (fun k => ((spec_l1In.f h 1 6).bind fun t111 => (if t111 = true then (if (ps.length : Int) ≤ 15 then (if (cs.length : Int) = (ps.length : Int) then ((spec_l1All.f k cs 0 255).bind fun t112 => (some t112)) else (some false)) else (some false)) else (some false)))) (endT h ps cs) := by
  unfold endT
  refine enb (l1In_eq _ _ _) ?_
  cases h1 : inR 1 6 h with
  | false => exact eneg (by decide) (enow (by simp))
  | true =>
    refine epos rfl ?_
    by_cases h2 : (ps.length : Int) ≤ 15
    · refine epos h2 ?_
      by_cases h3 : (cs.length : Int) = (ps.length : Int)
      · exact epos h3 (ebind (l1All_e cs 0 255 (by omega)) (enow (by simp [h2, h3])))
      · exact eneg h3 (enow (by simp [h3]))
    · exact eneg h2 (enow (by simp [h2]))
theorem specGTb_l1 (h : Int) (ps : List (List Int)) (cs : List Int) (hs : smallP ps) (r : List Int) (hr : r.length ≤ 1048576) (i : Nat) (hi : i ≤ ps.length) (R : Bool) (H : Ev (fun k => spec_GoodTable.l0 k ps (ps.length : Int) (wrap64 ((i : Int) + 1)) h ps cs) R) :
    ∀ (d j : Nat), j + d = i → Ev (fun k => spec_GoodTable.l1 k r ps (ps.length : Int) (i : Int) (ps.take i) ((ps.take i).length : Int) (j : Int) h ps cs) (!(((ps.take i).drop j).any fun p => decide (p = r)) && R) := by
  have hn := hs.1
  have hl : (ps.take i).length = i := by simp; omega
  intro d
  induction d with
  | zero =>
    intro j hj
    refine eround (fun k => by rw [spec_GoodTable.l1]) (eneg (by omega) ?_)
    rw [List.drop_eq_nil_of_le (by omega)]
    simpa using H
  | succ d ih =>
    intro j hj
    have hlt : j < (ps.take i).length := by omega
    refine eround (fun k => by rw [spec_GoodTable.l1]) (epos (by omega) (epos (by omega) (epos (by omega) ?_)))
    rw [show rd_L1 (ps.take i) (j : Int) = (ps.take i)[j] from getD_get _ j _ hlt, List.drop_eq_getElem_cons hlt, List.any_cons]
    refine ebind (l1Same_e _ _ (by omega)) ?_
    generalize (ps.take i)[j] = q
    by_cases e : q = r
    · exact epos (by simp [e]) (enow (by simp [e]))
    · refine eneg (by simpa using fun x : r = q => e x.symm) ?_
      rw [w64 (x := (j : Int) + 1) (by omega) (by omega), decide_eq_false e, Bool.false_or]
      exact ih (j + 1) (by omega)
theorem specGTb_l (h : Int) (ps : List (List Int)) (cs : List Int) (hs : smallP ps) (hc : cs.length ≤ 1048576) : ∀ (d i : Nat), i + d = ps.length → Ev (fun k => spec_GoodTable.l0 k ps (ps.length : Int) (i : Int) h ps cs) (allI (fun i r => inP h r && newP ps i r) i (ps.drop i) && endT h ps cs) := by
  have hn := hs.1
  intro d
  induction d with
  | zero =>
    intro i hi
    refine eround (fun k => by rw [spec_GoodTable.l0]) (eneg (by omega) ?_)
    rw [List.drop_eq_nil_of_le (by omega)]
    exact specGTb_end h ps cs hc
  | succ d ih =>
    intro i hi
    have hlt : i < ps.length := by omega
    refine eround (fun k => by rw [spec_GoodTable.l0]) (epos (by omega) (epos (by omega) (epos (by omega) ?_)))
    rw [show rd_L1 ps (i : Int) = ps[i] from getD_get _ i _ hlt, List.drop_eq_getElem_cons hlt]
    have hr := hs.2 _ (List.getElem_mem hlt)
    generalize ps[i] = r at hr
    have K : ∀ b : Bool, Ev (fun k => spec_GoodTable.j1 k (i : Int) r ps (ps.length : Int) (i : Int) b h ps cs) (!b && (newP ps i r && (allI (fun i r => inP h r && newP ps i r) (i + 1) (ps.drop (i + 1)) && endT h ps cs))) := by
      intro b
      refine eround (fun k => by rw [spec_GoodTable.j1]) ?_
      cases b with
      | true => exact epos rfl (enow rfl)
      | false =>
        refine eneg (by decide) (epos (by omega) (epos (by omega) (enb rfl ?_)))
        have := specGTb_l1 h ps cs hs r hr i (by omega) _ (by rw [w64 (by omega) (by omega)]; exact ih (i + 1) (by omega)) i 0 (by omega)
        exact this
    simp only [allI]
    rw [Bool.and_assoc, Bool.and_assoc]
    unfold inP
    by_cases h1 : (r.length : Int) = 2
    · refine epos h1 (epos (by omega) (enb (l1In_eq _ _ _) ?_))
      cases h2 : inR 0 (wrap64 (h - 1)) (rd r 0) with
      | false => refine eneg (by decide) ?_; simpa [h2] using K true
      | true =>
        refine epos rfl (epos (by omega) (enb (l1In_eq _ _ _) ?_))
        cases h3 : inR 0 (wrap64 (h - 1)) (rd r 1) with
        | false => refine eneg (by decide) ?_; simpa [h2, h3] using K true
        | true => refine epos rfl ?_; rw [decide_eq_true h1, Bool.true_and, Bool.true_and, Bool.true_and]; exact K (decide (rd r 0 ≥ rd r 1))
    · refine eneg h1 ?_
      simpa [h1] using K true
theorem specGTb_e (h : Int) (ps : List (List Int)) (cs : List Int) (hs : smallP ps) (hc : cs.length ≤ 1048576) : Ev (fun k => spec_GoodTable.f k h ps cs) (goodTb h ps cs) := specGTb_l h ps cs hs hc ps.length 0 (by omega)
theorem implGTb1_e (p r : List Int) (hn : p.length ≤ 1048576) : Ev (fun k => impl_GoodTable_1.f k p r) (decide (p = r)) := by
  unfold impl_GoodTable_1.f
  exact ebind (slEq_e p r (by omega)) (enow rfl)
theorem ixP_l (ps : List (List Int)) (hs : smallP ps) (r : List Int) : ∀ (d i : Nat), i + d = ps.length → ∃ x : Int, Ev (fun k => slices_IndexFunc_147_at_126_22.l0 k ps (ps.length : Int) (i : Int) r) x ∧ (x ≥ 0 ↔ (ps.drop i).any (fun p => decide (p = r)) = true) := by
  have hn := hs.1
  intro d
  induction d with
  | zero =>
    intro i hi
    refine ⟨-1, eround (fun k => by rw [slices_IndexFunc_147_at_126_22.l0]) (eneg (by omega) (enow rfl)), ?_⟩
    rw [List.drop_eq_nil_of_le (by omega)]; simp
  | succ d ih =>
    intro i hi
    have hlt : i < ps.length := by omega
    obtain ⟨x, h1, h3⟩ := ih (i + 1) (by omega)
    rw [List.drop_eq_getElem_cons hlt, List.any_cons]
    by_cases e : ps[i] = r
    · refine ⟨(i : Int), eround (fun k => by rw [slices_IndexFunc_147_at_126_22.l0]) (epos (by omega) (epos (by omega) (epos (by omega) ?_))), by simp [e]⟩
      rw [show rd_L1 ps (i : Int) = ps[i] from getD_get _ i _ hlt]
      exact ebind (implGTb1_e _ _ (hs.2 _ (List.getElem_mem hlt))) (epos (by simp [e]) (enow rfl))
    · refine ⟨x, eround (fun k => by rw [slices_IndexFunc_147_at_126_22.l0]) (epos (by omega) (epos (by omega) (epos (by omega) ?_))), by rw [decide_eq_false e, Bool.false_or]; exact h3⟩
      rw [show rd_L1 ps (i : Int) = ps[i] from getD_get _ i _ hlt]
      refine ebind (implGTb1_e _ _ (hs.2 _ (List.getElem_mem hlt))) (eneg (by simp [e]) ?_)
      rw [w64 (by omega) (by omega)]
      exact h1
theorem coP_e (ps : List (List Int)) (hs : smallP ps) (r : List Int) : Ev (fun k => slices_ContainsFunc_125_at_126_22.f k ps r) (ps.any (fun p => decide (p = r))) := by
  obtain ⟨x, h1, h3⟩ := ixP_l ps hs r ps.length 0 (by omega)
  refine ebind (f := fun _ t => some (decide (t ≥ 0))) h1 (enow ?_)
  rw [List.drop_zero] at h3
  cases e : ps.any (fun p => decide (p = r)) with
  | true => rw [e] at h3; simpa using h3
  | false => rw [e] at h3; simpa using h3
theorem smallP_take {ps : List (List Int)} (hs : smallP ps) (i : Nat) : smallP (ps.take i) := ⟨by simp; have := hs.1; omega, fun p hp => hs.2 p (List.mem_of_mem_take hp)⟩
theorem inP_impl (h : Int) (h1 : inR 1 6 h = true) (r : List Int) : inP h r = (decide ((r.length : Int) = 2) && (!decide (rd r 0 < 0) && (!decide (rd r 0 ≥ rd r 1) && !decide (rd r 1 ≥ h)))) := by
  rw [inR_iff] at h1
  unfold inP
  rw [w64 (by omega) (by omega), Bool.eq_iff_iff]
  simp only [Bool.and_eq_true, inR_iff, decide_eq_true_eq, Bool.not_eq_true', decide_eq_false_iff_not]
  omega
theorem implGTb_l (h : Int) (h0 : inR 1 6 h = true) (ps : List (List Int)) (cs : List Int) (hs : smallP ps) : ∀ (d i : Nat), i + d = ps.length → Ev (fun k => impl_GoodTable.l0 k ps (ps.length : Int) (i : Int) h ps cs) (allI (fun i r => inP h r && newP ps i r) i (ps.drop i)) := by
  have hn := hs.1
  intro d
  induction d with
  | zero =>
    intro i hi
    refine eround (fun k => by rw [impl_GoodTable.l0]) (eneg (by omega) (enow ?_))
    rw [List.drop_eq_nil_of_le (by omega)]; rfl
  | succ d ih =>
    intro i hi
    have hlt : i < ps.length := by omega
    refine eround (fun k => by rw [impl_GoodTable.l0]) (epos (by omega) (epos (by omega) (epos (by omega) ?_)))
    rw [show rd_L1 ps (i : Int) = ps[i] from getD_get _ i _ hlt, List.drop_eq_getElem_cons hlt]
    have hr := hs.2 _ (List.getElem_mem hlt)
    generalize ps[i] = r at hr
    have K : ∀ b : Bool, Ev (fun k => impl_GoodTable.j2 k (i : Int) ps (ps.length : Int) (i : Int) b h ps cs r) (!b && (newP ps i r && allI (fun i r => inP h r && newP ps i r) (i + 1) (ps.drop (i + 1)))) := by
      intro b
      refine eround (fun k => by rw [impl_GoodTable.j2]) ?_
      cases b with
      | true => exact epos rfl (enow rfl)
      | false =>
        refine eneg (by decide) (epos (by omega) (epos (by omega) (ebind (coP_e _ (smallP_take hs _) r) ?_)))
        rw [show ((i : Int)).toNat = i by simp, w64 (by omega) (by omega)]
        unfold newP
        cases e : (ps.take i).any (fun p => decide (p = r)) with
        | true => exact epos rfl (enow rfl)
        | false => refine eneg (by decide) ?_; simpa [newP] using ih (i + 1) (by omega)
    simp only [allI]
    rw [Bool.and_assoc, inP_impl h h0]
    by_cases h1 : (r.length : Int) = 2
    · refine epos h1 (epos (by omega) ?_)
      by_cases h2 : rd r 0 < 0
      · refine epos h2 ?_; simpa [h2] using K true
      · refine eneg h2 (epos (by omega) ?_)
        by_cases h3 : rd r 0 ≥ rd r 1
        · refine epos h3 ?_; simpa [h3] using K true
        · refine eneg h3 ?_; simpa [h1, h2, h3] using K (decide (rd r 1 ≥ h))
    · refine eneg h1 ?_
      simpa [h1] using K true
theorem implGTb_e (h : Int) (ps : List (List Int)) (cs : List Int) (hs : smallP ps) (hc : cs.length ≤ 1048576) : Ev (fun k => impl_GoodTable.f k h ps cs) (goodTb h ps cs) := by
  unfold impl_GoodTable.f goodTb endT
  have J : ∀ b, inR 1 6 h = true ∨ b = true → Ev (fun k => impl_GoodTable.j0 k b h ps cs) (!b && allI (fun i r => inP h r && newP ps i r) 0 ps) := by
    intro b hb
    refine eround (fun k => by rw [impl_GoodTable.j0]) ?_
    cases b with
    | true => exact epos rfl (enow rfl)
    | false => exact eneg (by decide) (by simpa using implGTb_l h (by simpa using hb) ps cs hs ps.length 0 (by omega))
  refine enb (within_eq _ _ _) ?_
  cases h1 : inR 1 6 h with
  | false => refine eneg (by decide) ?_; simpa using J true (Or.inr rfl)
  | true =>
    refine epos rfl ?_
    by_cases h2 : (ps.length : Int) > 15
    · refine epos h2 ?_
      have : ¬ (ps.length : Int) ≤ 15 := by omega
      simpa [this] using J true (Or.inr rfl)
    · refine eneg h2 ?_
      have : (ps.length : Int) ≤ 15 := by omega
      by_cases h3 : (cs.length : Int) = (ps.length : Int)
      · refine epos h3 (ebind (allWithin_e cs 0 255 (by omega)) ?_)
        have := J (!cs.all (inR 0 255)) (Or.inl h1)
        simpa [h3, ‹(ps.length : Int) ≤ 15›, Bool.and_comm] using this
      · refine eneg h3 ?_
        simpa [h3] using J true (Or.inr rfl)
theorem allI_mem {α : Type} {p : Nat → α → Bool} {q : α → Prop} (hq : ∀ i x, p i x = true → q x) : ∀ (xs : List α) (i : Nat), allI p i xs = true → ∀ x ∈ xs, q x
  | [], _, _, x, hx => by simp at hx
  | y :: ys, i, h, x, hx => by
    simp only [allI, Bool.and_eq_true] at h
    rcases List.mem_cons.1 hx with rfl | hx
    · exact hq i _ h.1
    · exact allI_mem hq ys (i + 1) h.2 x hx
theorem goodTb_two {h : Int} {ps : List (List Int)} {cs : List Int} (g : goodTb h ps cs = true) : (∀ r ∈ ps, r.length = 2) ∧ cs.length = ps.length ∧ 1 ≤ h ∧ h ≤ 6 ∧ ps.length ≤ 15 := by
  unfold goodTb endT at g
  simp only [Bool.and_eq_true, decide_eq_true_eq] at g
  have := inR_iff.1 g.2.1
  refine ⟨allI_mem (fun i r hp => ?_) ps 0 g.1, by omega, this.1, this.2, by omega⟩
  simp only [inP, Bool.and_eq_true, decide_eq_true_eq] at hp
  omega
/-! how far the seats are: what the two ways of counting have in common -/
def adj (ps : List (List Int)) (a b : Nat) : Prop := ∃ p ∈ ps, (rd p 0 = (a : Int) ∧ rd p 1 = (b : Int)) ∨ (rd p 0 = (b : Int) ∧ rd p 1 = (a : Int))
theorem adj_symm {ps : List (List Int)} {a b : Nat} (h : adj ps a b) : adj ps b a := by
  obtain ⟨p, hp, h⟩ := h
  exact ⟨p, hp, h.symm⟩
theorem rd_set {f : List Int} {i : Nat} (j : Nat) (x : Int) (hi : i < f.length) : rd (f.set i x) (j : Int) = if i = j then x else rd f (j : Int) := by
  simp only [rd, Int.toNat_natCast, List.getD_eq_getElem?_getD, List.getElem?_set]
  by_cases h : i = j
  · subst h; simp [hi]
  · simp [h]
theorem nodup_len : ∀ (l m : List Nat), l.Nodup → (∀ x ∈ l, x ∈ m) → l.length ≤ m.length
  | [], _, _, _ => Nat.zero_le _
  | x :: l, m, hd, hs => by
    rw [List.nodup_cons] at hd
    have hx := hs x (by simp)
    have := nodup_len l (m.erase x) hd.2 (fun y hy => (List.mem_erase_of_ne (fun e => hd.1 (by rw [← e]; exact hy))).2 (hs y (by simp [hy])))
    rw [List.length_erase_of_mem hx] at this
    have hp := List.length_pos_of_mem hx
    simp only [List.length_cons]; omega
structure Dist (ps : List (List Int)) (h to_ : Nat) (f : List Int) : Prop where
  len : f.length = h
  lo : ∀ v, v < h → -1 ≤ rd f (v : Int)
  p1 : rd f (to_ : Int) = 0
  p2 : ∀ u v, u < h → v < h → adj ps u v → 0 ≤ rd f (u : Int) → 0 ≤ rd f (v : Int) ∧ rd f (v : Int) ≤ rd f (u : Int) + 1
  p3 : ∀ v, v < h → 0 ≤ rd f (v : Int) → v = to_ ∨ ∃ u, u < h ∧ adj ps u v ∧ 0 ≤ rd f (u : Int) ∧ rd f (v : Int) = rd f (u : Int) + 1
theorem Dist.le {ps : List (List Int)} {h to_ : Nat} {f g : List Int} (hf : Dist ps h to_ f) (hg : Dist ps h to_ g) : ∀ (n v : Nat), v < h → rd f (v : Int) = (n : Int) → 0 ≤ rd g (v : Int) ∧ rd g (v : Int) ≤ (n : Int) := by
  intro n
  induction n with
  | zero =>
    intro v hv e
    rcases hf.p3 v hv (by omega) with rfl | ⟨u, _, _, h1, h2⟩
    · have := hg.p1; omega
    · omega
  | succ n ih =>
    intro v hv e
    rcases hf.p3 v hv (by omega) with rfl | ⟨u, hu, ha, h1, h2⟩
    · have := hg.p1; omega
    · have := ih u hu (by omega)
      have := hg.p2 u v hu hv ha this.1
      omega
theorem Dist.eq {ps : List (List Int)} {h to_ : Nat} {f g : List Int} (hf : Dist ps h to_ f) (hg : Dist ps h to_ g) : f = g := by
  apply List.ext_getElem (by rw [hf.len, hg.len])
  intro v h1 h2
  have hv : v < h := by have := hf.len; omega
  rw [← rd_get f v h1, ← rd_get g v h2]
  have a := hf.lo v hv
  have b := hg.lo v hv
  by_cases c : 0 ≤ rd f (v : Int)
  · obtain ⟨n, e⟩ := Int.eq_ofNat_of_zero_le c
    have x := Dist.le hf hg n v hv e
    obtain ⟨m, e2⟩ := Int.eq_ofNat_of_zero_le x.1
    have y := Dist.le hg hf m v hv e2
    omega
  · by_cases d : 0 ≤ rd g (v : Int)
    · obtain ⟨m, e2⟩ := Int.eq_ofNat_of_zero_le d
      have y := Dist.le hg hf m v hv e2
      omega
    · omega
/-! what stays when a seat is met from another one -/
structure Half (ps : List (List Int)) (h to_ : Nat) (f : List Int) : Prop where
  len : f.length = h
  lo : ∀ v, v < h → -1 ≤ rd f (v : Int)
  p1 : rd f (to_ : Int) = 0
  p3 : ∀ v, v < h → 0 ≤ rd f (v : Int) → v = to_ ∨ ∃ u, u < h ∧ adj ps u v ∧ 0 ≤ rd f (u : Int) ∧ rd f (v : Int) = rd f (u : Int) + 1
theorem Half.upd {ps : List (List Int)} {h to_ : Nat} {f : List Int} (H : Half ps h to_ f) {s u : Nat} (hs : s < h) (hu : u < h) (h0 : rd f (s : Int) < 0) (h1 : 0 ≤ rd f (u : Int)) (ha : adj ps u s) : Half ps h to_ (f.set s (rd f (u : Int) + 1)) := by
  have hl := H.len
  have hr : ∀ v : Nat, rd (f.set s (rd f (u : Int) + 1)) (v : Int) = if s = v then rd f (u : Int) + 1 else rd f (v : Int) := fun v => rd_set v _ (by omega)
  refine ⟨by rw [List.length_set]; exact hl, fun v hv => ?_, ?_, fun v hv h2 => ?_⟩
  · rw [hr]; split
    · omega
    · exact H.lo v hv
  · rw [hr, if_neg (fun e => by have := H.p1; rw [← e] at this; omega)]; exact H.p1
  · rw [hr] at h2 ⊢
    by_cases e : s = v
    · subst e
      rw [if_pos rfl]
      exact Or.inr ⟨u, hu, ha, by rw [hr, if_neg (fun e => by rw [← e] at h1; omega)]; exact h1, by rw [hr, if_neg (fun e => by rw [← e] at h1; omega)]⟩
    · rw [if_neg e] at h2 ⊢
      rcases H.p3 v hv h2 with rfl | ⟨x, hx, a1, a2, a3⟩
      · exact Or.inl rfl
      · have hne : s ≠ x := fun e => by rw [← e] at a2; omega
        exact Or.inr ⟨x, hx, a1, by rw [hr, if_neg hne]; exact a2, by rw [hr, if_neg hne]; exact a3⟩
/-! the program: seats in the order in which they are met -/
structure Bfs (ps : List (List Int)) (h to_ : Nat) (f : List Int) (q : List Nat) : Prop extends Half ps h to_ f where
  qlt : ∀ x ∈ q, x < h
  mem : ∀ v, v < h → (0 ≤ rd f (v : Int) ↔ v ∈ q)
  nd : q.Nodup
  mono : ∀ (i j : Nat) (hij : i < j) (hj : j < q.length), rd f ((q[i]'(by omega) : Nat) : Int) ≤ rd f ((q[j] : Nat) : Int)
theorem Bfs.qlen {ps : List (List Int)} {h to_ : Nat} {f : List Int} {q : List Nat} (B : Bfs ps h to_ f q) : q.length ≤ h := by
  have := nodup_len q (List.range h) B.nd (fun x hx => List.mem_range.2 (B.qlt x hx))
  simpa using this
theorem Bfs.upd {ps : List (List Int)} {h to_ : Nat} {f : List Int} {q : List Nat} (B : Bfs ps h to_ f q) {s u : Nat} (hs : s < h) (hu : u < h) (h0 : rd f (s : Int) < 0) (h1 : 0 ≤ rd f (u : Int)) (ha : adj ps u s) (D : ∀ x ∈ q, rd f (x : Int) ≤ rd f (u : Int) + 1) :
    Bfs ps h to_ (f.set s (rd f (u : Int) + 1)) (q ++ [s]) := by
  have hl := B.len
  have hr : ∀ v : Nat, rd (f.set s (rd f (u : Int) + 1)) (v : Int) = if s = v then rd f (u : Int) + 1 else rd f (v : Int) := fun v => rd_set v _ (by omega)
  have hsq : s ∉ q := fun hm => by have := (B.mem s hs).2 hm; omega
  refine ⟨B.toHalf.upd hs hu h0 h1 ha, fun x hx => ?_, fun v hv => ?_, ?_, fun i j hij hj => ?_⟩
  · rcases List.mem_append.1 hx with hx | hx
    · exact B.qlt x hx
    · rw [List.mem_singleton] at hx; omega
  · rw [hr, List.mem_append, List.mem_singleton]
    by_cases e : s = v
    · rw [if_pos e]; exact ⟨fun _ => Or.inr e.symm, fun _ => by omega⟩
    · rw [if_neg e, B.mem v hv]
      exact ⟨Or.inl, fun z => z.elim id (fun z => absurd z.symm e)⟩
  · rw [List.nodup_append]
    refine ⟨B.nd, by simp, fun a ha b hb => ?_⟩
    rw [List.mem_singleton] at hb
    exact fun e => hsq (by rw [← hb, ← e]; exact ha)
  · rw [List.length_append, List.length_singleton] at hj
    have hi : i < q.length := by omega
    rw [List.getElem_append_left hi, hr, if_neg (fun e => hsq (by rw [e]; exact List.getElem_mem hi))]
    by_cases hj2 : j < q.length
    · rw [List.getElem_append_left hj2, hr, if_neg (fun e => hsq (by rw [e]; exact List.getElem_mem hj2))]
      exact B.mono i j hij hj2
    · rw [List.getElem_append_right (by omega)]
      have e : ([s] : List Nat)[j - q.length]'(by simp; omega) = s := by simp
      rw [e, hr, if_pos rfl]
      exact D _ (List.getElem_mem hi)
def castL (q : List Nat) : List Int := q.map (fun (n : Nat) => (n : Int))
theorem castL_len (q : List Nat) : (castL q).length = q.length := by simp [castL]
theorem castL_rd (q : List Nat) (k : Nat) (hk : k < q.length) : rd (castL q) (k : Int) = ((q[k] : Nat) : Int) := by
  rw [rd_get _ k (by rw [castL_len]; exact hk)]; simp [castL]
theorem castL_snoc (q : List Nat) (s : Nat) : castL q ++ [(s : Int)] = castL (q ++ [s]) := by simp [castL]
/-! pairs -/
theorem pairImpl_l (ps : List (List Int)) (hs : smallP ps) (r : List Int) : ∀ (d i : Nat), i + d = ps.length → ∃ x : Int, Ev (fun k => slices_IndexFunc_147_at_155_22.l0 k ps (ps.length : Int) (i : Int) r) x ∧ (x ≥ 0 ↔ (ps.drop i).any (fun p => decide (p = r)) = true) ∧ -1 ≤ x ∧ (x ≥ 0 → ∃ j : Nat, x = (j : Int) ∧ i ≤ j ∧ ∃ hj : j < ps.length, ps[j] = r) ∧ (∀ j (hj : j < ps.length), i ≤ j → ps[j] = r → 0 ≤ x ∧ x ≤ (j : Int)) := by
  have hn := hs.1
  intro d
  induction d with
  | zero =>
    intro i hi
    refine ⟨-1, eround (fun k => by rw [slices_IndexFunc_147_at_155_22.l0]) (eneg (by omega) (enow rfl)), ?_, by omega, by omega, fun j hj h => by omega⟩
    rw [List.drop_eq_nil_of_le (by omega)]; simp
  | succ d ih =>
    intro i hi
    have hlt : i < ps.length := by omega
    obtain ⟨x, h1, h2, h3, h4, h5⟩ := ih (i + 1) (by omega)
    have he : Ev (fun k => impl_Table_pair_1.f k ps[i] r) (decide (ps[i] = r)) := by
      have := implGTb1_e ps[i] r (by have := hs.2 _ (List.getElem_mem hlt); omega)
      exact this
    rw [List.drop_eq_getElem_cons hlt, List.any_cons]
    by_cases e : ps[i] = r
    · refine ⟨(i : Int), eround (fun k => by rw [slices_IndexFunc_147_at_155_22.l0]) (epos (by omega) (epos (by omega) (epos (by omega) ?_))), by simp [e], by omega, fun _ => ⟨i, rfl, Nat.le_refl _, hlt, e⟩, fun j hj h _ => by omega⟩
      rw [show rd_L1 ps (i : Int) = ps[i] from getD_get _ i _ hlt]
      exact ebind he (epos (by simp [e]) (enow rfl))
    · refine ⟨x, eround (fun k => by rw [slices_IndexFunc_147_at_155_22.l0]) (epos (by omega) (epos (by omega) (epos (by omega) ?_))), by simp only [e, decide_false, Bool.false_or]; exact h2, h3, fun hx => ?_, fun j hj h hj2 => ?_⟩
      · rw [show rd_L1 ps (i : Int) = ps[i] from getD_get _ i _ hlt]
        refine ebind he (eneg (by simp [e]) ?_)
        rw [w64 (by omega) (by omega)]
        exact h1
      · obtain ⟨j, q1, q2, q3⟩ := h4 hx
        exact ⟨j, q1, by omega, q3⟩
      · have : i ≠ j := fun e2 => by subst e2; exact e hj2
        exact h5 j hj (by omega) hj2
/-- Good pairs: two seats each, the lesser one first. -/
def goodP (h : Nat) (ps : List (List Int)) : Prop := smallP ps ∧ ∀ p ∈ ps, p.length = 2 ∧ 0 ≤ rd p 0 ∧ rd p 0 < rd p 1 ∧ rd p 1 < (h : Int)
theorem two_eq {p : List Int} (hp : p.length = 2) (a b : Int) : p = [a, b] ↔ rd p 0 = a ∧ rd p 1 = b := by
  match p, hp with
  | [x, y], _ => simp [rd]
theorem pair_is {h : Nat} {ps : List (List Int)} (g : goodP h ps) (a b : Nat) {p : List Int} (hp : p ∈ ps) : p = [mn (a : Int) (b : Int), mx (a : Int) (b : Int)] ↔ (rd p 0 = (a : Int) ∧ rd p 1 = (b : Int)) ∨ (rd p 0 = (b : Int) ∧ rd p 1 = (a : Int)) := by
  obtain ⟨h1, h2, h3, h4⟩ := g.2 p hp
  rw [two_eq h1]
  unfold mn mx
  by_cases c : (a : Int) < (b : Int)
  · simp only [c, if_true]
    omega
  · simp only [c, if_false]
    omega
theorem pairImpl_e {h : Nat} {ps : List (List Int)} (g : goodP h ps) (cs : List Int) (a b : Nat) : ∃ x : Int, Ev (fun k => impl_Table_pair.f k (h : Int) ps cs (a : Int) (b : Int)) x ∧ (x ≥ 0 ↔ adj ps a b) ∧ -1 ≤ x := by
  obtain ⟨x, h1, h2, h3, _⟩ := pairImpl_l ps g.1 [mn (a : Int) (b : Int), mx (a : Int) (b : Int)] ps.length 0 (by omega)
  refine ⟨x, ebind (f := fun _ t => some t) h1 (enow rfl), ?_, h3⟩
  rw [h2, List.drop_zero, List.any_eq_true]
  constructor
  · rintro ⟨p, hp, e⟩
    exact ⟨p, hp, (pair_is g a b hp).1 (of_decide_eq_true e)⟩
  · rintro ⟨p, hp, e⟩
    exact ⟨p, hp, decide_eq_true ((pair_is g a b hp).2 e)⟩
def doneQ (ps : List (List Int)) (h : Nat) (f : List Int) (q : List Nat) (k : Nat) : Prop := ∀ i, i < k → ∀ (hi : i < q.length), ∀ v, v < h → adj ps q[i] v → 0 ≤ rd f (v : Int) ∧ rd f (v : Int) ≤ rd f ((q[i] : Nat) : Int) + 1
def nearQ (f : List Int) (q : List Nat) (k : Nat) : Prop := ∀ (hk : k < q.length), ∀ x ∈ q, rd f (x : Int) ≤ rd f ((q[k] : Nat) : Int) + 1
theorem Bfs.hi {ps : List (List Int)} {h to_ : Nat} {f : List Int} {q : List Nat} (B : Bfs ps h to_ f q) (k : Nat) (hk : k < q.length) (D : nearQ f q k) (n : Nat) (hd : ∀ x ∈ q, rd f (x : Int) ≤ n) : True := trivial
theorem implFar_l1 {h to_ : Nat} (hh : h ≤ 6) {ps : List (List Int)} (g : goodP h ps) (cs : List Int) (k : Nat)
    (next : ∀ f q, k + 1 ≤ q.length → Bfs ps h to_ f q → (∀ v, v < h → rd f (v : Int) ≤ k + 1) → doneQ ps h f q (k + 1) → nearQ f q (k + 1) → ∃ f', Dist ps h to_ f' ∧ Ev (fun kk => impl_Table_far.l0 kk f (castL q) ((k + 1 : Nat) : Int) (h : Int) ps cs) f') :
    ∀ (d s : Nat) (f : List Int) (q : List Nat), s + d = h → ∀ (hk : k < q.length), Bfs ps h to_ f q → (∀ v, v < h → rd f (v : Int) ≤ k + 1) → rd f ((q[k] : Nat) : Int) ≤ k → doneQ ps h f q k → nearQ f q k → (∀ v, v < s → adj ps q[k] v → 0 ≤ rd f (v : Int)) →
    ∃ f', Dist ps h to_ f' ∧ Ev (fun kk => impl_Table_far.l1 kk f (castL q) (k : Int) (h : Int) (s : Int) (h : Int) ps cs) f' := by
  intro d
  induction d with
  | zero =>
    intro s f q hs hk B hhi huk C D E
    obtain ⟨f', h1, h2⟩ := next f q hk B hhi (fun i hi hi2 v hv ha => by
      by_cases e : i < k
      · exact C i e hi2 v hv ha
      · obtain rfl : i = k := by omega
        have h0 := E v (by omega) ha
        exact ⟨h0, D hk v ((B.mem v hv).1 h0)⟩) (fun hk2 x hx => by
      have := D hk x hx
      have := B.mono k (k + 1) (by omega) hk2
      omega)
    refine ⟨f', h1, eround (fun k => by rw [impl_Table_far.l1]) (eneg (by omega) ?_)⟩
    have := B.qlen
    rw [w64 (by omega) (by omega)]
    exact h2
  | succ d ih =>
    intro s f q hs hk B hhi huk C D E
    have hql := B.qlen
    have hlen := B.len
    have hsl : s < h := by omega
    have hu := B.qlt q[k] (List.getElem_mem hk)
    have hu0 := (B.mem q[k] hu).2 (List.getElem_mem hk)
    have w1 : wrap64 ((s : Int) + 1) = ((s + 1 : Nat) : Int) := by rw [w64 (by omega) (by omega)]; omega
    by_cases c : rd f (s : Int) < 0
    · obtain ⟨x, e1, e2, e3⟩ := pairImpl_e g cs s q[k]
      by_cases a : adj ps s q[k]
      · have B' := B.upd hsl hu c hu0 (adj_symm a) (D hk)
        have hsq : s ∉ q := fun hm => by have := (B.mem s hsl).2 hm; omega
        have hr : ∀ v : Nat, rd (f.set s (rd f ((q[k] : Nat) : Int) + 1)) (v : Int) = if s = v then rd f ((q[k] : Nat) : Int) + 1 else rd f (v : Int) := fun v => rd_set v _ (by omega)
        have hrq : ∀ i (hi : i < q.length), rd (f.set s (rd f ((q[k] : Nat) : Int) + 1)) ((q[i] : Nat) : Int) = rd f ((q[i] : Nat) : Int) := fun i hi => by rw [hr, if_neg (fun e => hsq (by rw [e]; exact List.getElem_mem hi))]
        have hq' : ∀ i (hi : i < q.length), (q ++ [s])[i]'(by simp; omega) = q[i] := fun i hi => List.getElem_append_left hi
        obtain ⟨f', h1, h2⟩ := ih (s + 1) _ (q ++ [s]) (by omega) (by simp; omega) B' (fun v hv => by rw [hr]; split; omega; exact hhi v hv) (by rw [hq' k hk, hrq k hk]; exact huk)
          (fun i hi hi2 v hv ha => by
            rw [hq' i (by omega)] at ha ⊢
            rw [hrq i (by omega), hr]
            have := C i hi (by omega) v hv ha
            rw [if_neg (fun e => by subst e; omega)]
            exact this)
          (fun hk2 x hx => by
            rw [hq' k hk, hrq k hk, hr]
            by_cases e : s = x
            · rw [if_pos e]; omega
            · rw [if_neg e]
              rcases List.mem_append.1 hx with hx | hx
              · exact D hk x hx
              · rw [List.mem_singleton] at hx; exact absurd hx.symm e)
          (fun v hv ha => by
            rw [hq' k hk] at ha
            rw [hr]
            by_cases e : s = v
            · rw [if_pos e]; omega
            · rw [if_neg e]; exact E v (by omega) ha)
        refine ⟨f', h1, eround (fun k => by rw [impl_Table_far.l1]) (epos (by omega) (epos (by omega) (epos (by omega) (epos c ?_))))⟩
        rw [castL_len, castL_rd q k hk]
        refine epos (by omega) (epos (by omega) ?_)
        refine ebind e1 ?_
        refine epos (e2.2 a) (epos (by omega) (epos (by omega) (epos (by omega) ?_)))
        rw [w1, castL_snoc, w64 (x := rd f ((q[k] : Nat) : Int) + 1) (by omega) (by omega), Int.toNat_natCast]
        exact h2
      · obtain ⟨f', h1, h2⟩ := ih (s + 1) f q (by omega) hk B hhi huk C D (fun v hv ha => by
          by_cases e : v = s
          · subst e; exact absurd (adj_symm ha) a
          · exact E v (by omega) ha)
        refine ⟨f', h1, eround (fun k => by rw [impl_Table_far.l1]) (epos (by omega) (epos (by omega) (epos (by omega) (epos c ?_))))⟩
        rw [castL_len, castL_rd q k hk]
        refine epos (by omega) (epos (by omega) ?_)
        refine ebind e1 ?_
        refine eneg (fun z => a (e2.1 z)) ?_
        rw [w1]
        exact h2
    · obtain ⟨f', h1, h2⟩ := ih (s + 1) f q (by omega) hk B hhi huk C D (fun v hv ha => by
        by_cases e : v = s
        · subst e; omega
        · exact E v (by omega) ha)
      refine ⟨f', h1, eround (fun k => by rw [impl_Table_far.l1]) (epos (by omega) (epos (by omega) (epos (by omega) (eneg c ?_))))⟩
      rw [w1]
      exact h2
theorem implFar_l0 {h to_ : Nat} (hh : h ≤ 6) {ps : List (List Int)} (g : goodP h ps) (cs : List Int) : ∀ (d k : Nat) (f : List Int) (q : List Nat), h ≤ k + d → k ≤ q.length → Bfs ps h to_ f q → (∀ v, v < h → rd f (v : Int) ≤ k) → doneQ ps h f q k → nearQ f q k →
    ∃ f', Dist ps h to_ f' ∧ Ev (fun kk => impl_Table_far.l0 kk f (castL q) (k : Int) (h : Int) ps cs) f' := by
  intro d
  have fin : ∀ (k : Nat) (f : List Int) (q : List Nat), k = q.length → Bfs ps h to_ f q → doneQ ps h f q k → ∃ f', Dist ps h to_ f' ∧ Ev (fun kk => impl_Table_far.l0 kk f (castL q) (k : Int) (h : Int) ps cs) f' := by
    intro k f q hk B C
    refine ⟨f, ⟨B.len, B.lo, B.p1, fun u v hu hv ha h0 => ?_, B.p3⟩, eround (fun k => by rw [impl_Table_far.l0]) (eneg (by rw [castL_len]; omega) (enow rfl))⟩
    obtain ⟨i, hi, e⟩ := List.getElem_of_mem ((B.mem u hu).1 h0)
    have := C i (by omega) hi v hv (by rw [e]; exact ha)
    rw [e] at this
    exact this
  induction d with
  | zero =>
    intro k f q hd hk B _ C _
    have := B.qlen
    exact fin k f q (by omega) B C
  | succ d ih =>
    intro k f q hd hk B hhi C D
    by_cases c : k < q.length
    · have hql := B.qlen
      have hu := B.qlt q[k] (List.getElem_mem c)
      obtain ⟨f', h1, h2⟩ := implFar_l1 hh g cs k (fun f q hk B hhi C D => ih (k + 1) f q (by omega) hk B (fun v hv => by have := hhi v hv; push_cast; omega) C D) h 0 f q (by omega) c B (fun v hv => by have := hhi v hv; omega) (hhi _ hu) C D (fun v hv => by omega)
      refine ⟨f', h1, eround (fun k => by rw [impl_Table_far.l0]) (epos (by rw [castL_len]; omega) ?_)⟩
      rw [B.len]
      exact h2
    · exact fin k f q (by omega) B C
theorem repl_rd (h : Nat) (v : Nat) (hv : v < h) : rd (List.replicate h (-1 : Int)) (v : Int) = -1 := by
  rw [rd_get _ v (by simp; exact hv)]; simp
theorem first_half {h to_ : Nat} (ht : to_ < h) (ps : List (List Int)) : Half ps h to_ ((List.replicate h (-1 : Int)).set to_ 0) := by
  have hr : ∀ v : Nat, rd ((List.replicate h (-1 : Int)).set to_ 0) (v : Int) = if to_ = v then 0 else rd (List.replicate h (-1 : Int)) (v : Int) := fun v => rd_set v _ (by simp; exact ht)
  refine ⟨by simp, fun v hv => ?_, by rw [hr, if_pos rfl], fun v hv h0 => ?_⟩
  · rw [hr]; split
    · omega
    · rw [repl_rd h v hv]; omega
  · rw [hr] at h0
    by_cases e : to_ = v
    · exact Or.inl e.symm
    · rw [if_neg e, repl_rd h v hv] at h0; omega
theorem first_lt {h to_ : Nat} (ht : to_ < h) (v : Nat) (hv : v < h) : rd ((List.replicate h (-1 : Int)).set to_ 0) (v : Int) = if to_ = v then 0 else -1 := by
  rw [rd_set v _ (by simp; exact ht)]
  split
  · rfl
  · exact repl_rd h v hv
theorem mul_small : ∀ n : Nat, 1 ≤ n → n ≤ 6 → bits_Mul.f 1 (n : Int) = some (0, (n : Int)) := by
  intro n h1 h6
  obtain rfl | rfl | rfl | rfl | rfl | rfl : n = 1 ∨ n = 2 ∨ n = 3 ∨ n = 4 ∨ n = 5 ∨ n = 6 := by omega
  all_goals decide
theorem implFar_e {h to_ : Nat} (h1 : 1 ≤ h) (hh : h ≤ 6) (ht : to_ < h) {ps : List (List Int)} (g : goodP h ps) (cs : List Int) : ∃ f, Dist ps h to_ f ∧ Ev (fun kk => impl_Table_far.f kk (h : Int) ps cs (to_ : Int)) f := by
  have hr := first_lt ht
  have B : Bfs ps h to_ ((List.replicate h (-1 : Int)).set to_ 0) [to_] := by
    refine ⟨first_half ht ps, fun x hx => ?_, fun v hv => ?_, by simp, fun i j hij hj => ?_⟩
    · rw [List.mem_singleton] at hx; omega
    · rw [hr v hv, List.mem_singleton]
      by_cases e : to_ = v
      · simp [e]
      · rw [if_neg e]; exact ⟨fun z => by omega, fun z => absurd z.symm e⟩
    · simp at hj; omega
  obtain ⟨f, d1, d2⟩ := implFar_l0 hh g cs h 0 _ [to_] (by omega) (by simp) B (fun v hv => by rw [hr v hv]; split <;> omega) (fun i hi => by omega) (fun hk x hx => by rw [List.mem_singleton] at hx; subst hx; simp only [List.getElem_cons_zero]; omega)
  refine ⟨f, d1, ?_⟩
  unfold impl_Table_far.f
  refine enb (a := List.replicate h (-1)) ?_ ?_
  · unfold slices_Repeat_int_int.f
    rw [if_pos (by omega), if_pos (by omega), if_pos (by rfl), mul_small h h1 hh]
    simp [rd]
  · refine epos (by omega) (epos (by simp; omega) ?_)
    rw [Int.toNat_natCast]
    exact d2
theorem wsucc {j : Nat} (h : j ≤ 1048576) : wrap64 ((j : Int) + 1) = ((j + 1 : Nat) : Int) := by rw [w64 (by omega) (by omega)]; omega
theorem wsuc {j : Nat} (h : j ≤ 1048576) : wrap64 ((j : Int) + 1) = (j : Int) + 1 := w64 (by omega) (by omega)
structure Lev (ps : List (List Int)) (h to_ : Nat) (f : List Int) (d : Nat) : Prop extends Half ps h to_ f where
  p2 : ∀ u v, u < h → v < h → adj ps u v → 0 ≤ rd f (u : Int) → rd f (u : Int) < d → 0 ≤ rd f (v : Int) ∧ rd f (v : Int) ≤ rd f (u : Int) + 1
theorem Lev.upd {ps : List (List Int)} {h to_ : Nat} {f : List Int} {d : Nat} (L : Lev ps h to_ f d) {s u : Nat} (hs : s < h) (hu : u < h) (h0 : rd f (s : Int) < 0) (h1 : rd f (u : Int) = d) (ha : adj ps u s) : Lev ps h to_ (f.set s ((d : Int) + 1)) d := by
  have hl := L.len
  have hr : ∀ v : Nat, rd (f.set s ((d : Int) + 1)) (v : Int) = if s = v then (d : Int) + 1 else rd f (v : Int) := fun v => rd_set v _ (by omega)
  have H := L.toHalf.upd hs hu h0 (by omega) ha
  rw [h1] at H
  refine ⟨H, fun x y hx hy hxy h2 h3 => ?_⟩
  have hne : s ≠ x := fun e => by rw [hr, if_pos e] at h3; omega
  rw [hr x, if_neg hne] at h2 h3
  rw [hr x, hr y, if_neg hne]
  have := L.p2 x y hx hy hxy h2 h3
  have hne2 : s ≠ y := fun e => by rw [← e] at this; omega
  rw [if_neg hne2]
  exact this
/-- One pair of a round: what it does to the numbers. -/
def stepF (d : Int) (a b : Nat) (f : List Int) : List Int := if rd f (a : Int) = d ∧ rd f (b : Int) < 0 then f.set b (d + 1) else if rd f (b : Int) = d ∧ rd f (a : Int) < 0 then f.set a (d + 1) else f
def edgeOk (f : List Int) (d : Nat) (p : List Int) : Prop := (rd f (rd p 0) = (d : Int) → 0 ≤ rd f (rd p 1)) ∧ (rd f (rd p 1) = (d : Int) → 0 ≤ rd f (rd p 0))
theorem edge_upd {h : Nat} {f : List Int} {d s : Nat} (hl : f.length = h) (hs : s < h) (h0 : rd f (s : Int) < 0) {p : List Int} {a b : Nat} (ha : rd p 0 = (a : Int)) (hb : rd p 1 = (b : Int)) (E : edgeOk f d p) : edgeOk (f.set s ((d : Int) + 1)) d p := by
  have hr : ∀ v : Nat, rd (f.set s ((d : Int) + 1)) (v : Int) = if s = v then (d : Int) + 1 else rd f (v : Int) := fun v => rd_set v _ (by omega)
  unfold edgeOk at E ⊢
  rw [ha, hb] at E ⊢
  rw [hr, hr]
  constructor
  · intro z
    split
    · omega
    · refine E.1 ?_
      split at z
      · omega
      · exact z
  · intro z
    split
    · omega
    · refine E.2 ?_
      split at z
      · omega
      · exact z
theorem stepF_ok {ps : List (List Int)} {h to_ : Nat} {f : List Int} {d : Nat} (g : goodP h ps) (L : Lev ps h to_ f d) (hi : ∀ v, v < h → rd f (v : Int) ≤ (d : Int) + 1) {p : List Int} (hp : p ∈ ps) {a b : Nat} (ha : rd p 0 = (a : Int)) (hb : rd p 1 = (b : Int)) :
    Lev ps h to_ (stepF d a b f) d ∧ (∀ v, v < h → rd (stepF d a b f) (v : Int) ≤ (d : Int) + 1) ∧ edgeOk (stepF d a b f) d p ∧ (∀ p', (∃ a b : Nat, rd p' 0 = (a : Int) ∧ rd p' 1 = (b : Int)) → edgeOk f d p' → edgeOk (stepF d a b f) d p') := by
  obtain ⟨_, g1, g2, g3⟩ := g.2 p hp
  have hl := L.len
  have hah : a < h := by omega
  have hbh : b < h := by omega
  have hab : a ≠ b := by omega
  unfold stepF
  split
  · rename_i c
    have hr : ∀ v : Nat, rd (f.set b ((d : Int) + 1)) (v : Int) = if b = v then (d : Int) + 1 else rd f (v : Int) := fun v => rd_set v _ (by omega)
    refine ⟨L.upd hbh hah c.2 c.1 ⟨p, hp, Or.inl ⟨ha, hb⟩⟩, fun v hv => ?_, ?_, fun p' ⟨x, y, hx, hy⟩ E => edge_upd hl hbh c.2 hx hy E⟩
    · rw [hr]; split
      · omega
      · exact hi v hv
    · unfold edgeOk
      rw [ha, hb, hr, hr, if_pos rfl, if_neg (fun e => hab e.symm)]
      exact ⟨fun _ => by omega, fun z => by omega⟩
  · rename_i c
    split
    · rename_i c2
      have hr : ∀ v : Nat, rd (f.set a ((d : Int) + 1)) (v : Int) = if a = v then (d : Int) + 1 else rd f (v : Int) := fun v => rd_set v _ (by omega)
      refine ⟨L.upd hah hbh c2.2 c2.1 ⟨p, hp, Or.inr ⟨ha, hb⟩⟩, fun v hv => ?_, ?_, fun p' ⟨x, y, hx, hy⟩ E => edge_upd hl hah c2.2 hx hy E⟩
      · rw [hr]; split
        · omega
        · exact hi v hv
      · unfold edgeOk
        rw [ha, hb, hr, hr, if_pos rfl, if_neg hab]
        exact ⟨fun z => by omega, fun z => by omega⟩
    · rename_i c2
      refine ⟨L, hi, ?_, fun p' _ E => E⟩
      unfold edgeOk
      rw [ha, hb]
      exact ⟨fun z => Int.not_lt.1 (fun z2 => c ⟨z, z2⟩), fun z => Int.not_lt.1 (fun z2 => c2 ⟨z, z2⟩)⟩
theorem specFar_l2 {h to_ : Nat} (hh : h ≤ 6) {ps : List (List Int)} (g : goodP h ps) (cs : List Int) (d : Nat) (hd : d < h)
    (next : ∀ f, Lev ps h to_ f d → (∀ v, v < h → rd f (v : Int) ≤ (d : Int) + 1) → (∀ p ∈ ps, edgeOk f d p) → ∃ f', Dist ps h to_ f' ∧ Ev (fun kk => spec_l15Far.l1 kk f ((d + 1 : Nat) : Int) (h : Int) ps cs) f') :
    ∀ (m j : Nat) (f : List Int), j + m = ps.length → Lev ps h to_ f d → (∀ v, v < h → rd f (v : Int) ≤ (d : Int) + 1) → (∀ p ∈ ps.take j, edgeOk f d p) →
    ∃ f', Dist ps h to_ f' ∧ Ev (fun kk => spec_l15Far.l2 kk f (d : Int) ps (ps.length : Int) (j : Int) (h : Int) ps cs) f' := by
  have hn := g.1.1
  intro m
  induction m with
  | zero =>
    intro j f hj L hi E
    rw [List.take_of_length_le (by omega)] at E
    obtain ⟨f', h1, h2⟩ := next f L hi E
    refine ⟨f', h1, eround (fun k => by rw [spec_l15Far.l2]) (eneg (by omega) ?_)⟩
    rw [w64 (by omega) (by omega)]
    exact h2
  | succ m ih =>
    intro j f hj L hi E
    have hlt : j < ps.length := by omega
    have hp := List.getElem_mem hlt
    obtain ⟨g0, g1, g2, g3⟩ := g.2 ps[j] hp
    obtain ⟨a, ha⟩ := Int.eq_ofNat_of_zero_le g1
    obtain ⟨b, hb⟩ := Int.eq_ofNat_of_zero_le (show 0 ≤ rd ps[j] 1 by omega)
    have hl := L.len
    obtain ⟨s1, s2, s3, s4⟩ := stepF_ok g L hi hp ha hb
    obtain ⟨f', h1, h2⟩ := ih (j + 1) (stepF d a b f) (by omega) s1 s2 (fun p hp' => by
      rw [List.take_succ_eq_append_getElem hlt] at hp'
      rcases List.mem_append.1 hp' with hp' | hp'
      · obtain ⟨_, k1, k2, k3⟩ := g.2 p (List.mem_of_mem_take hp')
        obtain ⟨x, hx⟩ := Int.eq_ofNat_of_zero_le k1
        obtain ⟨y, hy⟩ := Int.eq_ofNat_of_zero_le (show 0 ≤ rd p 1 by omega)
        exact s4 p ⟨x, y, hx, hy⟩ (E p hp')
      · rw [List.mem_singleton] at hp'
        rw [hp']; exact s3)
    have hj6 : j ≤ 1048576 := by omega
    have hd6 : d ≤ 1048576 := by omega
    have hne : rd (f.set b ((d : Int) + 1)) (b : Int) ≠ (d : Int) := by rw [rd_set b _ (by omega), if_pos rfl]; omega
    have b1 : (a : Int) < (f.length : Int) := by omega
    have b2 : (b : Int) < (f.length : Int) := by omega
    have b3 : (0 : Int) ≤ (a : Int) := by omega
    have b4 : (0 : Int) ≤ (b : Int) := by omega
    have b5 : (0 : Int) < (ps[j].length : Int) := by omega
    have b6 : (1 : Int) < (ps[j].length : Int) := by omega
    have b7 : (b : Int) < ((f.set b ((d : Int) + 1)).length : Int) := by rw [List.length_set]; exact b2
    refine ⟨f', h1, eround (fun k => by rw [spec_l15Far.l2]) (epos (by omega) (epos (by omega) (epos (by omega) ?_)))⟩
    rw [show rd_L1 ps (j : Int) = ps[j] from getD_get _ j _ hlt, ha, hb]
    have jf : rd f (a : Int) ≠ (d : Int) ∨ ¬ rd f (b : Int) < 0 → Ev (fun kk => spec_l15Far.j3 kk f (d : Int) ps[j] ps (ps.length : Int) (j : Int) false (h : Int) ps cs) f' := by
      intro c
      have c' : ¬ (rd f (a : Int) = (d : Int) ∧ rd f (b : Int) < 0) := fun z => c.elim (fun z2 => z2 z.1) (fun z2 => z2 z.2)
      refine eround (fun k => by rw [spec_l15Far.j3]) (eneg (by decide) (epos b6 ?_))
      rw [ha, hb]
      refine epos b4 (epos b2 ?_)
      by_cases e1 : rd f (b : Int) = (d : Int)
      · refine epos e1 (epos b5 (epos b3 (epos b1 ?_)))
        by_cases e2 : rd f (a : Int) < 0
        · refine epos e2 ?_
          rw [wsucc hj6, wsuc hd6, Int.toNat_natCast]
          have : stepF d a b f = f.set a ((d : Int) + 1) := by unfold stepF; rw [if_neg c', if_pos ⟨e1, e2⟩]
          rw [← this]; exact h2
        · refine eneg e2 ?_
          rw [wsucc hj6]
          have : stepF d a b f = f := by unfold stepF; rw [if_neg c', if_neg (fun z => e2 z.2)]
          rw [this] at h2; exact h2
      · refine eneg e1 ?_
        rw [wsucc hj6]
        have : stepF d a b f = f := by unfold stepF; rw [if_neg c', if_neg (fun z => e1 z.1)]
        rw [this] at h2; exact h2
    refine epos b5 (epos b3 (epos b1 ?_))
    by_cases e1 : rd f (a : Int) = (d : Int)
    · refine epos e1 (epos b6 (epos b4 (epos b2 ?_)))
      by_cases e2 : rd f (b : Int) < 0
      · refine eround (fun k => by rw [spec_l15Far.j3]) (epos (decide_eq_true e2) (epos b6 ?_))
        rw [ha, hb]
        refine epos b4 (epos b2 ?_)
        refine enb rfl ?_
        rw [wsuc hd6, Int.toNat_natCast]
        refine eneg hne ?_
        rw [wsucc hj6]
        have : stepF d a b f = f.set b ((d : Int) + 1) := by unfold stepF; rw [if_pos ⟨e1, e2⟩]
        rw [← this]; exact h2
      · have := jf (Or.inr e2)
        rw [decide_eq_false e2]
        exact this
    · refine eneg e1 ?_
      exact jf (Or.inl e1)
theorem Half.depth {ps : List (List Int)} {h to_ : Nat} {f : List Int} (H : Half ps h to_ f) : ∀ (n v : Nat), v < h → rd f (v : Int) = (n : Int) → ∀ m, m ≤ n → ∃ x, x < h ∧ rd f (x : Int) = (m : Int) := by
  intro n
  induction n with
  | zero => intro v hv e m hm; exact ⟨v, hv, by rw [e]; omega⟩
  | succ n ih =>
    intro v hv e m hm
    by_cases c : m = n + 1
    · exact ⟨v, hv, by rw [e, c]⟩
    · rcases H.p3 v hv (by omega) with rfl | ⟨u, hu, _, h1, h2⟩
      · have := H.p1; omega
      · exact ih u hu (by omega) m (by omega)
theorem Half.below {ps : List (List Int)} {h to_ : Nat} {f : List Int} (H : Half ps h to_ f) (v : Nat) (hv : v < h) : rd f (v : Int) < (h : Int) := by
  by_cases c : 0 ≤ rd f (v : Int)
  · obtain ⟨n, e⟩ := Int.eq_ofNat_of_zero_le c
    have := nodup_len (List.range (n + 1)) ((List.range h).map (fun (x : Nat) => (rd f (x : Int)).toNat)) List.nodup_range (fun m hm => by
      rw [List.mem_range] at hm
      obtain ⟨x, hx, e2⟩ := H.depth n v hv e m (by omega)
      exact List.mem_map.2 ⟨x, List.mem_range.2 hx, by rw [e2]; simp⟩)
    simp only [List.length_range, List.length_map] at this
    omega
  · omega
theorem specFar_l1 {h to_ : Nat} (hh : h ≤ 6) {ps : List (List Int)} (g : goodP h ps) (cs : List Int) : ∀ (m d : Nat) (f : List Int), d + m = h → Lev ps h to_ f d → (∀ v, v < h → rd f (v : Int) ≤ (d : Int)) → ∃ f', Dist ps h to_ f' ∧ Ev (fun kk => spec_l15Far.l1 kk f (d : Int) (h : Int) ps cs) f' := by
  intro m
  induction m with
  | zero =>
    intro d f hd L hi
    obtain rfl : d = h := by omega
    exact ⟨f, ⟨L.len, L.lo, L.p1, fun u v hu hv ha h0 => L.p2 u v hu hv ha h0 (L.toHalf.below u hu), L.p3⟩, eround (fun k => by rw [spec_l15Far.l1]) (eneg (by omega) (enow rfl))⟩
  | succ m ih =>
    intro d f hd L hi
    obtain ⟨f', h1, h2⟩ := specFar_l2 hh g cs d (by omega) (fun f L hi E => ih (d + 1) f (by omega) ⟨L.toHalf, fun u v hu hv ha h0 hlt => by
      by_cases c : rd f (u : Int) < (d : Int)
      · exact L.p2 u v hu hv ha h0 c
      · have e : rd f (u : Int) = (d : Int) := by push_cast at hlt; omega
        obtain ⟨p, hp, hx⟩ := ha
        have E := E p hp
        unfold edgeOk at E
        have hv2 := hi v hv
        rcases hx with ⟨x1, x2⟩ | ⟨x1, x2⟩
        · rw [x1, x2] at E; exact ⟨E.1 e, by omega⟩
        · rw [x1, x2] at E; exact ⟨E.2 e, by omega⟩⟩ (fun v hv => by have := hi v hv; push_cast; omega)) ps.length 0 f (by omega) L (fun v hv => by have := hi v hv; omega) (fun p hp => by simp at hp)
    refine ⟨f', h1, eround (fun k => by rw [spec_l15Far.l1]) (epos (by omega) ?_)⟩
    exact h2
theorem specFar_l0 {h to_ : Nat} (ht : to_ < h) (hh : h ≤ 6) {ps : List (List Int)} (g : goodP h ps) (cs : List Int) : ∀ (m s : Nat), s + m = h → ∃ f', Dist ps h to_ f' ∧ Ev (fun kk => spec_l15Far.l0 kk (to_ : Int) (List.replicate s (-1)) (s : Int) (h : Int) ps cs) f' := by
  intro m
  induction m with
  | zero =>
    intro s hs
    obtain rfl : s = h := by omega
    have hr := first_lt ht
    obtain ⟨f', h1, h2⟩ := specFar_l1 hh g cs s 0 _ (by omega) ⟨first_half ht ps, fun u v hu hv ha h0 hlt => by omega⟩ (fun v hv => by rw [hr v hv]; split <;> omega)
    refine ⟨f', h1, eround (fun k => by rw [spec_l15Far.l0]) (eneg (by omega) (epos (by omega) (epos (by simp; omega) ?_)))⟩
    rw [Int.toNat_natCast]
    exact h2
  | succ m ih =>
    intro s hs
    obtain ⟨f', h1, h2⟩ := ih (s + 1) (by omega)
    refine ⟨f', h1, eround (fun k => by rw [spec_l15Far.l0]) (epos (by omega) (epos (by simp; omega) ?_))⟩
    rw [w64 (by omega) (by omega), show List.replicate s (-1 : Int) ++ [-1] = List.replicate (s + 1) (-1) by rw [List.replicate_succ']]
    exact h2
theorem far_both {h to_ : Nat} (h1 : 1 ≤ h) (hh : h ≤ 6) (ht : to_ < h) {ps : List (List Int)} (g : goodP h ps) (cs : List Int) : ∃ f, Dist ps h to_ f ∧ Ev (fun kk => impl_Table_far.f kk (h : Int) ps cs (to_ : Int)) f ∧ Ev (fun kk => spec_l15Far.f kk (h : Int) ps cs (to_ : Int)) f := by
  obtain ⟨f, d1, e1⟩ := implFar_e h1 hh ht g cs
  obtain ⟨f2, d2, e2⟩ := specFar_l0 ht hh g cs h 0 (by omega)
  obtain rfl := d1.eq d2
  exact ⟨f, d1, e1, e2⟩
theorem goodP_of {h : Int} {ps : List (List Int)} {cs : List Int} (hs : smallP ps) (g : goodTb h ps cs = true) : ∃ n : Nat, h = (n : Int) ∧ 1 ≤ n ∧ n ≤ 6 ∧ goodP n ps := by
  obtain ⟨_, _, g3, g4, _⟩ := goodTb_two g
  obtain ⟨n, rfl⟩ := Int.eq_ofNat_of_zero_le (show 0 ≤ h by omega)
  refine ⟨n, rfl, by omega, by omega, hs, allI_mem (fun i r hp => ?_) ps 0 (by unfold goodTb at g; simp only [Bool.and_eq_true] at g; exact g.1)⟩
  simp only [inP, Bool.and_eq_true, decide_eq_true_eq, Bool.not_eq_true', decide_eq_false_iff_not] at hp
  rw [w64 (by omega) (by omega), inR_iff, inR_iff] at hp
  omega
/-! the pair of two seats, and the way between two -/
theorem pairSpec_l {h : Nat} {ps : List (List Int)} (g : goodP h ps) (a b : Nat) : ∀ (d i : Nat), i + d = ps.length → ∃ x : Int, Ev (fun k => spec_l15Pair.l0 k (a : Int) (b : Int) ps (ps.length : Int) (i : Int)) x ∧ -1 ≤ x ∧ (x ≥ 0 → ∃ j : Nat, x = (j : Int) ∧ i ≤ j ∧ ∃ hj : j < ps.length, ps[j] = [mn (a : Int) (b : Int), mx (a : Int) (b : Int)]) ∧ (∀ j (hj : j < ps.length), i ≤ j → ps[j] = [mn (a : Int) (b : Int), mx (a : Int) (b : Int)] → 0 ≤ x ∧ x ≤ (j : Int)) := by
  have hn := g.1.1
  intro d
  induction d with
  | zero =>
    intro i hi
    exact ⟨-1, eround (fun k => by rw [spec_l15Pair.l0]) (eneg (by omega) (enow rfl)), by omega, by omega, fun j hj h => by omega⟩
  | succ d ih =>
    intro i hi
    have hlt : i < ps.length := by omega
    obtain ⟨x, h1, h3, h4, h5⟩ := ih (i + 1) (by omega)
    have hl : ps[i].length = 2 := (g.2 _ (List.getElem_mem hlt)).1
    have E := pair_is g a b (List.getElem_mem hlt)
    have er : rd_L1 ps (i : Int) = ps[i] := getD_get _ i _ hlt
    have hw : wrap64 ((i : Int) + 1) = ((i + 1 : Nat) : Int) := wsucc (by omega)
    by_cases e : ps[i] = [mn (a : Int) (b : Int), mx (a : Int) (b : Int)]
    · refine ⟨(i : Int), eround (fun k => by rw [spec_l15Pair.l0]) (epos (by omega) (epos (by omega) (epos (by omega) ?_))), by omega, fun _ => ⟨i, rfl, Nat.le_refl _, hlt, e⟩, fun j hj h _ => by omega⟩
      rw [er]
      refine epos (by omega) ?_
      by_cases c0 : rd ps[i] 0 = (a : Int)
      · refine epos c0 (epos (by omega) ?_)
        by_cases c1 : rd ps[i] 1 = (b : Int)
        · exact epos c1 (enow rfl)
        · have := E.1 e
          refine eneg c1 (epos (by omega) (epos (by omega) (enow rfl)))
      · have := E.1 e
        exact eneg c0 (epos (by omega) (epos (by omega) (epos (by omega) (enow rfl))))
    · have ne : ¬ ((rd ps[i] 0 = (a : Int) ∧ rd ps[i] 1 = (b : Int)) ∨ (rd ps[i] 0 = (b : Int) ∧ rd ps[i] 1 = (a : Int))) := fun h => e (E.2 h)
      refine ⟨x, eround (fun k => by rw [spec_l15Pair.l0]) (epos (by omega) (epos (by omega) (epos (by omega) ?_))), h3, fun hx => ?_, fun j hj h hj2 => ?_⟩
      · rw [er, hw]
        refine epos (by omega) ?_
        by_cases c0 : rd ps[i] 0 = (a : Int)
        · refine epos c0 (epos (by omega) ?_)
          refine eneg (fun c1 => ne (Or.inl ⟨c0, c1⟩)) ?_
          by_cases c2 : rd ps[i] 0 = (b : Int)
          · exact epos c2 (eneg (fun c1 => ne (Or.inr ⟨c2, c1⟩)) h1)
          · exact eneg c2 h1
        · refine eneg c0 ?_
          by_cases c2 : rd ps[i] 0 = (b : Int)
          · exact epos c2 (epos (by omega) (eneg (fun c1 => ne (Or.inr ⟨c2, c1⟩)) h1))
          · exact eneg c2 h1
      · obtain ⟨j, q1, q2, q3⟩ := h4 hx
        exact ⟨j, q1, by omega, q3⟩
      · have : i ≠ j := fun e2 => by subst e2; exact e hj2
        exact h5 j hj (by omega) hj2
theorem pair_both {h : Nat} {ps : List (List Int)} (g : goodP h ps) (cs : List Int) (a b : Nat) : ∃ x : Int, Ev (fun k => impl_Table_pair.f k (h : Int) ps cs (a : Int) (b : Int)) x ∧ Ev (fun k => spec_l15Pair.f k (h : Int) ps cs (a : Int) (b : Int)) x ∧ (x ≥ 0 ↔ adj ps a b) ∧ -1 ≤ x ∧ x < (ps.length : Int) := by
  obtain ⟨x, h1, h2, h3, h4, h5⟩ := pairImpl_l ps g.1 [mn (a : Int) (b : Int), mx (a : Int) (b : Int)] ps.length 0 (by omega)
  obtain ⟨y, k1, k3, k4, k5⟩ := pairSpec_l g a b ps.length 0 (by omega)
  have hxy : x = y := by
    by_cases cx : x ≥ 0
    · obtain ⟨j, q1, _, q3, q4⟩ := h4 cx
      obtain ⟨r1, r2⟩ := k5 j q3 (Nat.zero_le _) q4
      obtain ⟨j2, s1, _, s3, s4⟩ := k4 r1
      have := h5 j2 s3 (Nat.zero_le _) s4
      omega
    · by_cases cy : y ≥ 0
      · obtain ⟨j2, s1, _, s3, s4⟩ := k4 cy
        have := h5 j2 s3 (Nat.zero_le _) s4
        omega
      · omega
  subst hxy
  refine ⟨x, ebind (f := fun _ t => some t) h1 (enow rfl), k1, ?_, h3, ?_⟩
  · rw [h2, List.drop_zero, List.any_eq_true]
    constructor
    · rintro ⟨p, hp, e⟩
      exact ⟨p, hp, (pair_is g a b hp).1 (of_decide_eq_true e)⟩
    · rintro ⟨p, hp, e⟩
      exact ⟨p, hp, decide_eq_true ((pair_is g a b hp).2 e)⟩
  · by_cases cx : x ≥ 0
    · obtain ⟨j, q1, _, q3, q4⟩ := h4 cx
      omega
    · omega
theorem least (P : Nat → Prop) : ∀ (n u : Nat), u ≤ n → P u → ∃ m, m ≤ u ∧ P m ∧ ∀ s, s < m → ¬ P s := by
  intro n
  induction n with
  | zero => intro u hu h; exact ⟨u, Nat.le_refl _, h, fun s hs => by omega⟩
  | succ n ih =>
    intro u hu h
    by_cases c : ∃ s, s < u ∧ P s
    · obtain ⟨s, s1, s2⟩ := c
      obtain ⟨m, m1, m2, m3⟩ := ih s (by omega) s2
      exact ⟨m, by omega, m2, m3⟩
    · exact ⟨u, Nat.le_refl _, h, fun s hs hp => c ⟨s, hs, hp⟩⟩
theorem implWay_l1 {h to_ : Nat} (hh : h ≤ 6) {ps : List (List Int)} (g : goodP h ps) (cs : List Int) {f : List Int} (hf : f.length = h) (a u n : Nat) (ha : a < h) (hu : u < h) (hn : rd f (a : Int) = (n : Int) + 1) (hn6 : n ≤ 6) (h1 : rd f (u : Int) = (n : Int) ∧ adj ps a u) (h2 : ∀ s, s < u → ¬ (rd f (s : Int) = (n : Int) ∧ adj ps a s)) (out : List Int) (ho : out.length ≤ 1000) {x : Int} (hx : Ev (fun k => impl_Table_pair.f k (h : Int) ps cs (a : Int) (u : Int)) x) (hx0 : x ≥ 0) {R : List Int × Bool} (hr : Ev (fun k => impl_Table_way.l0 k (u : Int) (to_ : Int) f (out ++ [x]) (h : Int) ps cs) R) : ∀ d s : Nat, s + d = u → Ev (fun k => impl_Table_way.l1 k (a : Int) (to_ : Int) f out (s : Int) (h : Int) ps cs) R := by
  have hw : wrap64 (rd f (a : Int) - 1) = (n : Int) := by rw [hn, w64 (by omega) (by omega)]; omega
  intro d
  induction d with
  | zero =>
    intro s hs
    obtain rfl : s = u := by omega
    refine eround (fun k => by rw [impl_Table_way.l1]) (epos (by omega) (epos (by omega) (epos (by omega) (epos (by omega) (epos (by rw [hw]; exact h1.1) ?_)))))
    exact ebind hx (eneg (by omega) (ebind hx (epos (by omega) hr)))
  | succ d ih =>
    intro s hs
    refine eround (fun k => by rw [impl_Table_way.l1]) (epos (by omega) (epos (by omega) (epos (by omega) (epos (by omega) ?_))))
    have hi := ih (s + 1) (by omega)
    rw [hw, wsucc (by omega)]
    by_cases c : rd f (s : Int) = (n : Int)
    · refine epos c ?_
      obtain ⟨y, y1, y2, y3⟩ := pairImpl_e g cs a s
      refine ebind y1 (epos ?_ hi)
      have := h2 s (by omega)
      have : ¬ y ≥ 0 := fun q => this ⟨c, y2.1 q⟩
      omega
    · exact eneg c hi
theorem specWay_j2 {h to_ : Nat} {ps : List (List Int)} (cs : List Int) {f : List Int} (a u s : Nat) (b : Bool) (hb : b = false) (out : List Int) (ho : out.length ≤ 1000) {x : Int} (hx : Ev (fun k => spec_l15Pair.f k (h : Int) ps cs (a : Int) (u : Int)) x) {R : List Int × Bool} (hr : Ev (fun k => spec_l15Way.l0 k (u : Int) (to_ : Int) f (out ++ [x]) (h : Int) ps cs) R) : Ev (fun k => spec_l15Way.j2 k (a : Int) (to_ : Int) f out (u : Int) (s : Int) b (h : Int) ps cs) R := by
  subst hb
  refine eround (fun k => by rw [spec_l15Way.j2]) (eneg (by decide) ?_)
  exact ebind hx (epos (by omega) hr)
theorem specWay_l1 {h to_ : Nat} (hh : h ≤ 6) {ps : List (List Int)} (g : goodP h ps) (cs : List Int) {f : List Int} (hf : f.length = h) (a u n : Nat) (ha : a < h) (hu : u < h) (hn : rd f (a : Int) = (n : Int) + 1) (hn6 : n ≤ 6) (h1 : rd f (u : Int) = (n : Int) ∧ adj ps a u) (h2 : ∀ s, s < u → ¬ (rd f (s : Int) = (n : Int) ∧ adj ps a s)) (out : List Int) (ho : out.length ≤ 1000) {x : Int} (hx : Ev (fun k => spec_l15Pair.f k (h : Int) ps cs (a : Int) (u : Int)) x) (hx0 : x ≥ 0) {R : List Int × Bool} (hr : Ev (fun k => spec_l15Way.l0 k (u : Int) (to_ : Int) f (out ++ [x]) (h : Int) ps cs) R) : ∀ d s : Nat, s + d = u → Ev (fun k => spec_l15Way.l1 k (a : Int) (to_ : Int) f out (-1) (s : Int) (h : Int) ps cs) R := by
  have hw : wrap64 (rd f (a : Int) - 1) = (n : Int) := by rw [hn, w64 (by omega) (by omega)]; omega
  intro d
  induction d with
  | zero =>
    intro s hs
    obtain rfl : s = u := by omega
    refine eround (fun k => by rw [spec_l15Way.l1]) (epos (by omega) ?_)
    refine eround (fun k => by rw [spec_l15Way.j2]) (epos (by decide) ?_)
    refine ebind hx (epos hx0 (epos (by omega) (epos (by omega) (epos (by omega) (epos (by omega) (epos (by rw [hw]; exact h1.1) ?_))))))
    rw [wsucc (by omega)]
    refine eround (fun k => by rw [spec_l15Way.l1]) ?_
    by_cases c : ((s + 1 : Nat) : Int) < (h : Int)
    · exact epos c (specWay_j2 cs a s (s + 1) _ (by simp) out ho hx hr)
    · exact eneg c (specWay_j2 cs a s (s + 1) _ rfl out ho hx hr)
  | succ d ih =>
    intro s hs
    refine eround (fun k => by rw [spec_l15Way.l1]) (epos (by omega) ?_)
    refine eround (fun k => by rw [spec_l15Way.j2]) (epos (by decide) ?_)
    have hi := ih (s + 1) (by omega)
    rw [hw, wsucc (by omega)]
    obtain ⟨y, y0, y1, y2, y3, _⟩ := pair_both g cs a s
    refine ebind y1 ?_
    by_cases c2 : y ≥ 0
    · refine epos c2 (epos (by omega) (epos (by omega) (epos (by omega) (epos (by omega) (eneg ?_ hi)))))
      exact fun c => h2 s (by omega) ⟨c, y2.1 c2⟩
    · exact eneg c2 hi
theorem way_both {h to_ : Nat} (hh : h ≤ 6) {ps : List (List Int)} (g : goodP h ps) (cs : List Int) {f : List Int} (D : Dist ps h to_ f) (ht : to_ < h) : ∀ (n a : Nat) (out : List Int), a < h → rd f (a : Int) = (n : Int) → out.length + n ≤ 6 → (∀ y ∈ out, 0 ≤ y ∧ y < (ps.length : Int)) →
    ∃ l : List Int, (l.length ≤ 6 ∧ ∀ y ∈ l, 0 ≤ y ∧ y < (ps.length : Int)) ∧ Ev (fun k => impl_Table_way.l0 k (a : Int) (to_ : Int) f out (h : Int) ps cs) (l, true) ∧ Ev (fun k => spec_l15Way.l0 k (a : Int) (to_ : Int) f out (h : Int) ps cs) (l, true) := by
  intro n
  induction n with
  | zero =>
    intro a out ha hn ho hy
    have e : a = to_ := by
      rcases D.p3 a ha (by omega) with e | ⟨u, _, _, h1, h2⟩
      · exact e
      · omega
    subst e
    exact ⟨out, ⟨by omega, hy⟩, eround (fun k => by rw [impl_Table_way.l0]) (epos rfl (enow rfl)), eround (fun k => by rw [spec_l15Way.l0]) (epos rfl (enow rfl))⟩
  | succ n ih =>
    intro a out ha hn ho hy
    have hne : (a : Int) ≠ (to_ : Int) := fun e => by
      have := D.p1
      rw [← e] at this
      omega
    obtain ⟨u, u1, u2, u3, u4⟩ : ∃ u, u < h ∧ adj ps u a ∧ 0 ≤ rd f (u : Int) ∧ rd f (a : Int) = rd f (u : Int) + 1 := by
      rcases D.p3 a ha (by omega) with e | e
      · exact absurd (by rw [e]) hne
      · exact e
    obtain ⟨m, m1, m2, m3⟩ := least (fun s => rd f (s : Int) = (n : Int) ∧ adj ps a s) u u (Nat.le_refl _) ⟨by omega, adj_symm u2⟩
    obtain ⟨x, x1, x2, x3, x4, x5⟩ := pair_both g cs a m
    have x0 := x3.2 m2.2
    obtain ⟨l, l1, l2, l3⟩ := ih m (out ++ [x]) (by omega) m2.1 (by simp only [List.length_append, List.length_cons, List.length_nil]; omega) (fun y hy2 => by
      rcases List.mem_append.1 hy2 with q | q
      · exact hy y q
      · rw [List.mem_singleton.1 q]; exact ⟨x0, x5⟩)
    have hn' : rd f (a : Int) = (n : Int) + 1 := by omega
    refine ⟨l, l1, eround (fun k => by rw [impl_Table_way.l0]) (eneg hne ?_), eround (fun k => by rw [spec_l15Way.l0]) (eneg hne ?_)⟩
    · exact implWay_l1 hh g cs D.len a m n ha (by omega) hn' (by omega) m2 m3 out (by omega) x1 x0 l2 m 0 (by omega)
    · exact specWay_l1 hh g cs D.len a m n ha (by omega) hn' (by omega) m2 m3 out (by omega) x2 x0 l3 m 0 (by omega)
theorem wayf_both {h a b : Nat} (h1 : 1 ≤ h) (hh : h ≤ 6) (ha : a < h) (hb : b < h) {ps : List (List Int)} (g : goodP h ps) (cs : List Int) : ∃ R : List Int × Bool, (R.1.length ≤ 6 ∧ ∀ y ∈ R.1, 0 ≤ y ∧ y < (ps.length : Int)) ∧ Ev (fun k => impl_Table_way.f k (h : Int) ps cs (a : Int) (b : Int)) R ∧ Ev (fun k => spec_l15Way.f k (h : Int) ps cs (a : Int) (b : Int)) R := by
  obtain ⟨f, D, e1, e2⟩ := far_both h1 hh hb g cs
  unfold impl_Table_way.f spec_l15Way.f
  have hl := D.len
  by_cases c : rd f (a : Int) < 0
  · exact ⟨([], false), by simp, ebind e1 (epos (by omega) (epos (by omega) (epos c (enow rfl)))), ebind e2 (epos (by omega) (epos (by omega) (epos c (enow rfl))))⟩
  · obtain ⟨n, hn⟩ := Int.eq_ofNat_of_zero_le (show 0 ≤ rd f (a : Int) by omega)
    have hd : rd f (a : Int) < (h : Int) := Half.below (ps := ps) (to_ := b) ⟨D.len, D.lo, D.p1, D.p3⟩ a ha
    obtain ⟨l, l1, l2, l3⟩ := way_both hh g cs D hb n a [] ha hn (by simp; omega) (by simp)
    exact ⟨(l, true), l1, ebind e1 (epos (by omega) (epos (by omega) (eneg c l2))), ebind e2 (epos (by omega) (epos (by omega) (eneg c l3)))⟩
theorem way_e (h : Int) (ps : List (List Int)) (cs : List Int) (a b : Int) (hs : smallP ps) (hc : cs.length ≤ 1048576) : ∃ R : List Int × Bool, (R.1.length ≤ 6 ∧ ∀ y ∈ R.1, 0 ≤ y ∧ y < (cs.length : Int)) ∧ Ev (fun k => impl_WayBetween.f k h ps cs a b) R ∧ (∃ t : Bool, Ev (fun k => spec_l15Two.f k h ps cs a b) t ∧ (t = false → R = ([], false)) ∧ (t = true → Ev (fun k => spec_l15Way.f k h ps cs a b) R)) := by
  unfold impl_WayBetween.f spec_l15Two.f
  have e1 := implGTb_e h ps cs hs hc
  have e2 := specGTb_e h ps cs hs hc
  cases g : goodTb h ps cs with
  | false =>
    rw [g] at e1 e2
    exact ⟨([], false), by simp, ebind e1 (eneg (by decide) (enow rfl)), false, ebind e2 (eneg (by decide) (enow rfl)), fun _ => rfl, by simp⟩
  | true =>
    rw [g] at e1 e2
    obtain ⟨n, rfl, n1, n6, gp⟩ := goodP_of hs g
    have hw : wrap64 ((n : Int) - 1) = (n : Int) - 1 := w64 (by omega) (by omega)
    have i1 : ∀ x : Int, Ev (fun (_ : Nat) => impl_Table_isSeat.f (n : Int) ps cs x) (inR 0 ((n : Int) - 1) x) := fun x => by
      unfold impl_Table_isSeat.f
      rw [hw, within_eq]
      exact enow rfl
    cases ca : inR 0 ((n : Int) - 1) a with
    | false =>
      have ia := i1 a
      rw [ca] at ia
      refine ⟨([], false), by simp, ebind e1 (epos rfl (ebind ia (eneg (by decide) (enow rfl)))), false, ebind e2 (epos rfl ?_), fun _ => rfl, by simp⟩
      rw [hw, l1In_eq, ca]
      exact enb rfl (eneg (by decide) (enow rfl))
    | true =>
      have ia := i1 a
      rw [ca] at ia
      cases cb : inR 0 ((n : Int) - 1) b with
      | false =>
        have ib := i1 b
        rw [cb] at ib
        refine ⟨([], false), by simp, ebind e1 (epos rfl (ebind ia (epos rfl (ebind ib (eneg (by decide) (enow rfl)))))), false, ebind e2 (epos rfl ?_), fun _ => rfl, by simp⟩
        rw [hw, l1In_eq, l1In_eq, ca, cb]
        exact enb rfl (epos rfl (enb rfl (enow rfl)))
      | true =>
        have ib := i1 b
        rw [cb] at ib
        rw [inR_iff] at ca cb
        obtain ⟨a', rfl⟩ := Int.eq_ofNat_of_zero_le ca.1
        obtain ⟨b', rfl⟩ := Int.eq_ofNat_of_zero_le cb.1
        obtain ⟨R, r0, r1, r2⟩ := wayf_both (a := a') (b := b') n1 n6 (by omega) (by omega) gp cs
        have hl := (goodTb_two g).2.1
        refine ⟨R, ⟨r0.1, fun y hy => by have := r0.2 y hy; omega⟩, ebind e1 (epos rfl (ebind ia (epos rfl (ebind ib (epos rfl (ebind (f := fun _ t => some (t.1, t.2)) r1 (enow rfl))))))), true, ebind e2 (epos rfl ?_), by simp, fun _ => r2⟩
        rw [hw, l1In_eq, l1In_eq, inR_iff.2 ca, inR_iff.2 cb]
        exact enb rfl (epos rfl (enb rfl (enow rfl)))
/-! other coins: the table copied, the coins of the way's pairs turned -/
def xorL (w : Int) : List Int → List Int → List Int
  | [], cs => cs
  | y :: l, cs => xorL w l (cs.set y.toNat (Go.bits .xor .i64 (rd cs y) w))
theorem xorL_len (w : Int) : ∀ (l cs : List Int), (xorL w l cs).length = cs.length
  | [], _ => rfl
  | y :: l, cs => by rw [xorL, xorL_len w l]; simp
theorem clone_e (l : List Int) (h : l.length ≤ 1048576) : slices_Clone_int_int.f l = some l := by
  unfold slices_Clone_int_int.f
  simp only [Option.bind_some, List.length_nil, List.nil_append]
  rw [if_pos (by omega)]
theorem implOC_l1 (w h : Int) (ps : List (List Int)) (way : List Int) (hw : way.length ≤ 6) : ∀ (d i : Nat) (cs : List Int), i + d = way.length → (∀ y ∈ way, 0 ≤ y ∧ y < (cs.length : Int)) → Ev (fun k => impl_OtherCoins.l1 k w way (way.length : Int) (i : Int) h ps cs) (h, ps, xorL w (way.drop i) cs, true) := by
  intro d
  induction d with
  | zero =>
    intro i cs hi hy
    rw [List.drop_eq_nil_of_le (by omega), xorL]
    exact eround (fun k => by rw [impl_OtherCoins.l1]) (eneg (by omega) (enow rfl))
  | succ d ih =>
    intro i cs hi hy
    have hlt : i < way.length := by omega
    have er : rd way (i : Int) = way[i] := rd_get _ i hlt
    have hq := hy _ (List.getElem_mem hlt)
    rw [List.drop_eq_getElem_cons hlt, xorL]
    refine eround (fun k => by rw [impl_OtherCoins.l1]) (epos (by omega) (epos (by omega) (epos (by omega) (epos (by omega) (epos (by omega) ?_)))))
    rw [er, wsucc (by omega)]
    exact ih (i + 1) _ (by omega) (fun y hy2 => by have := hy y hy2; simp only [List.length_set]; exact this)
theorem specOC_l1 (w h : Int) (ps : List (List Int)) (way : List Int) (hw : way.length ≤ 6) : ∀ (d i : Nat) (cs : List Int), i + d = way.length → (∀ y ∈ way, 0 ≤ y ∧ y < (cs.length : Int)) → Ev (fun k => spec_OtherCoins.l1 k w way (way.length : Int) (i : Int) h ps cs) (h, ps, xorL w (way.drop i) cs, true) := by
  intro d
  induction d with
  | zero =>
    intro i cs hi hy
    rw [List.drop_eq_nil_of_le (by omega), xorL]
    exact eround (fun k => by rw [spec_OtherCoins.l1]) (eneg (by omega) (enow rfl))
  | succ d ih =>
    intro i cs hi hy
    have hlt : i < way.length := by omega
    have er : rd way (i : Int) = way[i] := rd_get _ i hlt
    have hq := hy _ (List.getElem_mem hlt)
    rw [List.drop_eq_getElem_cons hlt, xorL]
    refine eround (fun k => by rw [spec_OtherCoins.l1]) (epos (by omega) (epos (by omega) (epos (by omega) (epos (by omega) (epos (by omega) ?_)))))
    rw [er, wsucc (by omega)]
    exact ih (i + 1) _ (by omega) (fun y hy2 => by have := hy y hy2; simp only [List.length_set]; exact this)
theorem take_snoc (ps : List (List Int)) (i : Nat) (h : i < ps.length) : ps.take i ++ [ps[i]] = ps.take (i + 1) := by
  rw [List.take_succ_eq_append_getElem h]
theorem implOC_l0 (w h : Int) (ps : List (List Int)) (hs : smallP ps) (way cs : List Int) (hw : way.length ≤ 6) (hy : ∀ y ∈ way, 0 ≤ y ∧ y < (cs.length : Int)) : ∀ d i : Nat, i + d = ps.length → Ev (fun k => impl_OtherCoins.l0 k w way cs ps (ps.length : Int) (i : Int) h (ps.take i)) (h, ps, xorL w way cs, true) := by
  have hn := hs.1
  intro d
  induction d with
  | zero =>
    intro i hi
    rw [List.take_of_length_le (by omega)]
    refine eround (fun k => by rw [impl_OtherCoins.l0]) (eneg (by omega) ?_)
    have := implOC_l1 w h ps way hw way.length 0 cs (by omega) hy
    simpa using this
  | succ d ih =>
    intro i hi
    have hlt : i < ps.length := by omega
    have er : rd_L1 ps (i : Int) = ps[i] := getD_get _ i _ hlt
    have hl := hs.2 _ (List.getElem_mem hlt)
    refine eround (fun k => by rw [impl_OtherCoins.l0]) (epos (by omega) (epos (by omega) (epos (by omega) ?_)))
    rw [er]
    refine enb (clone_e _ hl) (epos (by simp only [List.length_take]; omega) ?_)
    rw [wsucc (by omega), take_snoc ps i hlt]
    exact ih (i + 1) (by omega)
theorem specOC_l0 (w h : Int) (ps : List (List Int)) (hs : smallP ps) (way cs : List Int) (hw : way.length ≤ 6) (hy : ∀ y ∈ way, 0 ≤ y ∧ y < (cs.length : Int)) : ∀ d i : Nat, i + d = ps.length → Ev (fun k => spec_OtherCoins.l0 k w way cs ps (ps.length : Int) (i : Int) h (ps.take i)) (h, ps, xorL w way cs, true) := by
  have hn := hs.1
  intro d
  induction d with
  | zero =>
    intro i hi
    rw [List.take_of_length_le (by omega)]
    refine eround (fun k => by rw [spec_OtherCoins.l0]) (eneg (by omega) ?_)
    have := specOC_l1 w h ps way hw way.length 0 cs (by omega) hy
    simpa using this
  | succ d ih =>
    intro i hi
    have hlt : i < ps.length := by omega
    have er : rd_L1 ps (i : Int) = ps[i] := getD_get _ i _ hlt
    have hl := hs.2 _ (List.getElem_mem hlt)
    refine eround (fun k => by rw [spec_OtherCoins.l0]) (epos (by omega) (epos (by omega) (epos (by omega) ?_)))
    rw [er]
    refine enb rfl (epos (by simp only [List.length_nil]; omega) (epos (by simp only [List.length_take]; omega) ?_))
    rw [List.nil_append, wsucc (by omega), take_snoc ps i hlt]
    exact ih (i + 1) (by omega)
theorem other_e (h : Int) (ps : List (List Int)) (cs : List Int) (a b w : Int) (hs : smallP ps) (hc : cs.length ≤ 1048576) : ∃ R : Int × List (List Int) × List Int × Bool, (R.2.1.length ≤ 1048576 ∧ ∀ y ∈ R.2.1, y.length ≤ 1048576) ∧ R.2.2.1.length ≤ 1048576 ∧ Ev (fun k => impl_OtherCoins.f k h ps cs a b w) R ∧ Ev (fun k => spec_OtherCoins.f k h ps cs a b w) R := by
  obtain ⟨R, r0, r1, t, t1, t2, t3⟩ := way_e h ps cs a b hs hc
  unfold impl_OtherCoins.f spec_OtherCoins.f
  have ib : impl_isByte.f w = some (inR 0 255 w) := by unfold impl_isByte.f; rw [within_eq]; rfl
  have sb : spec_l15Byte.f w = some (inR 0 255 w) := by unfold spec_l15Byte.f; rw [l1In_eq]; rfl
  have Z : Ev (fun k => impl_OtherCoins.j0 k w R.1 true h ps cs) ((0, [], [], false) : Int × List (List Int) × List Int × Bool) := eround (fun k => by rw [impl_OtherCoins.j0]) (epos rfl (enow rfl))
  have Z2 : Ev (fun k => spec_OtherCoins.j0 k a b w true h ps cs) ((0, [], [], false) : Int × List (List Int) × List Int × Bool) := eround (fun k => by rw [spec_OtherCoins.j0]) (epos rfl (enow rfl))
  cases ht : t with
  | false =>
    subst ht
    have hR := t2 rfl
    refine ⟨(0, [], [], false), by simp, by simp, ebind r1 (eneg (by rw [hR]; decide) Z), ebind t1 (eneg (by decide) Z2)⟩
  | true =>
    subst ht
    have x := t3 rfl
    cases cw : inR 0 255 w with
    | false =>
      rw [cw] at ib sb
      refine ⟨(0, [], [], false), by simp, by simp, ebind r1 ?_, ebind t1 (epos rfl (enb sb Z2))⟩
      by_cases c : R.2 = true
      · exact epos c (enb ib Z)
      · exact eneg c Z
    | true =>
      rw [cw] at ib sb
      by_cases c : R.2 = true
      · refine ⟨(h, ps, xorL w R.1 cs, true), hs, by rw [xorL_len]; exact hc, ebind r1 (epos c (enb ib ?_)), ebind t1 (epos rfl (enb sb ?_))⟩
        · refine eround (fun k => by rw [impl_OtherCoins.j0]) (eneg (by decide) (enb (clone_e cs hc) ?_))
          exact implOC_l0 w h ps hs R.1 cs r0.1 r0.2 ps.length 0 (by omega)
        · refine eround (fun k => by rw [spec_OtherCoins.j0]) (eneg (by decide) (ebind x (epos c ?_)))
          refine enb rfl (epos (by simp only [List.length_nil]; omega) ?_)
          rw [List.nil_append]
          exact specOC_l0 w h ps hs R.1 cs r0.1 r0.2 ps.length 0 (by omega)
      · refine ⟨(0, [], [], false), by simp, by simp, ebind r1 (eneg c Z), ebind t1 (epos rfl (enb sb ?_))⟩
        exact eround (fun k => by rw [spec_OtherCoins.j0]) (eneg (by decide) (ebind x (eneg c (enow rfl))))
def coinsX (a : Int) : List (List Int) → List Int → Int → Int
  | r :: ps, c :: cs, x => coinsX a ps cs (if rd r 0 = a ∨ rd r 1 = a then Go.bits .xor .i64 x c else x)
  | _, _, x => x
theorem specCo_l (a h : Int) (ps : List (List Int)) (cs : List Int) (hs : smallP ps) (hl : cs.length = ps.length) (h2 : ∀ r ∈ ps, r.length = 2) : ∀ (d i : Nat) (x : Int), i + d = ps.length → Ev (fun k => spec_l15Coins.l0 k a x ps (ps.length : Int) (i : Int) h ps cs) (coinsX a (ps.drop i) (cs.drop i) x) := by
  have hn := hs.1
  intro d
  induction d with
  | zero =>
    intro i x hi
    refine eround (fun k => by rw [spec_l15Coins.l0]) (eneg (by omega) (enow ?_))
    rw [List.drop_eq_nil_of_le (by omega)]; rfl
  | succ d ih =>
    intro i x hi
    have hlt : i < ps.length := by omega
    have hlt' : i < cs.length := by omega
    have hr := h2 _ (List.getElem_mem hlt)
    refine eround (fun k => by rw [spec_l15Coins.l0]) (epos (by omega) (epos (by omega) (epos (by omega) ?_)))
    rw [show rd_L1 ps (i : Int) = ps[i] from getD_get _ i _ hlt, rd_get cs i hlt', List.drop_eq_getElem_cons hlt, List.drop_eq_getElem_cons hlt', w64 (by omega) (by omega)]
    refine epos (by omega) ?_
    simp only [coinsX]
    by_cases e1 : rd ps[i] 0 = a
    · refine epos e1 (epos (by omega) ?_)
      rw [if_pos (Or.inl e1)]
      exact ih (i + 1) _ (by omega)
    · refine eneg e1 (epos (by omega) ?_)
      by_cases e2 : rd ps[i] 1 = a
      · refine epos e2 (epos (by omega) ?_)
        rw [if_pos (Or.inr e2)]
        exact ih (i + 1) _ (by omega)
      · refine eneg e2 ?_
        rw [if_neg (by simp [e1, e2])]
        exact ih (i + 1) _ (by omega)
theorem ixI_l (xs : List Int) (a : Int) (hn : xs.length ≤ 9223372036854775807) : ∀ (d i : Nat), i + d = xs.length → ∃ r : Int, Ev (fun k => slices_Index_int_int.l0 k xs a (xs.length : Int) (i : Int)) r ∧ (r ≥ 0 ↔ a ∈ xs.drop i) := by
  intro d
  induction d with
  | zero =>
    intro i hi
    refine ⟨-1, eround (fun k => by rw [slices_Index_int_int.l0]) (eneg (by omega) (enow rfl)), ?_⟩
    rw [List.drop_eq_nil_of_le (by omega)]; simp
  | succ d ih =>
    intro i hi
    have hlt : i < xs.length := by omega
    obtain ⟨r, h1, h3⟩ := ih (i + 1) (by omega)
    rw [List.drop_eq_getElem_cons hlt, List.mem_cons]
    by_cases e : a = xs[i]
    · refine ⟨(i : Int), eround (fun k => by rw [slices_Index_int_int.l0]) (epos (by omega) (epos (by omega) (epos (by omega) ?_))), by simp [e]⟩
      rw [rd_get xs i hlt]
      exact epos e (enow rfl)
    · refine ⟨r, eround (fun k => by rw [slices_Index_int_int.l0]) (epos (by omega) (epos (by omega) (epos (by omega) ?_))), by simp only [e, false_or]; exact h3⟩
      rw [rd_get xs i hlt]
      refine eneg e ?_
      rw [w64 (by omega) (by omega)]
      exact h1
theorem coI_e (xs : List Int) (a : Int) (hn : xs.length ≤ 9223372036854775807) : Ev (fun k => slices_Contains_int_int.f k xs a) (decide (a ∈ xs)) := by
  obtain ⟨r, h1, h3⟩ := ixI_l xs a hn xs.length 0 (by omega)
  refine ebind (f := fun _ t => some (decide (t ≥ 0))) h1 (enow ?_)
  rw [List.drop_zero] at h3
  exact decide_eq_decide.2 h3
theorem two_mem (r : List Int) (a : Int) (h : r.length = 2) : a ∈ r ↔ (rd r 0 = a ∨ rd r 1 = a) := by
  match r, h with
  | [x, y], _ => simp [rd, eq_comm]
theorem implCo_l (a h : Int) (ps : List (List Int)) (cs : List Int) (hs : smallP ps) (hl : cs.length = ps.length) (h2 : ∀ r ∈ ps, r.length = 2) : ∀ (d i : Nat) (x : Int), i + d = ps.length → Ev (fun k => impl_Table_coins.l0 k a x ps (ps.length : Int) (i : Int) h ps cs) (coinsX a (ps.drop i) (cs.drop i) x) := by
  have hn := hs.1
  intro d
  induction d with
  | zero =>
    intro i x hi
    refine eround (fun k => by rw [impl_Table_coins.l0]) (eneg (by omega) (enow ?_))
    rw [List.drop_eq_nil_of_le (by omega)]; rfl
  | succ d ih =>
    intro i x hi
    have hlt : i < ps.length := by omega
    have hlt' : i < cs.length := by omega
    have hr := h2 _ (List.getElem_mem hlt)
    refine eround (fun k => by rw [impl_Table_coins.l0]) (epos (by omega) (epos (by omega) (epos (by omega) ?_)))
    rw [show rd_L1 ps (i : Int) = ps[i] from getD_get _ i _ hlt, rd_get cs i hlt', List.drop_eq_getElem_cons hlt, List.drop_eq_getElem_cons hlt', w64 (by omega) (by omega)]
    refine ebind (coI_e _ a (by omega)) ?_
    simp only [coinsX]
    by_cases e : a ∈ ps[i]
    · refine epos (by simp [e]) (epos (by omega) ?_)
      rw [if_pos ((two_mem _ a hr).1 e)]
      exact ih (i + 1) _ (by omega)
    · refine eneg (by simp [e]) ?_
      rw [if_neg (fun z => e ((two_mem _ a hr).2 z))]
      exact ih (i + 1) _ (by omega)
def sayX (ps : List (List Int)) (cs : List Int) (a b c : Int) : Int := if a = b then Go.bits .xor .i64 (coinsX a ps cs 0) c else coinsX a ps cs 0
theorem specSay_e (h : Int) (ps : List (List Int)) (cs : List Int) (a b c : Int) (hs : smallP ps) (g : goodTb h ps cs = true) : Ev (fun k => spec_l15Say.f k h ps cs a b c) (sayX ps cs a b c) := by
  obtain ⟨g1, g2, _⟩ := goodTb_two g
  have hc := specCo_l a h ps cs hs g2 g1 ps.length 0 0 (by omega)
  unfold spec_l15Say.f sayX
  by_cases e : a = b
  · rw [if_pos e]; exact epos e (ebind (f := fun _ t => some (Go.bits .xor .i64 t c)) hc (enow rfl))
  · rw [if_neg e]; exact eneg e (ebind (f := fun _ t => some t) hc (enow rfl))
theorem implSay_e (h : Int) (ps : List (List Int)) (cs : List Int) (a b c : Int) (hs : smallP ps) (g : goodTb h ps cs = true) : Ev (fun k => impl_Table_say.f k h ps cs a b c) (sayX ps cs a b c) := by
  obtain ⟨g1, g2, _⟩ := goodTb_two g
  have hc := implCo_l a h ps cs hs g2 g1 ps.length 0 0 (by omega)
  unfold impl_Table_say.f sayX
  by_cases e : a = b
  · rw [if_pos e]; exact epos e (ebind (f := fun _ t => some (Go.bits .xor .i64 t c)) hc (enow rfl))
  · rw [if_neg e]; exact eneg e (ebind (f := fun _ t => some t) hc (enow rfl))
theorem asked_e (h : Int) (ps : List (List Int)) (cs : List Int) (b c : Int) (hs : smallP ps) (hc : cs.length ≤ 1048576) : Ev (fun k => spec_l15Asked.f k h ps cs b c) (goodTb h ps cs && (inR (-1) (h - 1) b && inR 0 255 c)) := by
  unfold spec_l15Asked.f
  refine ebind (specGTb_e h ps cs hs hc) ?_
  cases g : goodTb h ps cs with
  | false => exact eneg (by decide) (enow rfl)
  | true =>
    obtain ⟨_, _, g3, g4, _⟩ := goodTb_two g
    rw [w64 (by omega) (by omega)]
    refine epos rfl (enb (l1In_eq _ _ _) ?_)
    cases g5 : inR (-1) (h - 1) b with
    | false => exact eneg (by decide) (enow rfl)
    | true => exact epos rfl (enb (a := inR 0 255 c) (by unfold spec_l15Byte.f; rw [l1In_eq]; rfl) (enow rfl))
def allX (ps : List (List Int)) (cs : List Int) (b c : Int) : Nat → Nat → List Int
  | _, 0 => []
  | i, d + 1 => sayX ps cs (i : Int) b c :: allX ps cs b c (i + 1) d
theorem allX_len (ps : List (List Int)) (cs : List Int) (b c : Int) : ∀ (d i : Nat), (allX ps cs b c i d).length = d
  | 0, _ => rfl
  | d + 1, i => by simp [allX, allX_len ps cs b c d (i + 1)]
theorem specAll_l (h : Int) (ps : List (List Int)) (cs : List Int) (b c : Int) (hs : smallP ps) (g : goodTb h ps cs = true) : ∀ (d i : Nat) (acc : List Int), (i : Int) + d = h → acc.length ≤ i → Ev (fun k => spec_AllSay.l0 k b c acc (i : Int) h ps cs) (acc ++ allX ps cs b c i d, true) := by
  obtain ⟨_, _, g3, g4, _⟩ := goodTb_two g
  intro d
  induction d with
  | zero =>
    intro i acc hi ha
    exact eround (fun k => by rw [spec_AllSay.l0]) (eneg (by omega) (enow (by simp [allX])))
  | succ d ih =>
    intro i acc hi ha
    refine eround (fun k => by rw [spec_AllSay.l0]) (epos (by omega) ?_)
    refine ebind (specSay_e h ps cs (i : Int) b c hs g) ?_
    refine epos (by omega) ?_
    rw [w64 (by omega) (by omega)]
    have := ih (i + 1) (acc ++ [sayX ps cs (i : Int) b c]) (by push_cast at hi ⊢; omega) (by simp; omega)
    simpa [allX] using this
theorem implAll_l (h : Int) (ps : List (List Int)) (cs : List Int) (b c : Int) (hs : smallP ps) (g : goodTb h ps cs = true) : ∀ (d i : Nat) (acc : List Int), (i : Int) + d = h → acc.length ≤ i → Ev (fun k => impl_AllSay.l0 k b c acc h (i : Int) h ps cs) (acc ++ allX ps cs b c i d, true) := by
  obtain ⟨_, _, g3, g4, _⟩ := goodTb_two g
  intro d
  induction d with
  | zero =>
    intro i acc hi ha
    exact eround (fun k => by rw [impl_AllSay.l0]) (eneg (by omega) (enow (by simp [allX])))
  | succ d ih =>
    intro i acc hi ha
    refine eround (fun k => by rw [impl_AllSay.l0]) (epos (by omega) ?_)
    refine ebind (implSay_e h ps cs (i : Int) b c hs g) ?_
    refine epos (by omega) ?_
    rw [w64 (by omega) (by omega)]
    have := ih (i + 1) (acc ++ [sayX ps cs (i : Int) b c]) (by push_cast at hi ⊢; omega) (by simp; omega)
    simpa [allX] using this
def allR (h : Int) (ps : List (List Int)) (cs : List Int) (b c : Int) : List Int × Bool := if goodTb h ps cs && (inR (-1) (h - 1) b && inR 0 255 c) then (allX ps cs b c 0 h.toNat, true) else ([], false)
theorem allR_len (h : Int) (ps : List (List Int)) (cs : List Int) (b c : Int) : (allR h ps cs b c).1.length ≤ 1048576 := by
  unfold allR
  split
  · rename_i g
    simp only [Bool.and_eq_true] at g
    obtain ⟨_, _, g3, g4, _⟩ := goodTb_two g.1
    simp only [allX_len]; omega
  · simp
theorem specAS_e (h : Int) (ps : List (List Int)) (cs : List Int) (b c : Int) (hs : smallP ps) (hc : cs.length ≤ 1048576) : Ev (fun k => spec_AllSay.f k h ps cs b c) (allR h ps cs b c) := by
  unfold spec_AllSay.f allR
  refine ebind (asked_e h ps cs b c hs hc) ?_
  cases g : goodTb h ps cs with
  | false => exact eneg (by simp) (enow (by simp))
  | true =>
    obtain ⟨_, _, g3, g4, _⟩ := goodTb_two g
    cases g5 : (inR (-1) (h - 1) b && inR 0 255 c) with
    | false => exact eneg (by simp) (enow (by simp))
    | true =>
      have := specAll_l h ps cs b c hs g h.toNat 0 [] (by omega) (by simp)
      exact epos (by simp) (by simpa using this)
theorem implAS_e (h : Int) (ps : List (List Int)) (cs : List Int) (b c : Int) (hs : smallP ps) (hc : cs.length ≤ 1048576) : Ev (fun k => impl_AllSay.f k h ps cs b c) (allR h ps cs b c) := by
  unfold impl_AllSay.f allR
  refine ebind (implGTb_e h ps cs hs hc) ?_
  cases g : goodTb h ps cs with
  | false => exact eneg (by simp) (eround (fun k => by rw [impl_AllSay.j0]) (epos rfl (enow (by simp))))
  | true =>
    obtain ⟨_, _, g3, g4, _⟩ := goodTb_two g
    refine epos rfl (enb (a := inR (-1) (h - 1) b && inR 0 255 c) ?_ ?_)
    · unfold impl_Table_isWord.f impl_isByte.f
      rw [w64 (by omega) (by omega), within_eq, within_eq]
      cases inR (-1) (h - 1) b <;> rfl
    · cases g5 : (inR (-1) (h - 1) b && inR 0 255 c) with
      | false => exact eround (fun k => by rw [impl_AllSay.j0]) (epos (by decide) (enow (by simp)))
      | true =>
        have := implAll_l h ps cs b c hs g h.toNat 0 [] (by omega) (by simp)
        exact eround (fun k => by rw [impl_AllSay.j0]) (eneg (by decide) (by simpa using this))
def sayR (h : Int) (ps : List (List Int)) (cs : List Int) (a b c : Int) : Int × Bool := if goodTb h ps cs && (inR (-1) (h - 1) b && (inR 0 255 c && inR 0 (h - 1) a)) then (sayX ps cs a b c, true) else (0, false)
theorem specSA_e (h : Int) (ps : List (List Int)) (cs : List Int) (a b c : Int) (hs : smallP ps) (hc : cs.length ≤ 1048576) : Ev (fun k => spec_SayAt.f k h ps cs a b c) (sayR h ps cs a b c) := by
  unfold spec_SayAt.f sayR
  refine ebind (asked_e h ps cs b c hs hc) ?_
  cases g : goodTb h ps cs with
  | false => exact eneg (by simp) (enow (by simp))
  | true =>
    obtain ⟨_, _, g3, g4, _⟩ := goodTb_two g
    rw [w64 (by omega) (by omega)]
    cases g5 : inR (-1) (h - 1) b with
    | false => exact eneg (by simp) (enow (by simp))
    | true =>
      cases g6 : inR 0 255 c with
      | false => exact eneg (by simp) (enow (by simp))
      | true =>
        refine epos rfl (enb (l1In_eq _ _ _) ?_)
        cases g7 : inR 0 (h - 1) a with
        | false => exact eneg (by simp) (enow (by simp))
        | true => exact epos rfl (ebind (specSay_e h ps cs a b c hs g) (enow (by simp)))
theorem implSA_e (h : Int) (ps : List (List Int)) (cs : List Int) (a b c : Int) (hs : smallP ps) (hc : cs.length ≤ 1048576) : Ev (fun k => impl_SayAt.f k h ps cs a b c) (sayR h ps cs a b c) := by
  unfold impl_SayAt.f sayR
  refine ebind (implGTb_e h ps cs hs hc) ?_
  cases g : goodTb h ps cs with
  | false => exact eneg (by simp) (enow (by simp))
  | true =>
    obtain ⟨_, _, g3, g4, _⟩ := goodTb_two g
    refine epos rfl (enb (a := inR 0 (h - 1) a) (by unfold impl_Table_isSeat.f; rw [w64 (by omega) (by omega), within_eq]; rfl) ?_)
    cases g7 : inR 0 (h - 1) a with
    | false => exact eneg (by simp) (enow (by simp))
    | true =>
      refine epos rfl (enb (a := inR (-1) (h - 1) b && inR 0 255 c) ?_ ?_)
      · unfold impl_Table_isWord.f impl_isByte.f
        rw [w64 (by omega) (by omega), within_eq, within_eq]
        cases inR (-1) (h - 1) b <;> rfl
      · cases g5 : inR (-1) (h - 1) b with
        | false => exact eneg (by simp) (enow (by simp))
        | true =>
          cases g6 : inR 0 255 c with
          | false => exact eneg (by simp) (enow (by simp))
          | true => exact epos rfl (ebind (implSay_e h ps cs a b c hs g) (enow (by simp)))
def sumX (xs : List Int) (s : Int) : Int := xs.foldl (fun a b => Go.bits .xor .i64 a b) s
theorem implSum_l (xs : List Int) (hn : xs.length ≤ 9223372036854775807) : ∀ (d i : Nat) (s : Int), i + d = xs.length → Ev (fun k => impl_SumOf.l0 k s xs (xs.length : Int) (i : Int)) (sumX (xs.drop i) s, true) := by
  intro d
  induction d with
  | zero =>
    intro i s hi
    refine eround (fun k => by rw [impl_SumOf.l0]) ?_
    refine eneg (by omega) (enow ?_)
    rw [List.drop_eq_nil_of_le (by omega)]; rfl
  | succ d ih =>
    intro i s hi
    have hlt : i < xs.length := by omega
    refine eround (fun k => by rw [impl_SumOf.l0]) ?_
    refine epos (by omega) (epos (by omega) (epos (by omega) ?_))
    rw [rd_get xs i hlt, List.drop_eq_getElem_cons hlt, w64 (by omega) (by omega)]
    exact ih (i + 1) _ (by omega)
def sumR (xs : List Int) : Int × Bool := if xs.length ≤ 6 ∧ xs.all (inR 0 255) = true then (sumX xs 0, true) else (0, false)
theorem implSum_e (xs : List Int) (hn : xs.length ≤ 9223372036854775807) : Ev (fun k => impl_SumOf.f k xs) (sumR xs) := by
  unfold impl_SumOf.f sumR
  by_cases h : xs.length ≤ 6
  · refine eneg (by omega) (ebind (allWithin_e xs 0 255 hn) (eround (fun k => by rw [impl_SumOf.j0]) ?_))
    cases h2 : xs.all (inR 0 255) with
    | true => exact eneg (by simp) (by simpa [h] using implSum_l xs hn xs.length 0 0 (by omega))
    | false => exact epos (by simp) (enow (by simp))
  · refine epos (by omega) (eround (fun k => by rw [impl_SumOf.j0]) (epos rfl (enow (by simp [h]))))

/-! what is said at once adds up: each coin is used by two seats -/
theorem xor_nat (a b : Nat) (ha : a < 256) (hb : b < 256) : Go.bits .xor .i64 (a : Int) (b : Int) = ((a ^^^ b : Nat) : Int) := by
  have hx : a ^^^ b < 256 := Nat.xor_lt_two_pow (n := 8) ha hb
  have ea : (BitVec.ofInt IntKind.i64.bits (a : Int)).toNat = a := by
    rw [BitVec.ofInt_natCast, BitVec.toNat_ofNat]
    exact Nat.mod_eq_of_lt (Nat.lt_of_lt_of_le ha (by decide))
  have eb : (BitVec.ofInt IntKind.i64.bits (b : Int)).toNat = b := by
    rw [BitVec.ofInt_natCast, BitVec.toNat_ofNat]
    exact Nat.mod_eq_of_lt (Nat.lt_of_lt_of_le hb (by decide))
  unfold Go.bits
  simp only [BitVec.toNat_xor, ea, eb]
  rw [i64_w]
  exact w64 (by omega) (by omega)
def cX (a : Int) : List (List Int) → List Int → Nat
  | r :: ps, c :: cs => (if rd r 0 = a ∨ rd r 1 = a then c.toNat else 0) ^^^ cX a ps cs
  | _, _ => 0
theorem xor256 {a b : Nat} (ha : a < 256) (hb : b < 256) : a ^^^ b < 256 := Nat.xor_lt_two_pow (n := 8) ha hb
theorem coinsX_n (a : Int) : ∀ (ps : List (List Int)) (cs : List Int) (x : Nat), (∀ c ∈ cs, 0 ≤ c ∧ c ≤ 255) → x < 256 → coinsX a ps cs (x : Int) = ((x ^^^ cX a ps cs : Nat) : Int) ∧ cX a ps cs < 256
  | [], cs, x, _, _ => by cases cs <;> simp [coinsX, cX]
  | r :: ps, [], x, _, _ => by simp [coinsX, cX]
  | r :: ps, c :: cs, x, hc, hx => by
    have h0 := hc c (by simp)
    obtain ⟨n, rfl⟩ := Int.eq_ofNat_of_zero_le h0.1
    have hn : n < 256 := by omega
    have ih := fun y hy => coinsX_n a ps cs y (fun c h => hc c (by simp [h])) hy
    unfold coinsX cX
    by_cases e : rd r 0 = a ∨ rd r 1 = a
    · rw [if_pos e, if_pos e, xor_nat x n hx hn, Int.toNat_natCast]
      have := ih (x ^^^ n) (xor256 hx hn)
      exact ⟨by rw [this.1, Nat.xor_assoc], xor256 hn this.2⟩
    · rw [if_neg e, if_neg e]
      have := ih x hx
      rw [Nat.zero_xor]
      exact this
def xs (F : Nat → Nat) (i : Nat) : Nat → Nat
  | 0 => 0
  | n + 1 => F i ^^^ xs F (i + 1) n
theorem xs_zero : ∀ (n i : Nat), xs (fun _ => 0) i n = 0
  | 0, _ => rfl
  | n + 1, i => by rw [xs, xs_zero n (i + 1)]; rfl
theorem xs_xor (F G : Nat → Nat) : ∀ (n i : Nat), xs (fun j => F j ^^^ G j) i n = xs F i n ^^^ xs G i n
  | 0, _ => by simp [xs]
  | n + 1, i => by
    rw [xs, xs, xs, xs_xor F G n (i + 1)]
    rw [Nat.xor_assoc, Nat.xor_assoc, ← Nat.xor_assoc (G i), Nat.xor_comm (G i), Nat.xor_assoc]
theorem xs_one (a c : Nat) : ∀ (n i : Nat), xs (fun j => if a = j then c else 0) i n = if i ≤ a ∧ a < i + n then c else 0
  | 0, i => by rw [xs, if_neg (by omega)]
  | n + 1, i => by
    rw [xs, xs_one a c n (i + 1)]
    by_cases e : a = i
    · subst e
      rw [if_pos rfl, if_neg (by omega), if_pos (by omega), Nat.xor_zero]
    · rw [if_neg e, Nat.zero_xor]
      by_cases q : i ≤ a ∧ a < i + (n + 1)
      · rw [if_pos q, if_pos (by omega)]
      · rw [if_neg q, if_neg (by omega)]
theorem xs_congr (F G : Nat → Nat) : ∀ (n i : Nat), (∀ j, i ≤ j → j < i + n → F j = G j) → xs F i n = xs G i n
  | 0, _, _ => rfl
  | n + 1, i, h => by rw [xs, xs, h i (by omega) (by omega), xs_congr F G n (i + 1) (fun j a b => h j (by omega) (by omega))]
/-- The coins of all seats together: each one twice. -/
theorem xs_coins (h : Nat) : ∀ (ps : List (List Int)) (cs : List Int), (∀ p ∈ ps, 0 ≤ rd p 0 ∧ rd p 0 < rd p 1 ∧ rd p 1 < (h : Int)) → xs (fun j => cX (j : Int) ps cs) 0 h = 0
  | [], cs, _ => by
    rw [xs_congr _ (fun _ => 0) h 0 (fun j _ _ => by cases cs <;> rfl)]
    exact xs_zero h 0
  | r :: ps, [], _ => xs_zero h 0
  | r :: ps, c :: cs, hp => by
    obtain ⟨h0, h1, h2⟩ := hp r (by simp)
    obtain ⟨a, ea⟩ := Int.eq_ofNat_of_zero_le h0
    obtain ⟨b, eb⟩ := Int.eq_ofNat_of_zero_le (show 0 ≤ rd r 1 by omega)
    have e : xs (fun j => cX (j : Int) (r :: ps) (c :: cs)) 0 h = xs (fun j => ((if a = j then c.toNat else 0) ^^^ (if b = j then c.toNat else 0)) ^^^ cX (j : Int) ps cs) 0 h := by
      apply xs_congr
      intro j _ _
      rw [cX]
      congr 1
      by_cases q : a = j
      · subst q
        rw [if_pos (Or.inl ea), if_pos rfl, if_neg (by omega), Nat.xor_zero]
      · by_cases q2 : b = j
        · subst q2
          rw [if_pos (Or.inr eb), if_neg q, if_pos rfl, Nat.zero_xor]
        · rw [if_neg (by omega), if_neg q, if_neg q2]; rfl
    rw [e, xs_xor (fun j => (if a = j then c.toNat else 0) ^^^ (if b = j then c.toNat else 0)) (fun j => cX (j : Int) ps cs), xs_xor (fun j => if a = j then c.toNat else 0) (fun j => if b = j then c.toNat else 0), xs_one, xs_one, xs_coins h ps cs (fun p q => hp p (by simp [q]))]
    rw [if_pos (by omega), if_pos (by omega), Nat.xor_self]
    rfl
def xl : List Int → Nat
  | [] => 0
  | w :: ws => w.toNat ^^^ xl ws
theorem sumX_n : ∀ (l : List Int) (s : Nat), (∀ w ∈ l, 0 ≤ w ∧ w ≤ 255) → s < 256 → sumX l (s : Int) = ((s ^^^ xl l : Nat) : Int)
  | [], s, _, _ => by simp [sumX, xl]
  | w :: ws, s, hw, hs => by
    have h0 := hw w (by simp)
    obtain ⟨n, rfl⟩ := Int.eq_ofNat_of_zero_le h0.1
    have hn : n < 256 := by omega
    have := sumX_n ws (s ^^^ n) (fun w h => hw w (by simp [h])) (xor256 hs hn)
    unfold sumX at this ⊢
    rw [List.foldl_cons, xor_nat s n hs hn, this, xl, Int.toNat_natCast, Nat.xor_assoc]
/-! other coins hide who said it: each seat on the way turns two coins -/
theorem pair_at {h : Nat} {ps : List (List Int)} (g : goodP h ps) (cs : List Int) (a b : Nat) : ∃ x : Int, Ev (fun k => impl_Table_pair.f k (h : Int) ps cs (a : Int) (b : Int)) x ∧ (x ≥ 0 → ∃ j : Nat, x = (j : Int) ∧ ∃ hj : j < ps.length, (rd ps[j] 0 = (a : Int) ∧ rd ps[j] 1 = (b : Int)) ∨ (rd ps[j] 0 = (b : Int) ∧ rd ps[j] 1 = (a : Int))) ∧ (x ≥ 0 ↔ adj ps a b) := by
  obtain ⟨x, h1, h2, h3, h4, h5⟩ := pairImpl_l ps g.1 [mn (a : Int) (b : Int), mx (a : Int) (b : Int)] ps.length 0 (by omega)
  refine ⟨x, ebind (f := fun _ t => some t) h1 (enow rfl), fun hx => ?_, ?_⟩
  · obtain ⟨j, q1, _, q3, q4⟩ := h4 hx
    exact ⟨j, q1, q3, (pair_is g a b (List.getElem_mem q3)).1 q4⟩
  · rw [h2, List.drop_zero, List.any_eq_true]
    constructor
    · rintro ⟨p, hp, e⟩
      exact ⟨p, hp, (pair_is g a b hp).1 (of_decide_eq_true e)⟩
    · rintro ⟨p, hp, e⟩
      exact ⟨p, hp, decide_eq_true ((pair_is g a b hp).2 e)⟩
inductive OnWay (ps : List (List Int)) (b : Nat) : List Int → Nat → Prop
  | nil : OnWay ps b [] b
  | cons {l : List Int} {a u j : Nat} (hj : j < ps.length) : ((rd ps[j] 0 = (a : Int) ∧ rd ps[j] 1 = (u : Int)) ∨ (rd ps[j] 0 = (u : Int) ∧ rd ps[j] 1 = (a : Int))) → OnWay ps b l u → OnWay ps b ((j : Int) :: l) a
theorem OnWay.within {ps : List (List Int)} {a b : Nat} {l : List Int} (H : OnWay ps b l a) : ∀ y ∈ l, 0 ≤ y ∧ y < (ps.length : Int) := by
  induction H with
  | nil => simp
  | cons hj _ _ ih =>
    intro y hy
    rcases List.mem_cons.1 hy with rfl | q
    · omega
    · exact ih y q
theorem wayT_both {h to_ : Nat} (hh : h ≤ 6) {ps : List (List Int)} (g : goodP h ps) (cs : List Int) {f : List Int} (D : Dist ps h to_ f) (ht : to_ < h) : ∀ (n a : Nat) (out : List Int), a < h → rd f (a : Int) = (n : Int) → out.length + n ≤ 6 →
    ∃ l : List Int, (l.length = n ∧ OnWay ps to_ l a) ∧ Ev (fun k => impl_Table_way.l0 k (a : Int) (to_ : Int) f out (h : Int) ps cs) (out ++ l, true) := by
  intro n
  induction n with
  | zero =>
    intro a out ha hn ho
    have e : a = to_ := by
      rcases D.p3 a ha (by omega) with e | ⟨u, _, _, h1, h2⟩
      · exact e
      · omega
    subst e
    exact ⟨[], ⟨rfl, OnWay.nil⟩, by rw [List.append_nil]; exact eround (fun k => by rw [impl_Table_way.l0]) (epos rfl (enow rfl))⟩
  | succ n ih =>
    intro a out ha hn ho
    have hne : (a : Int) ≠ (to_ : Int) := fun e => by
      have := D.p1
      rw [← e] at this
      omega
    obtain ⟨u, u1, u2, u3, u4⟩ : ∃ u, u < h ∧ adj ps u a ∧ 0 ≤ rd f (u : Int) ∧ rd f (a : Int) = rd f (u : Int) + 1 := by
      rcases D.p3 a ha (by omega) with e | e
      · exact absurd (by rw [e]) hne
      · exact e
    obtain ⟨m, m1, m2, m3⟩ := least (fun s => rd f (s : Int) = (n : Int) ∧ adj ps a s) u u (Nat.le_refl _) ⟨by omega, adj_symm u2⟩
    obtain ⟨x, x1, x2, x3⟩ := pair_at g cs a m
    have x0 := x3.2 m2.2
    obtain ⟨j, rfl, hj, j2⟩ := x2 x0
    obtain ⟨l, ⟨l0, l1⟩, l2⟩ := ih m (out ++ [(j : Int)]) (by omega) m2.1 (by simp only [List.length_append, List.length_cons, List.length_nil]; omega)
    have hn' : rd f (a : Int) = (n : Int) + 1 := by omega
    refine ⟨(j : Int) :: l, ⟨by simp [l0], OnWay.cons hj j2 l1⟩, eround (fun k => by rw [impl_Table_way.l0]) (eneg hne ?_)⟩
    rw [List.append_assoc] at l2
    exact implWay_l1 hh g cs D.len a m n ha (by omega) hn' (by omega) m2 m3 out (by omega) x1 x0 l2 m 0 (by omega)
theorem wayT_e {n : Nat} (n1 : 1 ≤ n) (n6 : n ≤ 6) {ps : List (List Int)} {cs : List Int} (hs : smallP ps) (hc : cs.length ≤ 1048576) (g : goodTb (n : Int) ps cs = true) (gp : goodP n ps) (a b : Nat) (ha : a < n) (hb : b < n) : ∃ R : List Int × Bool, R.1.length ≤ 6 ∧ (R.2 = true → OnWay ps b R.1 a) ∧ Ev (fun k => impl_WayBetween.f k (n : Int) ps cs (a : Int) (b : Int)) R := by
  unfold impl_WayBetween.f
  have e1 := implGTb_e (n : Int) ps cs hs hc
  rw [g] at e1
  have hw : wrap64 ((n : Int) - 1) = (n : Int) - 1 := w64 (by omega) (by omega)
  have i1 : ∀ x : Nat, x < n → Ev (fun (_ : Nat) => impl_Table_isSeat.f (n : Int) ps cs (x : Int)) true := fun x hx => by
    unfold impl_Table_isSeat.f
    rw [hw, within_eq, inR_iff.2 (show 0 ≤ (x : Int) ∧ (x : Int) ≤ (n : Int) - 1 by omega)]
    exact enow rfl
  obtain ⟨f, D, e2, _⟩ := far_both n1 n6 hb gp cs
  have hl := D.len
  have W : ∃ R : List Int × Bool, R.1.length ≤ 6 ∧ (R.2 = true → OnWay ps b R.1 a) ∧ Ev (fun k => impl_Table_way.f k (n : Int) ps cs (a : Int) (b : Int)) R := by
    unfold impl_Table_way.f
    by_cases c : rd f (a : Int) < 0
    · exact ⟨([], false), by simp, by simp, ebind e2 (epos (by omega) (epos (by omega) (epos c (enow rfl))))⟩
    · obtain ⟨m, hm⟩ := Int.eq_ofNat_of_zero_le (show 0 ≤ rd f (a : Int) by omega)
      have hd : rd f (a : Int) < (n : Int) := Half.below (ps := ps) (to_ := b) ⟨D.len, D.lo, D.p1, D.p3⟩ a ha
      obtain ⟨l, ⟨l0, l1⟩, l2⟩ := wayT_both n6 gp cs D hb m a [] ha hm (by simp; omega)
      exact ⟨(l, true), by dsimp only; omega, fun _ => l1, ebind e2 (epos (by omega) (epos (by omega) (eneg c l2)))⟩
  obtain ⟨R, r1, r2, r3⟩ := W
  exact ⟨R, r1, r2, ebind e1 (epos rfl (ebind (i1 a ha) (epos rfl (ebind (i1 b hb) (epos rfl (ebind (f := fun _ t => some (t.1, t.2)) r3 (enow rfl)))))))⟩
def isw (s a w : Nat) : Nat := if s = a then w else 0
theorem cX_set (s : Nat) (w : Nat) : ∀ (ps : List (List Int)) (cs : List Int) (j a u : Nat) (hj : j < ps.length) (hc : j < cs.length), a ≠ u → ((rd ps[j] 0 = (a : Int) ∧ rd ps[j] 1 = (u : Int)) ∨ (rd ps[j] 0 = (u : Int) ∧ rd ps[j] 1 = (a : Int))) →
    cX (s : Int) ps (cs.set j ((cs[j].toNat ^^^ w : Nat) : Int)) = cX (s : Int) ps cs ^^^ (isw s a w ^^^ isw s u w)
  | r :: ps, c :: cs, 0, a, u, _, _, hne, hp => by
    simp only [List.getElem_cons_zero] at hp
    simp only [List.set_cons_zero, List.getElem_cons_zero, cX, Int.toNat_natCast]
    have e : (rd r 0 = (s : Int) ∨ rd r 1 = (s : Int)) ↔ (s = a ∨ s = u) := by omega
    by_cases q : s = a ∨ s = u
    · rw [if_pos (e.2 q), if_pos (e.2 q)]
      have : isw s a w ^^^ isw s u w = w := by
        unfold isw
        rcases q with rfl | rfl
        · rw [if_pos rfl, if_neg hne, Nat.xor_zero]
        · rw [if_neg (fun e => hne e.symm), if_pos rfl, Nat.zero_xor]
      rw [this, Nat.xor_assoc, Nat.xor_assoc, Nat.xor_comm w]
    · rw [if_neg (fun h => q (e.1 h)), if_neg (fun h => q (e.1 h))]
      unfold isw
      rw [if_neg (fun h => q (Or.inl h)), if_neg (fun h => q (Or.inr h))]
      simp
  | r :: ps, c :: cs, j + 1, a, u, hj, hc, hne, hp => by
    simp only [List.getElem_cons_succ] at hp
    simp only [List.set_cons_succ, List.getElem_cons_succ, cX]
    rw [cX_set s w ps cs j a u (by simpa using hj) (by simpa using hc) hne hp, Nat.xor_assoc]
theorem xorL_way {h : Nat} {ps : List (List Int)} (g : goodP h ps) (w : Nat) (hw : w < 256) {b : Nat} {l : List Int} {a : Nat} (H : OnWay ps b l a) : ∀ (cs : List Int), cs.length = ps.length → (∀ c ∈ cs, 0 ≤ c ∧ c ≤ 255) →
    (∀ c ∈ xorL (w : Int) l cs, 0 ≤ c ∧ c ≤ 255) ∧ ∀ s : Nat, cX (s : Int) ps (xorL (w : Int) l cs) = cX (s : Int) ps cs ^^^ (isw s a w ^^^ isw s b w) := by
  induction H with
  | nil => intro cs hl hc; exact ⟨hc, fun s => by rw [xorL, Nat.xor_self, Nat.xor_zero]⟩
  | @cons l a u j hj hp _ ih =>
    intro cs hl hc
    have hjc : j < cs.length := by omega
    have hne : a ≠ u := fun e => by
      have := (g.2 _ (List.getElem_mem hj)).2
      subst e
      omega
    have hb := hc _ (List.getElem_mem hjc)
    obtain ⟨m, hm⟩ := Int.eq_ofNat_of_zero_le hb.1
    have e : Go.bits .xor .i64 (rd cs (j : Int)) (w : Int) = ((cs[j].toNat ^^^ w : Nat) : Int) := by
      rw [rd_get cs j hjc, hm, xor_nat m w (by omega) hw, Int.toNat_natCast]
    have hx : cs[j].toNat ^^^ w < 256 := xor256 (by omega) hw
    rw [xorL, Int.toNat_natCast, e]
    obtain ⟨i1, i2⟩ := ih (cs.set j ((cs[j].toNat ^^^ w : Nat) : Int)) (by simpa using hl) (fun c hc2 => by
      rcases List.mem_or_eq_of_mem_set hc2 with q | rfl
      · exact hc c q
      · omega)
    refine ⟨i1, fun s => ?_⟩
    rw [i2 s, cX_set s w ps cs j a u hj hjc hne hp]
    generalize cX (s : Int) ps cs = X
    generalize isw s a w = A
    generalize isw s u w = U
    generalize isw s b w = B
    rw [Nat.xor_assoc, Nat.xor_assoc, ← Nat.xor_assoc U, Nat.xor_self, Nat.zero_xor]
theorem sayX_n (ps : List (List Int)) (cs : List Int) (hc : ∀ c ∈ cs, 0 ≤ c ∧ c ≤ 255) (s a w : Nat) (hw : w < 256) : sayX ps cs (s : Int) (a : Int) (w : Int) = ((cX (s : Int) ps cs ^^^ isw s a w : Nat) : Int) := by
  obtain ⟨c1, c2⟩ := coinsX_n (s : Int) ps cs 0 hc (by decide)
  rw [Nat.zero_xor, show ((0 : Nat) : Int) = 0 from rfl] at c1
  unfold sayX isw
  rw [c1]
  by_cases e : s = a
  · rw [if_pos (by omega), if_pos e, xor_nat _ w c2 hw]
  · rw [if_neg (by omega), if_neg e, Nat.xor_zero]
theorem allX_ext (ps : List (List Int)) (cs cs' : List Int) (b b' c : Int) : ∀ (d i : Nat), (∀ s : Nat, sayX ps cs (s : Int) b c = sayX ps cs' (s : Int) b' c) → allX ps cs b c i d = allX ps cs' b' c i d
  | 0, _, _ => rfl
  | d + 1, i, H => by rw [allX, allX, H i, allX_ext ps cs cs' b b' c d (i + 1) H]
theorem all_in {l : List Int} (h : l.all (inR 0 255) = true) : ∀ w ∈ l, 0 ≤ w ∧ w ≤ 255 := fun w hw => inR_iff.1 (List.all_eq_true.1 h w hw)
theorem in_all {l : List Int} (h : ∀ w ∈ l, 0 ≤ w ∧ w ≤ 255) : l.all (inR 0 255) = true := List.all_eq_true.2 (fun w hw => inR_iff.2 (h w hw))
theorem goodTb_coins {h : Int} {ps : List (List Int)} {cs : List Int} (g : goodTb h ps cs = true) : ∀ c ∈ cs, 0 ≤ c ∧ c ≤ 255 := by
  unfold goodTb endT at g
  simp only [Bool.and_eq_true, decide_eq_true_eq] at g
  exact all_in g.2.2.2.2
theorem goodTb_recoin {h : Int} {ps : List (List Int)} {cs cs' : List Int} (g : goodTb h ps cs = true) (hl : cs'.length = cs.length) (hc : ∀ c ∈ cs', 0 ≤ c ∧ c ≤ 255) : goodTb h ps cs' = true := by
  unfold goodTb endT at g ⊢
  simp only [Bool.and_eq_true, decide_eq_true_eq] at g ⊢
  exact ⟨g.1, g.2.1, g.2.2.1, by rw [hl]; exact g.2.2.2.1, in_all hc⟩
/-- With other coins another one might have said it. -/
theorem allR_other {n : Nat} {ps : List (List Int)} {cs : List Int} (g : goodTb (n : Int) ps cs = true) (gp : goodP n ps) (w : Int) (hw : inR 0 255 w = true) {a b : Nat} (ha : a < n) (hb : b < n) {l : List Int} (H : OnWay ps b l a) : allR (n : Int) ps (xorL w l cs) (b : Int) w = allR (n : Int) ps cs (a : Int) w := by
  have hw' := inR_iff.1 hw
  obtain ⟨m, rfl⟩ := Int.eq_ofNat_of_zero_le hw'.1
  have hm : m < 256 := by omega
  have hl := (goodTb_two g).2.1
  have hc := goodTb_coins g
  obtain ⟨x1, x2⟩ := xorL_way gp m hm H cs hl hc
  have g' := goodTb_recoin g (xorL_len (m : Int) l cs) x1
  unfold allR
  rw [g, g', hw, show inR (-1) ((n : Int) - 1) (b : Int) = true from inR_iff.2 (by omega), show inR (-1) ((n : Int) - 1) (a : Int) = true from inR_iff.2 (by omega)]
  simp only [Bool.and_self, if_true]
  refine congrArg (·, true) (allX_ext ps _ _ _ _ _ _ 0 (fun s => ?_))
  rw [sayX_n ps _ x1 s b m hm, sayX_n ps cs hc s a m hm, x2 s, Nat.xor_assoc, Nat.xor_assoc, Nat.xor_self, Nat.xor_zero]
theorem xl_all (ps : List (List Int)) (cs : List Int) (hc : ∀ c ∈ cs, 0 ≤ c ∧ c ≤ 255) (who : Int) (w : Nat) (hw : w < 256) (hwho : -1 ≤ who) : ∀ (d i : Nat), (∀ y ∈ allX ps cs who (w : Int) i d, 0 ≤ y ∧ y ≤ 255) ∧ xl (allX ps cs who (w : Int) i d) = xs (fun j => cX (j : Int) ps cs) i d ^^^ (if (i : Int) ≤ who ∧ who < (i : Int) + d then w else 0)
  | 0, i => by
    refine ⟨by simp [allX], ?_⟩
    rw [allX, xl, xs, if_neg (by omega)]; rfl
  | d + 1, i => by
    obtain ⟨i1, i2⟩ := xl_all ps cs hc who w hw hwho d (i + 1)
    obtain ⟨c1, c2⟩ := coinsX_n (i : Int) ps cs 0 hc (by decide)
    rw [Nat.zero_xor, show ((0 : Nat) : Int) = 0 from rfl] at c1
    have e : sayX ps cs (i : Int) who (w : Int) = ((cX (i : Int) ps cs ^^^ (if (i : Int) = who then w else 0) : Nat) : Int) := by
      unfold sayX
      rw [c1]
      by_cases q : (i : Int) = who
      · rw [if_pos q, if_pos q, xor_nat _ w c2 hw]
      · rw [if_neg q, if_neg q, Nat.xor_zero]
    have hb : cX (i : Int) ps cs ^^^ (if (i : Int) = who then w else 0) < 256 := xor256 c2 (by split <;> omega)
    rw [allX, e]
    constructor
    · intro y hy
      rcases List.mem_cons.1 hy with rfl | q
      · omega
      · exact i1 y q
    · rw [xl, Int.toNat_natCast, i2, xs]
      have ee : (if ((i : Nat) : Int) ≤ who ∧ who < (i : Int) + ((d + 1 : Nat) : Int) then w else 0) = (if (i : Int) = who then w else 0) ^^^ (if ((i + 1 : Nat) : Int) ≤ who ∧ who < ((i + 1 : Nat) : Int) + (d : Int) then w else 0) := by
        by_cases q : (i : Int) = who
        · rw [if_pos (by push_cast; omega), if_pos q, if_neg (by omega), Nat.xor_zero]
        · rw [if_neg q, Nat.zero_xor]
          by_cases q2 : ((i + 1 : Nat) : Int) ≤ who ∧ who < ((i + 1 : Nat) : Int) + (d : Int)
          · rw [if_pos q2, if_pos (by push_cast at q2 ⊢; omega)]
          · rw [if_neg q2, if_neg (by push_cast at q2 ⊢; omega)]
      rw [ee]
      generalize cX (i : Int) ps cs = X
      generalize (if (i : Int) = who then w else 0) = Q
      generalize xs (fun j => cX (j : Int) ps cs) (i + 1) d = Y
      rw [Nat.xor_assoc, Nat.xor_assoc, ← Nat.xor_assoc Q, Nat.xor_comm Q, Nat.xor_assoc]
theorem allR_sum {h : Int} {ps : List (List Int)} {cs : List Int} {who w : Int} (hs : smallP ps) (hr : (allR h ps cs who w).2 = true) : sumR (allR h ps cs who w).1 = (if who ≥ 0 then w else 0, true) := by
  unfold allR at hr ⊢
  by_cases c : (goodTb h ps cs && (inR (-1) (h - 1) who && inR 0 255 w)) = true
  · rw [if_pos c]
    simp only [Bool.and_eq_true] at c
    obtain ⟨g, c1, c2⟩ := c
    have c1' := inR_iff.1 c1
    have c2' := inR_iff.1 c2
    obtain ⟨n, rfl, n1, n6, gp⟩ := goodP_of hs g
    obtain ⟨m, rfl⟩ := Int.eq_ofNat_of_zero_le c2'.1
    have hm : m < 256 := by omega
    obtain ⟨t1, t2⟩ := xl_all ps cs (goodTb_coins g) who m hm c1'.1 n 0
    rw [xs_coins n ps cs (fun p hp => (gp.2 p hp).2), Nat.zero_xor] at t2
    have s1 := sumX_n _ 0 t1 (by decide)
    rw [t2, Nat.zero_xor] at s1
    unfold sumR
    rw [Int.toNat_natCast, if_pos ⟨by rw [allX_len]; omega, in_all t1⟩]
    refine Prod.ext (s1.trans ?_) rfl
    by_cases q : who ≥ 0
    · rw [if_pos (by omega)]; simp only [q, if_true]
    · rw [if_neg (by omega)]; simp only [q, if_false]; rfl
  · rw [if_neg c] at hr
    simp at hr
theorem allX_get (ps : List (List Int)) (cs : List Int) (b c : Int) : ∀ (d i j : Nat) (hj : j < (allX ps cs b c i d).length), (allX ps cs b c i d)[j] = sayX ps cs ((i + j : Nat) : Int) b c
  | 0, _, _, hj => by simp [allX] at hj
  | d + 1, i, 0, _ => by simp [allX]
  | d + 1, i, j + 1, hj => by
    simp only [allX, List.getElem_cons_succ]
    rw [allX_get ps cs b c d (i + 1) j (by simpa [allX] using hj), show i + 1 + j = i + (j + 1) by omega]
/-! the cursor of what is drawn -/
def bytes (s : List Int) : Prop := ∀ x ∈ s, 0 ≤ x ∧ x ≤ 255
theorem bytes_of {s : List Int} (h : ∀ x ∈ s, (Lit.int .u8 x).wf = true) : bytes s := by
  intro x hx
  have := h x hx
  simp [Lit.wf, IntKind.min, IntKind.max, IntKind.bits, IntKind.signed] at this
  omega
theorem u64_range (y : Int) : 0 ≤ IntKind.u64.wrap y ∧ IntKind.u64.wrap y < 18446744073709551616 := by
  simp only [IntKind.wrap, IntKind.bits, IntKind.signed]
  constructor
  · simp; omega
  · simp; omega
theorem wraps_u64 (n : Int) (h0 : 0 ≤ n) (h1 : n < 2 ^ 62) : IntKind.u64.wrap n = n := by
  have : (2 : Int) ^ 62 = 4611686018427387904 := by decide
  exact u64_wrap_small n h0 (by omega)
theorem and255 (x : Int) (h0 : 0 ≤ x) (h1 : x < 4611686018427387904) : 0 ≤ Go.bits .and .u64 x 255 ∧ Go.bits .and .u64 x 255 ≤ 255 := by
  obtain ⟨a, rfl⟩ := Int.eq_ofNat_of_zero_le h0
  have ha : a < 2 ^ 62 := by have : (2 : Nat) ^ 62 = 4611686018427387904 := by decide
                             omega
  have := (bits_nat .u64 62 (by decide) wraps_u64 a 255 ha (by decide)).1
  rw [show ((255 : Nat) : Int) = 255 from rfl] at this
  rw [this]
  have : a &&& 255 ≤ 255 := Nat.and_le_right
  omega
theorem and_u64 (y : Int) : 0 ≤ wrap64 (Go.bits .and .u64 (IntKind.u64.wrap y / 1099511627776) 255) ∧ wrap64 (Go.bits .and .u64 (IntKind.u64.wrap y / 1099511627776) 255) ≤ 255 := by
  have r := u64_range y
  have := and255 (IntKind.u64.wrap y / 1099511627776) (by omega) (by omega)
  rw [w64 (by omega) (by omega)]
  exact this
theorem bytes_rd {s : List Int} (hb : bytes s) (p : Int) (h0 : 0 ≤ p) (h1 : p < s.length) : 0 ≤ rd s p ∧ rd s p ≤ 255 := by
  obtain ⟨i, rfl⟩ := Int.eq_ofNat_of_zero_le h0
  rw [rd_get s i (by omega)]
  exact hb _ (List.getElem_mem _)
theorem next_e (s : List Int) (hb : bytes s) (p x : Int) (h0 : 0 ≤ p) (h1 : p ≤ 1152921504606846976) : ∃ v x', spec_l1Cur_next.f s p x = some (v, p + 1, x') ∧ 0 ≤ v ∧ v ≤ 255 := by
  unfold spec_l1Cur_next.f
  rw [w64 (x := p + 1) (by omega) (by omega)]
  by_cases h : p < (s.length : Int)
  · have := bytes_rd hb p h0 h
    rw [w64 (x := rd s p) (by omega) (by omega), if_pos h, if_pos h0, if_pos (by omega)]
    exact ⟨_, _, rfl, this⟩
  · rw [if_neg h, if_neg (by omega)]
    exact ⟨_, _, rfl, and_u64 _⟩
theorem tmod_range (v n : Int) (h0 : 0 ≤ v) (h : 1 < n) : 0 ≤ Int.tmod v n ∧ Int.tmod v n < n := by
  rw [Int.tmod_eq_emod_of_nonneg h0]
  exact ⟨Int.emod_nonneg _ (by omega), Int.emod_lt_of_pos _ (by omega)⟩
theorem pick_e (s : List Int) (hb : bytes s) (p x n : Int) (h0 : 0 ≤ p) (h1 : p ≤ 1152921504606846900) : ∃ r p' x', spec_l1Cur_pick.f s p x n = some (r, p', x') ∧ (0 ≤ r ∧ (n ≤ 1 → r = 0) ∧ (1 < n → r < n)) ∧ p ≤ p' ∧ p' ≤ p + 2 := by
  unfold spec_l1Cur_pick.f
  by_cases hn : n ≤ 1
  · exact ⟨0, p, x, by rw [if_pos hn], ⟨by omega, fun _ => rfl, fun h => by omega⟩, by omega, by omega⟩
  · rw [if_neg hn]
    obtain ⟨v, x', e, v0, v1⟩ := next_e s hb p x h0 (by omega)
    rw [e, Option.bind_some]
    by_cases h2 : n > 200
    · obtain ⟨u, x'', e', u0, u1⟩ := next_e s hb (p + 1) x' (by omega) (by omega)
      rw [if_pos h2]
      simp only [e', Option.bind_some]
      rw [if_neg (by omega), w64 (x := v * 256) (by omega) (by omega), w64 (by omega) (by omega)]
      have := tmod_range (v * 256 + u) n (by omega) (by omega)
      exact ⟨_, _, _, rfl, ⟨this.1, fun h => by omega, fun _ => this.2⟩, by omega, by omega⟩
    · rw [if_neg h2, if_neg (by omega)]
      have := tmod_range v n v0 (by omega)
      exact ⟨_, p + 1, x', rfl, ⟨this.1, fun h => by omega, fun _ => this.2⟩, by omega, by omega⟩
theorem one_e (s : List Int) (hb : bytes s) (p x n : Int) (h0 : 0 ≤ p) (h1 : p ≤ 1152921504606846900) : ∃ b p' x', spec_l1Cur_one.f s p x n = some (b, p', x') ∧ p ≤ p' ∧ p' ≤ p + 2 := by
  obtain ⟨r, p', x', e, _, h2, h3⟩ := pick_e s hb p x n h0 h1
  exact ⟨r == 0, p', x', by unfold spec_l1Cur_one.f; simp only [e, Option.bind_some], h2, h3⟩
theorem among_e (s : List Int) (hb : bytes s) (p x : Int) (l : List Int) (hl : 1 ≤ l.length) (h0 : 0 ≤ p) (h1 : p ≤ 1152921504606846900) : ∃ v p' x', spec_l1Cur_among.f s p x l = some (v, p', x') ∧ v ∈ l ∧ p ≤ p' ∧ p' ≤ p + 2 := by
  obtain ⟨r, p', x', e, ⟨r0, r1, r2⟩, h2, h3⟩ := pick_e s hb p x (l.length : Int) h0 h1
  have hr : r < (l.length : Int) := by
    by_cases h : 1 < (l.length : Int)
    · exact r2 h
    · have := r1 (by omega); omega
  refine ⟨rd l r, p', x', ?_, ?_, h2, h3⟩
  · unfold spec_l1Cur_among.f
    simp only [e, Option.bind_some]
    rw [if_pos r0, if_pos hr]
  · obtain ⟨i, rfl⟩ := Int.eq_ofNat_of_zero_le r0
    rw [rd_get l i (by omega)]
    exact List.getElem_mem _
/-- What a drawn table is, whatever it says. -/
def fineTb (h : Int) (ps : List (List Int)) (cs : List Int) : Prop := 0 ≤ h ∧ h ≤ 7 ∧ ps.length ≤ 40 ∧ cs.length ≤ 40 ∧ ∀ y ∈ ps, y.length ≤ 2
theorem table_end (s : List Int) (hb : bytes s) (h i : Nat) (hh : h ≤ 6) (hi : ¬ (i : Int) < (h : Int)) (ps : List (List Int)) (cs : List Int) (p x : Int) (h0 : 0 ≤ p) (h1 : p ≤ 1152921504604000000) (hp : ps.length ≤ 36) (hc : cs.length ≤ 36) (hr : ∀ y ∈ ps, y.length ≤ 2) : ∃ h' ps' cs' p' x', Ev (fun k => spec_l1Cur_table.l0 k (i : Int) s p x (h : Int) ps cs) (h', ps', cs', p', x') ∧ fineTb h' ps' cs' ∧ p ≤ p' ∧ p' ≤ p + 10 := by
  obtain ⟨a, p1, x1, e1, _, g1, g2⟩ := pick_e s hb p x 30 h0 (by omega)
  by_cases c0 : a = 0
  · obtain ⟨v, p2, x2, e2, hv, g3, g4⟩ := among_e s hb p1 x1 [0, 6, 7] (by simp) (by omega) (by omega)
    have E : Ev (fun k => spec_l1Cur_table.l0 k (i : Int) s p x (h : Int) ps cs) (v, ps, cs, p2, x2) := by
      refine eround (fun k => by rw [spec_l1Cur_table.l0]) (eneg hi ?_)
      refine enb e1 ?_
      refine epos c0 ?_
      refine enb e2 ?_
      exact enow rfl
    refine ⟨v, ps, cs, p2, x2, E, ⟨?_, ?_, by omega, by omega, hr⟩, by omega, by omega⟩ <;> (simp at hv; omega)
  · by_cases c1 : a = 1
    · have E : Ev (fun k => spec_l1Cur_table.l0 k (i : Int) s p x (h : Int) ps cs) ((h : Int), ps, cs ++ [5], p1, x1) := by
        refine eround (fun k => by rw [spec_l1Cur_table.l0]) (eneg hi ?_)
        refine enb e1 ?_
        refine eneg c0 ?_
        refine epos c1 ?_
        refine epos (by omega) ?_
        exact enow rfl
      exact ⟨h, ps, cs ++ [5], p1, x1, E, ⟨by omega, by omega, by omega, by simp; omega, hr⟩, by omega, by omega⟩
    · by_cases c2 : a = 2
      · have E : Ev (fun k => spec_l1Cur_table.l0 k (i : Int) s p x (h : Int) ps cs) ((h : Int), ps ++ [[1, 0]], cs ++ [5], p1, x1) := by
          refine eround (fun k => by rw [spec_l1Cur_table.l0]) (eneg hi ?_)
          refine enb e1 ?_
          refine eneg c0 ?_
          refine eneg c1 ?_
          refine epos c2 ?_
          refine epos (by omega) ?_
          refine epos (by omega) ?_
          exact enow rfl
        refine ⟨h, ps ++ [[1, 0]], cs ++ [5], p1, x1, E, ⟨by omega, by omega, by simp; omega, by simp; omega, fun y hy => ?_⟩, by omega, by omega⟩
        rcases List.mem_append.1 hy with q | q
        · exact hr y q
        · rw [List.mem_singleton.1 q]; simp
      · have E : Ev (fun k => spec_l1Cur_table.l0 k (i : Int) s p x (h : Int) ps cs) ((h : Int), ps, cs, p1, x1) := by
          refine eround (fun k => by rw [spec_l1Cur_table.l0]) (eneg hi ?_)
          refine enb e1 ?_
          refine eneg c0 ?_
          refine eneg c1 ?_
          refine eneg c2 ?_
          exact enow rfl
        exact ⟨h, ps, cs, p1, x1, E, ⟨by omega, by omega, by omega, by omega, hr⟩, by omega, by omega⟩
theorem table_l0 (s : List Int) (hb : bytes s) (h : Nat) (hh : h ≤ 6) : ∀ (d i : Nat), i + d = h → ∀ (ps : List (List Int)) (cs : List Int) (p x : Int), 0 ≤ p → p + 30 * d ≤ 1152921504604000000 → ps.length ≤ 6 * i → cs.length ≤ 6 * i → (∀ y ∈ ps, y.length ≤ 2) → ∃ h' ps' cs' p' x', Ev (fun k => spec_l1Cur_table.l0 k (i : Int) s p x (h : Int) ps cs) (h', ps', cs', p', x') ∧ fineTb h' ps' cs' ∧ p ≤ p' ∧ p' ≤ p + 30 * d + 10 := by
  intro d
  induction d with
  | zero =>
    intro i hi ps cs p x h0 h1 hp hc hr
    obtain ⟨h', ps', cs', p', x', e, f, g1, g2⟩ := table_end s hb h i hh (by omega) ps cs p x h0 (by omega) (by omega) (by omega) hr
    exact ⟨h', ps', cs', p', x', e, f, g1, by omega⟩
  | succ d ih =>
    intro i hi ps cs p x h0 h1 hp hc hr
    have L : ∀ (n j : Nat), j + n = h → i + 1 ≤ j → ∀ (ps : List (List Int)) (cs : List Int) (p x : Int), 0 ≤ p → p + 30 * d + 4 * n ≤ 1152921504604000000 → ps.length + n ≤ 6 * (i + 1) → cs.length + n ≤ 6 * (i + 1) → (∀ y ∈ ps, y.length ≤ 2) → ∃ h' ps' cs' p' x', Ev (fun k => spec_l1Cur_table.l1 k (i : Int) (j : Int) s p x (h : Int) ps cs) (h', ps', cs', p', x') ∧ fineTb h' ps' cs' ∧ p ≤ p' ∧ p' ≤ p + 30 * d + 4 * n + 10 := by
      intro n
      induction n with
      | zero =>
        intro j hj hij ps cs p x h0 h1 hp hc hr
        obtain ⟨h', ps', cs', p', x', e, f, g1, g2⟩ := ih (i + 1) (by omega) ps cs p x h0 (by omega) (by omega) (by omega) hr
        refine ⟨h', ps', cs', p', x', eround (fun k => by rw [spec_l1Cur_table.l1]) (eneg (by omega) ?_), f, g1, by omega⟩
        rw [w64 (by omega) (by omega)]
        exact e
      | succ n ihn =>
        intro j hj hij ps cs p x h0 h1 hp hc hr
        obtain ⟨b, p1, x1, e1, g1, g2⟩ := one_e s hb p x 2 h0 (by omega)
        cases b with
        | false =>
          obtain ⟨h', ps', cs', p', x', e, f, q1, q2⟩ := ihn (j + 1) (by omega) (by omega) ps cs p1 x1 (by omega) (by push_cast at h1 ⊢; omega) (by omega) (by omega) hr
          refine ⟨h', ps', cs', p', x', eround (fun k => by rw [spec_l1Cur_table.l1]) (epos (by omega) ?_), f, by omega, by push_cast; omega⟩
          refine enb e1 ?_
          refine eneg (by simp) ?_
          rw [w64 (by omega) (by omega)]
          exact e
        | true =>
          obtain ⟨c, p2, x2, e2, _, g3, g4⟩ := pick_e s hb p1 x1 256 (by omega) (by omega)
          obtain ⟨h', ps', cs', p', x', e, f, q1, q2⟩ := ihn (j + 1) (by omega) (by omega) (ps ++ [[(i : Int), (j : Int)]]) (cs ++ [c]) p2 x2 (by omega) (by push_cast at h1 ⊢; omega) (by simp; omega) (by simp; omega) (fun y hy => by
            rcases List.mem_append.1 hy with q | q
            · exact hr y q
            · rw [List.mem_singleton.1 q]; simp)
          refine ⟨h', ps', cs', p', x', eround (fun k => by rw [spec_l1Cur_table.l1]) (epos (by omega) ?_), f, by omega, by push_cast; omega⟩
          refine enb e1 ?_
          refine epos rfl ?_
          refine epos (by omega) ?_
          refine enb e2 ?_
          refine epos (by omega) ?_
          rw [w64 (by omega) (by omega)]
          exact e
    obtain ⟨h', ps', cs', p', x', e, f, q1, q2⟩ := L (h - (i + 1)) (i + 1) (by omega) (by omega) ps cs p x h0 (by push_cast at h1; omega) (by omega) (by omega) hr
    refine ⟨h', ps', cs', p', x', eround (fun k => by rw [spec_l1Cur_table.l0]) (epos (by omega) ?_), f, q1, by push_cast; omega⟩
    rw [w64 (by omega) (by omega)]
    exact e
theorem table_e (s : List Int) (hb : bytes s) (p x : Int) (h0 : 0 ≤ p) (h1 : p ≤ 1152921504603000000) : ∃ h ps cs p' x', Ev (fun k => spec_l1Cur_table.f k s p x) (h, ps, cs, p', x') ∧ fineTb h ps cs ∧ p ≤ p' ∧ p' ≤ p + 200 := by
  obtain ⟨a, p1, x1, e1, ⟨a0, _, a2⟩, g1, g2⟩ := pick_e s hb p x 6 h0 (by omega)
  have := a2 (by omega)
  obtain ⟨n, rfl⟩ := Int.eq_ofNat_of_zero_le a0
  obtain ⟨h', ps', cs', p', x', e, f, q1, q2⟩ := table_l0 s hb (n + 1) (by omega) (n + 1) 0 (by omega) [] [] p1 x1 (by omega) (by omega) (by simp) (by simp) (by simp)
  refine ⟨h', ps', cs', p', x', enb e1 ?_, f, by omega, by omega⟩
  rw [show wrap64 (1 + ((n : Nat) : Int)) = ((n + 1 : Nat) : Int) by rw [w64 (by omega) (by omega)]; omega]
  exact e
theorem word_e (s : List Int) (hb : bytes s) (p x : Int) (h0 : 0 ≤ p) (h1 : p ≤ 1152921504604000000) : ∃ v p' x', spec_l1Cur_word15.f s p x = some (v, p', x') := by
  obtain ⟨a, p1, x1, e1, _, g1, g2⟩ := pick_e s hb p x 256 h0 (by omega)
  obtain ⟨v, p2, x2, e2, hv, g3, g4⟩ := among_e s hb p1 x1 [-1, 0, 1, 77, 255, 256, a] (by simp) (by omega) (by omega)
  refine ⟨v, p2, x2, ?_⟩
  unfold spec_l1Cur_word15.f
  rw [e1, Option.bind_some]
  dsimp only
  rw [e2, Option.bind_some]
theorem drawAS_e (s : List Int) (hb : bytes s) : ∃ h ps cs a w, Ev (fun k => spec_DrawAllSay.f k s) (h, ps, cs, a, w) ∧ fineTb h ps cs := by
  obtain ⟨h, ps, cs, p1, x1, e1, f, g1, g2⟩ := table_e s hb 0 0 (by omega) (by omega)
  obtain ⟨a, p2, x2, e2, _, g3, g4⟩ := pick_e s hb p1 x1 (wrap64 (h + 2)) (by omega) (by omega)
  obtain ⟨w, p3, x3, e3⟩ := word_e s hb p2 x2 (by omega) (by omega)
  refine ⟨h, ps, cs, wrap64 (a - 1), w, ?_, f⟩
  unfold spec_DrawAllSay.f
  refine ebind e1 ?_
  refine enb e2 ?_
  refine enb e3 ?_
  exact enow rfl
theorem drawOC_e (s : List Int) (hb : bytes s) : ∃ h ps cs a b w, Ev (fun k => spec_DrawOtherCoins.f k s) (h, ps, cs, a, b, w) ∧ fineTb h ps cs := by
  obtain ⟨h, ps, cs, p1, x1, e1, f, g1, g2⟩ := table_e s hb 0 0 (by omega) (by omega)
  obtain ⟨a, p2, x2, e2, _, g3, g4⟩ := pick_e s hb p1 x1 (wrap64 (h + 1)) (by omega) (by omega)
  obtain ⟨b, p3, x3, e3, _, g5, g6⟩ := pick_e s hb p2 x2 (wrap64 (h + 1)) (by omega) (by omega)
  obtain ⟨w, p4, x4, e4⟩ := word_e s hb p3 x3 (by omega) (by omega)
  refine ⟨h, ps, cs, a, b, w, ?_, f⟩
  unfold spec_DrawOtherCoins.f
  refine ebind e1 ?_
  refine enb e2 ?_
  refine enb e3 ?_
  refine enb e4 ?_
  exact enow rfl
theorem drawSA_e (s : List Int) (hb : bytes s) : ∃ h ps cs a b w, Ev (fun k => spec_DrawSayAt.f k s) (h, ps, cs, a, b, w) ∧ fineTb h ps cs := by
  obtain ⟨h, ps, cs, p1, x1, e1, f, g1, g2⟩ := table_e s hb 0 0 (by omega) (by omega)
  obtain ⟨a, p2, x2, e2, _, g3, g4⟩ := pick_e s hb p1 x1 (wrap64 (h + 2)) (by omega) (by omega)
  obtain ⟨b, p3, x3, e3, _, g5, g6⟩ := pick_e s hb p2 x2 (wrap64 (h + 2)) (by omega) (by omega)
  obtain ⟨w, p4, x4, e4⟩ := word_e s hb p3 x3 (by omega) (by omega)
  refine ⟨h, ps, cs, wrap64 (a - 1), wrap64 (b - 1), w, ?_, f⟩
  unfold spec_DrawSayAt.f
  refine ebind e1 ?_
  refine enb e2 ?_
  refine enb e3 ?_
  refine enb e4 ?_
  exact enow rfl
theorem sameI_l (xs ys : List Int) (hl : xs.length = ys.length) (hn : xs.length ≤ 9223372036854775807) : ∀ (d i : Nat), i + d = xs.length → Ev (fun k => laws_sameInts.l0 k xs ys (xs.length : Int) (i : Int)) (decide (xs.drop i = ys.drop i)) := by
  intro d
  induction d with
  | zero =>
    intro i hi
    refine eround (fun k => by rw [laws_sameInts.l0]) (eneg (by omega) (enow ?_))
    rw [List.drop_eq_nil_of_le (show xs.length ≤ i by omega), List.drop_eq_nil_of_le (show ys.length ≤ i by omega)]; rfl
  | succ d ih =>
    intro i hi
    have hlt : i < xs.length := by omega
    have hlt' : i < ys.length := by omega
    refine eround (fun k => by rw [laws_sameInts.l0]) (epos (by omega) (epos (by omega) (epos (by omega) (epos (by omega) ?_))))
    rw [rd_get xs i hlt, rd_get ys i hlt', List.drop_eq_getElem_cons hlt, List.drop_eq_getElem_cons hlt']
    by_cases h : xs[i] = ys[i]
    · refine epos h ?_
      rw [w64 (by omega) (by omega)]
      simp only [h, List.cons.injEq, true_and]
      exact ih (i + 1) (by omega)
    · exact eneg h (enow (by simp only [List.cons.injEq, h, false_and, decide_false]))
theorem sameI_e (xs ys : List Int) (hn : xs.length ≤ 9223372036854775807) : Ev (fun k => laws_sameInts.f k xs ys) (decide (xs = ys)) := by
  unfold laws_sameInts.f
  by_cases hl : xs.length = ys.length
  · exact epos (by omega) (sameI_l xs ys hl hn xs.length 0 (by omega))
  · refine eneg (by omega) (enow ?_)
    have : xs ≠ ys := fun h => hl (by rw [h])
    simp [this]
theorem sameRows_l (xs : List (List Int)) (hs : xs.length ≤ 1048576 ∧ ∀ y ∈ xs, y.length ≤ 1048576) : ∀ (d i : Nat), i + d = xs.length → Ev (fun k => laws_sameRows.l0 k xs xs (xs.length : Int) (i : Int)) true := by
  have hn := hs.1
  intro d
  induction d with
  | zero =>
    intro i hi
    exact eround (fun k => by rw [laws_sameRows.l0]) (eneg (by omega) (enow rfl))
  | succ d ih =>
    intro i hi
    have hlt : i < xs.length := by omega
    refine eround (fun k => by rw [laws_sameRows.l0]) (epos (by omega) (epos (by omega) (epos (by omega) (epos (by omega) ?_))))
    rw [show rd_L1 xs (i : Int) = xs[i] from getD_get xs i _ hlt]
    have := sameI_e xs[i] xs[i] (by have := hs.2 _ (List.getElem_mem hlt); omega)
    rw [decide_eq_true rfl] at this
    refine ebind this (epos rfl ?_)
    rw [w64 (by omega) (by omega)]
    exact ih (i + 1) (by omega)
theorem sameRows_e (xs : List (List Int)) (hs : xs.length ≤ 1048576 ∧ ∀ y ∈ xs, y.length ≤ 1048576) : Ev (fun k => laws_sameRows.f k xs xs) true := by
  unfold laws_sameRows.f
  exact epos rfl (sameRows_l xs hs xs.length 0 (by omega))
theorem sameTable_e (h : Int) (ps : List (List Int)) (cs : List Int) (hs : smallP ps) (hc : cs.length ≤ 1048576) : Ev (fun k => laws_sameTable.f k h ps cs h ps cs) true := by
  unfold laws_sameTable.f
  have sI := sameI_e cs cs (by omega)
  rw [decide_eq_true rfl] at sI
  exact epos rfl (ebind (sameRows_e ps hs) (epos rfl (ebind (f := fun _ t => some t) sI (enow rfl))))
theorem ocT_e {n : Nat} {ps : List (List Int)} {cs : List Int} (hs : smallP ps) (hc : cs.length ≤ 1048576) (hl : cs.length = ps.length) (a b w : Int) (hw : inR 0 255 w = true) {R : List Int × Bool} (r1 : R.1.length ≤ 6) (r2 : R.2 = true → ∀ y ∈ R.1, 0 ≤ y ∧ y < (ps.length : Int)) (r3 : Ev (fun k => impl_WayBetween.f k (n : Int) ps cs a b) R) : Ev (fun k => impl_OtherCoins.f k (n : Int) ps cs a b w) (if R.2 = true then ((n : Int), ps, xorL w R.1 cs, true) else (0, [], [], false)) := by
  unfold impl_OtherCoins.f
  have ib : impl_isByte.f w = some true := by unfold impl_isByte.f; rw [within_eq, hw]; rfl
  refine ebind r3 ?_
  by_cases c : R.2 = true
  · rw [if_pos c]
    refine epos c ?_
    refine enb ib ?_
    refine eround (fun k => by rw [impl_OtherCoins.j0]) (eneg (by decide) (enb (clone_e cs hc) ?_))
    exact implOC_l0 w (n : Int) ps hs R.1 cs r1 (fun y hy => by have := r2 c y hy; omega) ps.length 0 (by omega)
  · rw [if_neg c]
    exact eneg c (eround (fun k => by rw [impl_OtherCoins.j0]) (epos rfl (enow rfl)))
theorem law_l1 {n : Nat} (n1 : 1 ≤ n) (n6 : n ≤ 6) (t : List Int) {ps : List (List Int)} {cs : List Int} (hs : smallP ps) (hc : cs.length ≤ 1048576) (g : goodTb (n : Int) ps cs = true) (gp : goodP n ps) (who w : Int) (hw : inR 0 255 w = true) (hwho : inR (-1) ((n : Int) - 1) who = true) (H : Ev (fun k => laws_FnTable.j5 k t) true) : ∀ d i : Nat, i + d = n → Ev (fun k => laws_FnTable.l1 k t who w (allR (n : Int) ps cs who w).1 (i : Int) (n : Int) ps cs) true := by
  have hl := (goodTb_two g).2.1
  have hwho' := inR_iff.1 hwho
  intro d
  induction d with
  | zero =>
    intro i hi
    refine eround (fun k => by rw [laws_FnTable.l1]) (eneg (by omega) ?_)
    exact eround (fun k => by rw [laws_FnTable.j4]) (eneg (by decide) H)
  | succ d ih =>
    intro i hi
    have N := ih (i + 1) (by omega)
    have hwr : wrap64 ((i : Int) + 1) = ((i + 1 : Nat) : Int) := wsucc (by omega)
    refine eround (fun k => by rw [laws_FnTable.l1]) (epos (by omega) ?_)
    by_cases c : who ≥ 0
    · obtain ⟨a, rfl⟩ := Int.eq_ofNat_of_zero_le c
      obtain ⟨R, r1, r2, r3⟩ := wayT_e n1 n6 hs hc g gp a i (by omega) (by omega)
      have O := ocT_e hs hc hl (a : Int) (i : Int) w hw r1 (fun h => (r2 h).within) r3
      rw [decide_eq_true c]
      refine eround (fun k => by rw [laws_FnTable.j4]) (epos rfl ?_)
      rw [hwr]
      by_cases q : R.2 = true
      · rw [if_pos q] at O
        have e := allR_other g gp w hw (by omega) (by omega) (r2 q)
        have A := implAS_e (n : Int) ps (xorL w R.1 cs) (i : Int) w hs (by rw [xorL_len]; exact hc)
        rw [e] at A
        have sI := sameI_e (allR (n : Int) ps cs (a : Int) w).1 (allR (n : Int) ps cs (a : Int) w).1 (by have := allR_len (n : Int) ps cs (a : Int) w; omega)
        rw [decide_eq_true rfl] at sI
        have hok : (allR (n : Int) ps cs (a : Int) w).2 = true := by unfold allR; rw [g, hw, hwho]; rfl
        refine ebind O ?_
        refine ebind r3 ?_
        refine eneg (by simp [q]) ?_
        refine epos rfl ?_
        refine ebind A ?_
        refine epos hok ?_
        refine ebind sI ?_
        exact epos rfl N
      · rw [if_neg q] at O
        refine ebind O ?_
        refine ebind r3 ?_
        refine eneg (by simp [q]) ?_
        exact eneg (by decide) N
    · rw [decide_eq_false c]
      exact eround (fun k => by rw [laws_FnTable.j4]) (eneg (by decide) H)
theorem law_l0 {n : Nat} (n1 : 1 ≤ n) (n6 : n ≤ 6) (t : List Int) {ps : List (List Int)} {cs : List Int} (hs : smallP ps) (hc : cs.length ≤ 1048576) (g : goodTb (n : Int) ps cs = true) (gp : goodP n ps) (who w : Int) (hw : inR 0 255 w = true) (hwho : inR (-1) ((n : Int) - 1) who = true) (H : Ev (fun k => laws_FnTable.j5 k t) true) : ∀ d i : Nat, i + d = n → Ev (fun k => laws_FnTable.l0 k t who w (allR (n : Int) ps cs who w).1 (i : Int) (n : Int) ps cs) true := by
  have he : (allR (n : Int) ps cs who w).1 = allX ps cs who w 0 n := by unfold allR; rw [g, hw, hwho]; simp
  intro d
  induction d with
  | zero =>
    intro i hi
    refine eround (fun k => by rw [laws_FnTable.l0]) (eneg (by omega) ?_)
    exact law_l1 n1 n6 t hs hc g gp who w hw hwho H n 0 (by omega)
  | succ d ih =>
    intro i hi
    have N := ih (i + 1) (by omega)
    have hwr : wrap64 ((i : Int) + 1) = ((i + 1 : Nat) : Int) := wsucc (by omega)
    have hlen := allX_len ps cs who w n 0
    have S := implSA_e (n : Int) ps cs (i : Int) who w hs hc
    have hS : sayR (n : Int) ps cs (i : Int) who w = (sayX ps cs (i : Int) who w, true) := by
      unfold sayR
      rw [g, hw, hwho, inR_iff.2 (show 0 ≤ (i : Int) ∧ (i : Int) ≤ (n : Int) - 1 by omega)]; rfl
    rw [hS] at S
    refine eround (fun k => by rw [laws_FnTable.l0]) (epos (by omega) ?_)
    rw [hwr]
    refine ebind S ?_
    refine epos rfl ?_
    refine epos (by omega) ?_
    refine epos (by rw [he, hlen]; omega) ?_
    refine epos ?_ N
    rw [he, rd_get _ i (by rw [hlen]; omega), allX_get, Nat.zero_add]
theorem FnTable : laws_FnTable.Pure := by
  intro s t _ _ hs _ _ ht
  replace hs := bytes_of hs
  replace ht := bytes_of ht
  apply Ev.rounds
  unfold laws_FnTable.f
  by_cases hb : wrap64 ((s.length : Int) + (t.length : Int)) > 1048576
  · exact epos hb (enow rfl)
  refine eneg hb ?_
  obtain ⟨h, ps, cs, who, w, e1, f1⟩ := drawAS_e s hs
  have p1 : smallP ps := ⟨by have := f1.2.2.1; omega, fun y hy => by have := f1.2.2.2.2 y hy; omega⟩
  have c1 : cs.length ≤ 1048576 := by have := f1.2.2.2.1; omega
  have hj5 : Ev (fun k => laws_FnTable.j5 k t) true := by
    obtain ⟨h, ps, cs, a, b, w, e2, f2⟩ := drawOC_e t ht
    obtain ⟨h', ps', cs', a', b', w', e3, f3⟩ := drawSA_e t ht
    have p2 : smallP ps := ⟨by have := f2.2.2.1; omega, fun y hy => by have := f2.2.2.2.2 y hy; omega⟩
    have c2 : cs.length ≤ 1048576 := by have := f2.2.2.2.1; omega
    have p3 : smallP ps' := ⟨by have := f3.2.2.1; omega, fun y hy => by have := f3.2.2.2.2 y hy; omega⟩
    have c3 : cs'.length ≤ 1048576 := by have := f3.2.2.2.1; omega
    obtain ⟨R, s1, s2, o1, o2⟩ := other_e h ps cs a b w p2 c2
    refine eround (fun k => by rw [laws_FnTable.j5]) ?_
    refine ebind e2 ?_
    refine ebind o1 ?_
    refine ebind o2 ?_
    refine ebind e3 ?_
    refine ebind (implSA_e h' ps' cs' a' b' w' p3 c3) ?_
    refine ebind (specSA_e h' ps' cs' a' b' w' p3 c3) ?_
    refine epos (by simp) ?_
    refine ebind (sameTable_e R.1 R.2.1 R.2.2.1 s1 s2) ?_
    exact epos rfl (epos (by simp) (enow (by simp)))
  have hj0 : Ev (fun k => laws_FnTable.j0 k t who w (allR h ps cs who w).1 (allR h ps cs who w).2 false h ps cs) true := by
    refine eround (fun k => by rw [laws_FnTable.j0]) (eneg (by decide) ?_)
    cases hr : (allR h ps cs who w).2 with
    | false => exact eneg (by decide) hj5
    | true =>
      have hsum := allR_sum p1 hr
      have S := implSum_e (allR h ps cs who w).1 (by have := allR_len h ps cs who w; omega)
      rw [hsum] at S
      have hg : goodTb h ps cs = true ∧ inR (-1) (h - 1) who = true ∧ inR 0 255 w = true := by
        unfold allR at hr
        by_cases c : (goodTb h ps cs && (inR (-1) (h - 1) who && inR 0 255 w)) = true
        · simpa only [Bool.and_eq_true] using c
        · rw [if_neg c] at hr; simp at hr
      obtain ⟨g, hwho, hw⟩ := hg
      obtain ⟨n, rfl, n1, n6, gp⟩ := goodP_of p1 g
      have hlen : ((allR (n : Int) ps cs who w).1.length : Int) = (n : Int) := by
        unfold allR; rw [g, hw, hwho]; simp [allX_len]
      have J : Ev (fun k => laws_FnTable.j1 k t who w (allR (n : Int) ps cs who w).1 (((allR (n : Int) ps cs who w).1.length : Int) != (n : Int)) (n : Int) ps cs) true := by
        rw [hlen]
        refine eround (fun k => by rw [laws_FnTable.j1]) (eneg (by simp) ?_)
        exact law_l0 n1 n6 t p1 c1 g gp who w hw hwho hj5 n 0 (by omega)
      refine epos rfl ?_
      refine ebind S ?_
      refine epos rfl ?_
      by_cases q : who ≥ 0
      · refine epos q ?_
        refine epos (by simp [q]) ?_
        exact eneg (by omega) J
      · refine eneg q ?_
        refine epos (by omega) ?_
        exact epos (by simp [q]) J
  have sI := sameI_e (allR h ps cs who w).1 (allR h ps cs who w).1 (by have := allR_len h ps cs who w; omega)
  rw [decide_eq_true rfl] at sI
  have g1 := implGTb_e h ps cs p1 c1
  have g2 := specGTb_e h ps cs p1 c1
  refine ebind e1 ?_
  refine ebind (implAS_e h ps cs who w p1 c1) ?_
  refine ebind (specAS_e h ps cs who w p1 c1) ?_
  refine eneg (by simp) ?_
  refine ebind sI ?_
  refine epos rfl ?_
  refine ebind g1 ?_
  refine ebind g2 ?_
  rw [show (goodTb h ps cs != goodTb h ps cs) = false by simp]
  exact hj0

end Go.Proofs.Ytpibdgknmjjolaa.Pure
