/- The law FnBoard, told over bytes: PlayBoard and the reference alike at every drawn play, the board good, and never two lists certified in one epoch. No condition. -/
import Derived.Test.YtkgogglnipdcfaaQFnBoardx11
import Derived.Test.YtkgogglnipdcfaaPk
namespace Go.Proofs.Ytkgogglnipdcfaa.Pure
open Go.RowKit Go.Proofs.Ytkgogglnipdcfaa.QFnBoard Go.Proofs.YtkgogglnipdcfaaW.PrintWords Go.Proofs.YtkgogglnipdcfaaW.PrintLast Go.Proofs.YtkgogglnipdcfaaW.PrintMore Go.Proofs.Ytkgogglnipdcfaa
set_option linter.unusedVariables false
set_option linter.unusedSimpArgs false

open Pk
def inR (lo hi x : Int) : Bool := decide (x ≥ lo) && decide (x ≤ hi)
theorem inR_iff {lo hi x : Int} : inR lo hi x = true ↔ lo ≤ x ∧ x ≤ hi := by simp [inR]
theorem l1In_eq (a lo hi : Int) : spec_l1In.f a lo hi = some (inR lo hi a) := by
  unfold spec_l1In.f inR
  by_cases h : a ≥ lo <;> simp [h]
theorem within_eq (a lo hi : Int) : impl_within.f a lo hi = some (inR lo hi a) := by
  unfold impl_within.f inR
  by_cases h : a ≥ lo <;> simp [h]
theorem allWithin_l (xs : List Int) (lo up : Int) (hn : xs.length ≤ 9223372036854775807) : ∀ (d i : Nat), i + d = xs.length → Ev (fun k => impl_allWithin.l0 k lo up xs (xs.length : Int) (i : Int)) ((xs.drop i).all (inR lo up)) := by
  intro d
  induction d with
  | zero =>
    intro i hi
    refine eround (fun k => by rw [impl_allWithin.l0]) ?_
    refine eneg (by omega) (enow ?_)
    rw [List.drop_eq_nil_of_le (by omega)]; rfl
  | succ d ih =>
    intro i hi
    have hlt : i < xs.length := by omega
    refine eround (fun k => by rw [impl_allWithin.l0]) ?_
    refine epos (by omega) (epos (by omega) (epos (by omega) ?_))
    rw [rd_get xs i hlt, List.drop_eq_getElem_cons hlt, List.all_cons]
    refine enb (within_eq _ _ _) ?_
    cases h : inR lo up xs[i] with
    | true =>
      refine epos rfl ?_
      rw [w64 (by omega) (by omega)]
      simpa using ih (i + 1) (by omega)
    | false => exact eneg (by simp) (enow (by simp))
theorem allWithin_e (xs : List Int) (lo up : Int) (hn : xs.length ≤ 9223372036854775807) : Ev (fun k => impl_allWithin.f k xs lo up) (xs.all (inR lo up)) :=
  allWithin_l xs lo up hn xs.length 0 (by omega)
def chainLt : List Int → Bool
  | a :: b :: r => decide (a < b) && chainLt (b :: r)
  | _ => true
theorem chainLt_drop (xs : List Int) (i : Nat) (h : i + 1 < xs.length) : chainLt (xs.drop i) = (decide (xs[i] < xs[i + 1]) && chainLt (xs.drop (i + 1))) := by
  rw [List.drop_eq_getElem_cons (show i < xs.length by omega), List.drop_eq_getElem_cons h]; rfl
theorem chainLt_end (xs : List Int) (i : Nat) (h : xs.length ≤ i + 1) : chainLt (xs.drop i) = true := by
  have : (xs.drop i).length ≤ 1 := by simp; omega
  match hx : xs.drop i, this with
  | [], _ => rfl
  | [_], _ => rfl
  | _ :: _ :: _, h => simp at h
def risB (lo up : Int) (xs : List Int) : Bool := xs.all (inR lo up) && chainLt xs
theorem implRis_l (xs : List Int) (lo up : Int) (hn : xs.length ≤ 9223372036854775807) : ∀ (d i : Nat), i + 1 + d = xs.length → Ev (fun k => impl_isRising.l0 k xs lo up ((i + 1 : Nat) : Int)) (xs.all (inR lo up) && chainLt (xs.drop i)) := by
  intro d
  induction d with
  | zero =>
    intro i hi
    refine eround (fun k => by rw [impl_isRising.l0]) (eneg (by omega) (ebind (allWithin_e xs lo up hn) (enow ?_)))
    rw [chainLt_end xs _ (by omega)]; simp
  | succ d ih =>
    intro i hi
    have e1 : wrap64 (((i + 1 : Nat) : Int) - 1) = (i : Int) := by rw [w64 (by omega) (by omega)]; omega
    have e2 : wrap64 (((i + 1 : Nat) : Int) + 1) = ((i + 1 + 1 : Nat) : Int) := by rw [w64 (by omega) (by omega)]; omega
    refine eround (fun k => by rw [impl_isRising.l0]) (epos (by omega) ?_)
    rw [e1, e2, rd_get xs i (by omega), rd_get xs (i + 1) (by omega), chainLt_drop xs i (by omega)]
    refine epos (by omega) (epos (by omega) (epos (by omega) ?_))
    by_cases h1 : xs[i] ≥ xs[i + 1]
    · exact epos h1 (enow (by simp; omega))
    · refine eneg h1 ?_
      simpa [show xs[i] < xs[i + 1] by omega] using ih (i + 1) (by omega)
theorem implRis_e (xs : List Int) (lo up : Int) (hn : xs.length ≤ 9223372036854775807) : Ev (fun k => impl_isRising.f k xs lo up) (risB lo up xs) := by
  unfold impl_isRising.f risB
  by_cases h : xs.length = 0
  · obtain rfl := List.eq_nil_of_length_eq_zero h
    refine eround (fun k => by rw [impl_isRising.l0]) (eneg (by simp) (ebind (allWithin_e [] lo up (by simp)) (enow (by simp [chainLt]))))
  · simpa using implRis_l xs lo up hn (xs.length - 1) 0 (by omega)
theorem specRis_l (xs : List Int) (lo up : Int) (hn : xs.length ≤ 9223372036854775807) : ∀ (d i : Nat), i + d = xs.length → Ev (fun k => spec_l1Rising.l0 k xs lo up xs (xs.length : Int) (i : Int)) ((xs.drop i).all (inR lo up) && chainLt (xs.drop (i - 1))) := by
  intro d
  induction d with
  | zero =>
    intro i hi
    refine eround (fun k => by rw [spec_l1Rising.l0]) (eneg (by omega) (enow ?_))
    rw [List.drop_eq_nil_of_le (by omega), chainLt_end xs _ (by omega)]; rfl
  | succ d ih =>
    intro i hi
    have hlt : i < xs.length := by omega
    refine eround (fun k => by rw [spec_l1Rising.l0]) (epos (by omega) (epos (by omega) (epos (by omega) ?_)))
    rw [rd_get xs i hlt, List.drop_eq_getElem_cons hlt, w64 (by omega) (by omega), w64 (by omega) (by omega), List.all_cons]
    refine enb (l1In_eq _ _ _) ?_
    cases e : inR lo up xs[i] with
    | false => exact eneg (by decide) (enow (by simp))
    | true =>
      refine epos rfl ?_
      have hI := ih (i + 1) (by omega)
      by_cases h0 : i = 0
      · subst h0
        refine eneg (by simp) ?_
        simpa [List.drop_one] using hI
      · obtain ⟨j, rfl⟩ : ∃ j, i = j + 1 := ⟨i - 1, by omega⟩
        refine epos (by omega) (epos (by omega) (epos (by omega) ?_))
        rw [show ((j + 1 : Nat) : Int) - 1 = (j : Int) by omega, rd_get xs j (by omega), show j + 1 - 1 = j by omega, chainLt_drop xs j (by omega)]
        simp only [Nat.add_sub_cancel] at hI
        by_cases h1 : xs[j] ≥ xs[j + 1]
        · exact epos h1 (enow (by simp; omega))
        · refine eneg h1 ?_
          simpa [show xs[j] < xs[j + 1] by omega] using hI
theorem specRis_e (xs : List Int) (lo up : Int) (hn : xs.length ≤ 9223372036854775807) : Ev (fun k => spec_l1Rising.f k xs lo up) (risB lo up xs) := by
  unfold spec_l1Rising.f
  simpa [risB] using specRis_l xs lo up hn xs.length 0 (by omega)
def goodNB (a : Int) (l : List Int) : Bool := inR 0 2 a && (risB 0 (3 * a) l && !decide ((l.length : Int) > a))
def newBR (a : Int) (l : List Int) : Int × Int × List (List Int) × List Int × List Int × Bool := if goodNB a l then (a, 0, [], l, [], true) else (0, 0, [], [], [], false)
theorem specGB0_e (a : Int) (l : List Int) (hn : l.length ≤ 1048576) : Ev (fun k => spec_GoodBoard.f k a 0 [] l []) (goodNB a l) := by
  unfold spec_GoodBoard.f goodNB
  have hj : ∀ m, Ev (fun k => spec_GoodBoard.j0 k m true a 0 [] l []) false := fun m => eround (fun k => by rw [spec_GoodBoard.j0]) (epos rfl (enow rfl))
  cases e : inR 0 2 a with
  | false =>
    refine enb (a := (0, 0, false)) (by unfold spec_QuorumFor.f; rw [l1In_eq, e]; rfl) (eneg (by decide) ?_)
    exact hj _
  | true =>
    have ha := inR_iff.1 e
    refine enb (a := (3 * a + 1, 2 * a + 1, true)) (by unfold spec_QuorumFor.f; rw [l1In_eq, e, w64 (x := 3 * a) (by omega) (by omega), w64 (x := 2 * a) (by omega) (by omega), w64 (x := 3 * a + 1) (by omega) (by omega), w64 (x := 2 * a + 1) (by omega) (by omega)]; rfl) (epos rfl ?_)
    dsimp only
    rw [w64 (by omega) (by omega), show 3 * a + 1 - 1 = 3 * a by omega]
    refine ebind (specRis_e l 0 (3 * a) (by omega)) ?_
    cases e2 : risB 0 (3 * a) l with
    | false => exact eneg (by decide) (hj _)
    | true =>
      refine epos rfl ?_
      by_cases h : (l.length : Int) > a
      · refine epos h ?_
        simpa [h] using hj (3 * a + 1)
      · refine eneg h (enb (l1In_eq _ _ _) (epos (by decide) (ebind (specRis_e [] 0 9 (by simp)) (epos (by decide) ?_))))
        refine eround (fun k => by rw [spec_GoodBoard.j0]) (eneg (by simp) (eround (fun k => by rw [spec_GoodBoard.l0]) (eneg (by simp) (enow ?_))))
        simp; omega
theorem implGB0_e (a : Int) (l : List Int) (hn : l.length ≤ 1048576) : Ev (fun k => impl_GoodBoard.f k a 0 [] l []) (goodNB a l) := by
  unfold impl_GoodBoard.f goodNB
  have hj : Ev (fun k => impl_GoodBoard.j0 k true a 0 [] l []) false := eround (fun k => by rw [impl_GoodBoard.j0]) (epos rfl (enow rfl))
  refine enb (a := inR 0 2 a) (by unfold impl_areFaults.f; rw [within_eq]; rfl) ?_
  cases e : inR 0 2 a with
  | false => exact eneg (by decide) hj
  | true =>
    have ha := inR_iff.1 e
    refine epos rfl (enb (within_eq _ _ _) (epos (by decide) ?_))
    by_cases h : (l.length : Int) > a
    · refine epos h ?_
      simpa [h] using hj
    · refine eneg h ?_
      rw [w64 (by omega) (by omega)]
      refine ebind (implRis_e l 0 (3 * a) (by omega)) ?_
      cases e2 : risB 0 (3 * a) l with
      | false => exact eneg (by decide) hj
      | true =>
        refine epos rfl (ebind (implRis_e [] 0 9 (by simp)) (epos (by decide) ?_))
        refine eround (fun k => by rw [impl_GoodBoard.j0]) (eneg (by simp) (eround (fun k => by rw [impl_GoodBoard.l0]) (eneg (by simp) (enow ?_))))
        simp; omega
theorem specNB_e (a : Int) (l : List Int) (hn : l.length ≤ 1048576) : Ev (fun k => spec_NewBoard.f k a l) (newBR a l) := by
  unfold spec_NewBoard.f newBR
  refine enb rfl (epos (by simp; omega) (enb rfl ?_))
  refine ebind (specGB0_e a ([] ++ l) (by simpa using hn)) ?_
  rw [List.nil_append]
  cases goodNB a l with
  | false => exact eneg (by decide) (enow rfl)
  | true => exact epos rfl (enow rfl)
theorem implNB_e (a : Int) (l : List Int) (hn : l.length ≤ 1048576) : Ev (fun k => impl_NewBoard.f k a l) (newBR a l) := by
  unfold impl_NewBoard.f newBR
  refine enb (a := l) (by unfold slices_Clone_int_int.f; simp; omega) ?_
  refine ebind (implGB0_e a l hn) ?_
  cases goodNB a l with
  | false => exact eneg (by decide) (enow rfl)
  | true => exact epos rfl (enow rfl)
theorem newBR_small (a : Int) (l : List Int) (hn : l.length ≤ 1048576) : ((newBR a l).2.2.1.length ≤ 1048576 ∧ ∀ y ∈ (newBR a l).2.2.1, y.length ≤ 1048576) ∧ (newBR a l).2.2.2.1.length ≤ 1048576 ∧ (newBR a l).2.2.2.2.1.length ≤ 1048576 := by
  unfold newBR
  split <;> simp [hn]
theorem l1Has_l (xs : List Int) (a : Int) (hn : xs.length ≤ 9223372036854775807) : ∀ (d i : Nat), i + d = xs.length → Ev (fun k => spec_l1Has.l0 k a xs (xs.length : Int) (i : Int)) (decide (a ∈ xs.drop i)) := by
  intro d
  induction d with
  | zero =>
    intro i hi
    refine eround (fun k => by rw [spec_l1Has.l0]) (eneg (by omega) (enow ?_))
    rw [List.drop_eq_nil_of_le (by omega)]; simp
  | succ d ih =>
    intro i hi
    have hlt : i < xs.length := by omega
    refine eround (fun k => by rw [spec_l1Has.l0]) (epos (by omega) (epos (by omega) (epos (by omega) ?_)))
    rw [rd_get xs i hlt, List.drop_eq_getElem_cons hlt]
    by_cases e : xs[i] = a
    · exact epos e (enow (by simp [e]))
    · refine eneg e ?_
      rw [w64 (by omega) (by omega)]
      have : decide (a ∈ xs[i] :: List.drop (i + 1) xs) = decide (a ∈ List.drop (i + 1) xs) := by
        apply decide_eq_decide.2
        rw [List.mem_cons]
        exact ⟨fun h => h.resolve_left (fun z => e z.symm), Or.inr⟩
      rw [this]
      exact ih (i + 1) (by omega)
theorem l1Has_e (xs : List Int) (a : Int) (hn : xs.length ≤ 9223372036854775807) : Ev (fun k => spec_l1Has.f k xs a) (decide (a ∈ xs)) := l1Has_l xs a hn xs.length 0 (by omega)
theorem ixI_l (xs : List Int) (a : Int) (hn : xs.length ≤ 9223372036854775807) : ∀ (d i : Nat), i + d = xs.length → ∃ r : Int, Ev (fun k => slices_Index_int_int.l0 k xs a (xs.length : Int) (i : Int)) r ∧ (r ≥ 0 ↔ a ∈ xs.drop i) := by
  intro d
  induction d with
  | zero =>
    intro i hi
    refine ⟨-1, eround (fun k => by rw [slices_Index_int_int.l0]) (eneg (by omega) (enow rfl)), ?_⟩
    rw [List.drop_eq_nil_of_le (by omega)]; simp
  | succ d ih =>
    intro i hi
    have hlt : i < xs.length := by omega
    obtain ⟨r, h1, h3⟩ := ih (i + 1) (by omega)
    rw [List.drop_eq_getElem_cons hlt, List.mem_cons]
    by_cases e : a = xs[i]
    · refine ⟨(i : Int), eround (fun k => by rw [slices_Index_int_int.l0]) (epos (by omega) (epos (by omega) (epos (by omega) ?_))), by simp [e]⟩
      rw [rd_get xs i hlt]
      exact epos e (enow rfl)
    · refine ⟨r, eround (fun k => by rw [slices_Index_int_int.l0]) (epos (by omega) (epos (by omega) (epos (by omega) ?_))), by simp only [e, false_or]; exact h3⟩
      rw [rd_get xs i hlt]
      refine eneg e ?_
      rw [w64 (by omega) (by omega)]
      exact h1
theorem coI_e (xs : List Int) (a : Int) (hn : xs.length ≤ 9223372036854775807) : Ev (fun k => slices_Contains_int_int.f k xs a) (decide (a ∈ xs)) := by
  obtain ⟨r, h1, h3⟩ := ixI_l xs a hn xs.length 0 (by omega)
  refine ebind (f := fun _ t => some (decide (t ≥ 0))) h1 (enow ?_)
  rw [List.drop_zero] at h3
  exact decide_eq_decide.2 h3
theorem cut_while {α : Type} (p : α → Bool) : ∀ (l : List α) (t : Nat), t ≤ l.length → (∀ q (h : q < l.length), q < t → p l[q] = true) → (∀ q (h : q < l.length), t ≤ q → p l[q] = false) → l.take t = l.takeWhile p ∧ l.drop t = l.dropWhile p
  | [], t, _, _, _ => by simp
  | y :: r, 0, _, _, h2 => by
    have := h2 0 (by simp) (Nat.le_refl _)
    simp at this
    simp [this]
  | y :: r, t + 1, ht, h1, h2 => by
    have h0 := h1 0 (by simp) (by omega)
    simp at h0
    obtain ⟨e1, e2⟩ := cut_while p r t (by simpa using ht) (fun q hq hl => by have h := h1 (q + 1) (by simpa using hq) (by omega); rw [List.getElem_cons_succ] at h; exact h) (fun q hq hl => by have h := h2 (q + 1) (by simpa using hq) (by omega); rw [List.getElem_cons_succ] at h; exact h)
    simp [h0, e1, e2]
theorem bsI_l (xs : List Int) (a : Int) (p : Int → Bool) (hp : ∀ y, cmp_Less_int.f y a = some (p y)) (hn : xs.length ≤ 4194304) (mono : ∀ q r (hr : r < xs.length) (hq : q ≤ r), p xs[r] = true → p xs[q] = true) : ∀ (d i j : Nat), j - i ≤ d → i ≤ j → j ≤ xs.length → (∀ q (h : q < xs.length), q < i → p xs[q] = true) → (∀ q (h : q < xs.length), j ≤ q → p xs[q] = false) →
    ∃ (t : Nat) (b : Bool), t ≤ xs.length ∧ Ev (fun k => slices_BinarySearch_int_int.l0 k xs a (xs.length : Int) (i : Int) (j : Int)) ((t : Int), b) ∧ (∀ q (h : q < xs.length), q < t → p xs[q] = true) ∧ (∀ q (h : q < xs.length), t ≤ q → p xs[q] = false) := by
  intro d
  induction d with
  | zero =>
    intro i j hd hij hj h1 h2
    have e : i = j := by omega
    subst e
    by_cases hi : i < xs.length
    · by_cases c : (fun u v : Int => u = v) (rd xs (i : Int)) a
      · exact ⟨i, true, hj, eround (fun k => by rw [slices_BinarySearch_int_int.l0]) (eneg (by omega) (epos (by omega) (epos (by omega) (epos (by omega) (epos c (enow rfl)))))), h1, h2⟩
      · refine ⟨i, false, hj, eround (fun k => by rw [slices_BinarySearch_int_int.l0]) (eneg (by omega) (epos (by omega) (epos (by omega) (epos (by omega) (eneg c (enb (a := false) (by unfold slices_isNaN_int.f; simp) (eneg Bool.false_ne_true (enow rfl)))))))), h1, h2⟩
    · exact ⟨i, false, hj, eround (fun k => by rw [slices_BinarySearch_int_int.l0]) (eneg (by omega) (eneg (by omega) (enow rfl))), h1, h2⟩
  | succ d ih =>
    intro i j hd hij hj h1 h2
    by_cases c : i < j
    · have hm : wrap64 (IntKind.u64.wrap (wrap64 ((i : Int) + (j : Int))) / 2) = (((i + j) / 2 : Nat) : Int) := by
        rw [w64 (x := (i : Int) + j) (by omega) (by omega), u64_wrap_small ((i : Int) + j) (by omega) (by omega), w64 (by omega) (by omega)]
        omega
      have hlt : (i + j) / 2 < xs.length := by omega
      have hr : rd xs (((i + j) / 2 : Nat) : Int) = xs[(i + j) / 2] := (rd_get xs _ hlt)
      cases hb : p xs[(i + j) / 2] with
      | true =>
        obtain ⟨t, b, t1, t2, t3, t4⟩ := ih ((i + j) / 2 + 1) j (by omega) (by omega) hj (fun q hq hl => mono q _ hlt (by omega) hb) h2
        refine ⟨t, b, t1, eround (fun k => by rw [slices_BinarySearch_int_int.l0]) (epos (by omega) ?_), t3, t4⟩
        rw [hm, hr]
        refine epos (by omega) (epos (by omega) (enb (hp _) ?_))
        refine epos hb ?_
        rw [w64 (by omega) (by omega)]
        exact t2
      | false =>
        obtain ⟨t, b, t1, t2, t3, t4⟩ := ih i ((i + j) / 2) (by omega) (by omega) (by omega) h1 (fun q hq hl => by
          rw [Bool.eq_false_iff]
          intro z
          rw [mono _ q hq hl z] at hb
          cases hb)
        refine ⟨t, b, t1, eround (fun k => by rw [slices_BinarySearch_int_int.l0]) (epos (by omega) ?_), t3, t4⟩
        rw [hm, hr]
        refine epos (by omega) (epos (by omega) (enb (hp _) ?_))
        exact eneg (by rw [hb]; decide) t2
    · exact by
        have e : i = j := by omega
        subst e
        by_cases hi : i < xs.length
        · by_cases c : (fun u v : Int => u = v) (rd xs (i : Int)) a
          · exact ⟨i, true, hj, eround (fun k => by rw [slices_BinarySearch_int_int.l0]) (eneg (by omega) (epos (by omega) (epos (by omega) (epos (by omega) (epos c (enow rfl)))))), h1, h2⟩
          · refine ⟨i, false, hj, eround (fun k => by rw [slices_BinarySearch_int_int.l0]) (eneg (by omega) (epos (by omega) (epos (by omega) (epos (by omega) (eneg c (enb (a := false) (by unfold slices_isNaN_int.f; simp) (eneg Bool.false_ne_true (enow rfl)))))))), h1, h2⟩
        · exact ⟨i, false, hj, eround (fun k => by rw [slices_BinarySearch_int_int.l0]) (eneg (by omega) (eneg (by omega) (enow rfl))), h1, h2⟩
theorem bsI_e (xs : List Int) (a : Int) (p : Int → Bool) (hp : ∀ y, cmp_Less_int.f y a = some (p y)) (hn : xs.length ≤ 4194304) (mono : ∀ q r (hr : r < xs.length) (hq : q ≤ r), p xs[r] = true → p xs[q] = true) :
    Ev (fun k => impl_placed_int.f k xs a) (xs.takeWhile p ++ a :: xs.dropWhile p) := by
  obtain ⟨t, b, t1, t2, t3, t4⟩ := bsI_l xs a p hp hn mono xs.length 0 xs.length (by omega) (by omega) (Nat.le_refl _) (fun q h hl => by omega) (fun q h hl => by omega)
  obtain ⟨e1, e2⟩ := cut_while p xs t t1 t3 t4
  unfold impl_placed_int.f slices_BinarySearch_int_int.f
  refine ebind t2 ?_
  refine enb (a := xs) (by unfold slices_Clone_int_int.f; simp; omega) ?_
  refine epos (by omega) (epos (by omega) (epos (by omega) (enow ?_)))
  rw [Int.toNat_natCast, e1, e2]
theorem less_I (a b : Int) : cmp_Less_int.f a b = some (decide (a < b)) := by
  unfold cmp_Less_int.f cmp_isNaN_int.f
  simp
theorem chainLt_pair : ∀ l : List Int, chainLt l = true → l.Pairwise (fun a b => a < b)
  | [], _ => List.Pairwise.nil
  | [_], _ => List.pairwise_singleton _ _
  | a :: b :: r, h => by
    simp only [chainLt, Bool.and_eq_true, decide_eq_true_eq] at h
    have ih := chainLt_pair (b :: r) h.2
    refine List.Pairwise.cons (fun c hc => ?_) ih
    rcases List.mem_cons.1 hc with rfl | hc
    · exact h.1
    · have := (List.pairwise_cons.1 ih).1 c hc
      omega
def placeI (x : Int) (l : List Int) : List Int := l.takeWhile (fun y => decide (y < x)) ++ x :: l.dropWhile (fun y => decide (y < x))
theorem placeI_len (x : Int) (l : List Int) : (placeI x l).length = l.length + 1 := by
  unfold placeI
  have := congrArg List.length (List.takeWhile_append_dropWhile (p := fun y => decide (y < x)) (l := l))
  simp only [List.length_append, List.length_cons] at this ⊢
  omega
theorem placedI_e (xs : List Int) (x : Int) (hn : xs.length ≤ 4194304) (hc : chainLt xs = true) : Ev (fun k => impl_placed_int.f k xs x) (placeI x xs) := by
  have hp := chainLt_pair xs hc
  exact bsI_e xs x (fun y => decide (y < x)) (fun y => less_I y x) hn (fun q r hr hq h => by
    rcases Nat.lt_or_eq_of_le hq with hq | rfl
    · have h2 := List.pairwise_iff_getElem.1 hp q r (by omega) hr hq
      have h3 : xs[r] < x := by simpa using h
      exact decide_eq_true (by omega)
    · exact h)
def putI (x : Int) : List Int → List Int
  | [] => [x]
  | y :: r => if y < x then y :: putI x r else if y = x then y :: r else x :: y :: r
theorem putI_new (x : Int) : ∀ l : List Int, x ∉ l → putI x l = placeI x l
  | [], _ => rfl
  | y :: r, h => by
    have ih := putI_new x r (fun z => h (by simp [z]))
    have hne : ¬ y = x := fun z => h (by simp [z])
    unfold putI
    by_cases c : y < x
    · rw [if_pos c, ih]
      simp [placeI, c]
    · rw [if_neg c, if_neg hne]
      simp [placeI, c]
theorem put_l (xs : List Int) (x : Int) (hn : xs.length ≤ 1048576) : ∀ (d i : Nat), i + d = xs.length → Ev (fun k => spec_l1Put.l0 k xs x (i : Int)) (xs.take i ++ putI x (xs.drop i)) := by
  intro d
  induction d with
  | zero =>
    intro i hi
    have e1 : xs.take i = xs := List.take_of_length_le (by omega)
    have e2 : xs.drop i = [] := List.drop_eq_nil_of_le (by omega)
    refine eround (fun k => by rw [spec_l1Put.l0]) ?_
    refine eneg (by omega) (enb rfl (epos (by omega) (epos (by omega) (enb rfl ?_))))
    rw [Int.toNat_natCast, e1, e2]
    refine epos (by simp; omega) (enb rfl (epos (by simp; omega) (enb rfl (enb rfl (epos (by simp; omega) (enow ?_))))))
    simp [putI]
  | succ d ih =>
    intro i hi
    have hlt : i < xs.length := by omega
    refine eround (fun k => by rw [spec_l1Put.l0]) ?_
    refine epos (by omega) (epos (by omega) ?_)
    rw [rd_get xs i hlt]
    have e3 : xs.drop i = xs[i] :: xs.drop (i + 1) := List.drop_eq_getElem_cons hlt
    by_cases c : xs[i] < x
    · refine epos c ?_
      rw [w64 (by omega) (by omega), e3, putI, if_pos c, show (i : Int) + 1 = ((i + 1 : Nat) : Int) by omega]
      have := ih (i + 1) (by omega)
      rw [List.take_succ_eq_append_getElem hlt, List.append_assoc] at this
      exact this
    · refine eneg c ?_
      by_cases c2 : xs[i] = x
      · refine epos c2 (enow ?_)
        rw [e3, putI, if_neg c, if_pos c2, ← e3, List.take_append_drop]
      · refine eneg c2 (enb rfl (epos (by omega) (enb rfl ?_)))
        rw [Int.toNat_natCast]
        refine epos (by simp; omega) (enb rfl (epos (by simp; omega) (enb rfl (enb rfl (epos (by simp; omega) (enow ?_))))))
        rw [e3, putI, if_neg c, if_neg c2, ← e3]
        simp
theorem put_e (xs : List Int) (x : Int) (hn : xs.length ≤ 1048576) : Ev (fun k => spec_l1Put.f k xs x) (putI x xs) := by
  have := put_l xs x hn xs.length 0 (by omega)
  rw [List.take_zero, List.nil_append, List.drop_zero] at this
  exact this
/-! the board as triples -/
abbrev Tri := Int × Int × Int
def tri (t : Tri) : List Int := [t.1, t.2.1, t.2.2]
def has3 (T : List Tri) (e b c : Int) : Bool := T.any fun t => decide (t.1 = e) && (decide (t.2.1 = b) && decide (t.2.2 = c))
def has2 (T : List Tri) (e b : Int) : Bool := T.any fun t => decide (t.1 = e) && decide (t.2.1 = b)
theorem rdT (T : List Tri) (i : Nat) (h : i < T.length) : rd_L3 (T.map tri) (i : Int) = tri T[i] := by
  have := getD_get (T.map tri) i ([] : List Int) (by simpa using h)
  rw [List.getElem_map] at this
  exact this
theorem tri0 (t : Tri) : rd (tri t) 0 = t.1 := rfl
theorem tri1 (t : Tri) : rd (tri t) 1 = t.2.1 := rfl
theorem tri2 (t : Tri) : rd (tri t) 2 = t.2.2 := rfl
theorem hs1_e (t : Tri) (e b c : Int) : impl_Board_hasSigned_1.f (tri t) e b c = some (decide (t.1 = e) && (decide (t.2.1 = b) && decide (t.2.2 = c))) := by
  unfold impl_Board_hasSigned_1.f
  rw [if_pos (by simp [tri]), tri0, tri1, tri2]
  by_cases h1 : t.1 = e
  · rw [if_pos h1, if_pos (by simp [tri])]
    by_cases h2 : t.2.1 = b
    · rw [if_pos h2, if_pos (by simp [tri])]
      by_cases h3 : t.2.2 = c <;> simp [h1, h2, h3]
    · rw [if_neg h2]
      simp [h1, h2]
  · rw [if_neg h1]
    simp [h1]
theorem bat_e (t : Tri) (e b : Int) : bd_at.f (tri t) e b = some (decide (t.1 = e) && decide (t.2.1 = b)) := by
  unfold bd_at.f
  rw [if_pos (by simp [tri]), tri0, tri1]
  by_cases h1 : t.1 = e
  · rw [if_pos h1, if_pos (by simp [tri])]
    by_cases h2 : t.2.1 = b <;> simp [h1, h2]
  · rw [if_neg h1]
    simp [h1]
theorem hsx_l (T : List Tri) (e b c : Int) (hn : T.length ≤ 1000000) : ∀ (d i : Nat), i + d = T.length → ∃ r : Int, Ev (fun k => slices_IndexFunc_240_at_239_3_3_3.l0 k (T.map tri) (T.length : Int) (i : Int) e b c) r ∧ (decide (r ≥ 0)) = has3 (T.drop i) e b c := by
  intro d
  induction d with
  | zero =>
    intro i hi
    refine ⟨-1, eround (fun k => by rw [slices_IndexFunc_240_at_239_3_3_3.l0]) (eneg (by omega) (enow rfl)), ?_⟩
    rw [List.drop_eq_nil_of_le (by omega)]
    rfl
  | succ d ih =>
    intro i hi
    have hlt : i < T.length := by omega
    obtain ⟨r, h1, h3⟩ := ih (i + 1) (by omega)
    have hc : has3 (T.drop i) e b c = ((decide (T[i].1 = e) && (decide (T[i].2.1 = b) && decide (T[i].2.2 = c))) || has3 (T.drop (i + 1)) e b c) := by
      rw [List.drop_eq_getElem_cons hlt]
      rfl
    cases hx : (decide (T[i].1 = e) && (decide (T[i].2.1 = b) && decide (T[i].2.2 = c))) with
    | true =>
      refine ⟨(i : Int), eround (fun k => by rw [slices_IndexFunc_240_at_239_3_3_3.l0]) (epos (by omega) (epos (by omega) (epos (by simp; omega) ?_))), ?_⟩
      · rw [rdT T i hlt]
        exact enb (hs1_e _ _ _ _) (epos hx (enow rfl))
      · rw [hc, hx]
        simp
    | false =>
      refine ⟨r, eround (fun k => by rw [slices_IndexFunc_240_at_239_3_3_3.l0]) (epos (by omega) (epos (by omega) (epos (by simp; omega) ?_))), ?_⟩
      · rw [rdT T i hlt]
        refine enb (hs1_e _ _ _ _) (eneg (by simp [hx]) ?_)
        rw [w64 (by omega) (by omega)]
        exact h1
      · rw [hc, hx, Bool.false_or]
        exact h3
theorem hasSigned_e (T : List Tri) (f0 f1 : Int) (l3 l4 : List Int) (e b c : Int) (hn : T.length ≤ 1000000) : Ev (fun k => impl_Board_hasSigned.f k f0 f1 (T.map tri) l3 l4 e b c) (has3 T e b c) := by
  obtain ⟨r, h1, h2⟩ := hsx_l T e b c hn T.length 0 (by omega)
  unfold impl_Board_hasSigned.f slices_ContainsFunc_226_at_239_3_3_3.f slices_IndexFunc_240_at_239_3_3_3.f
  rw [List.length_map]
  exact ebind (ebind (f := fun _ t => some (decide (t ≥ 0))) h1 (enow h2)) (enow rfl)
theorem bix_l (T : List Tri) (e b : Int) (hn : T.length ≤ 1000000) : ∀ (d i : Nat), i + d = T.length → ∃ r : Int, Ev (fun k => bd_ix.l0 k (T.map tri) (T.length : Int) (i : Int) e b) r ∧ (decide (r ≥ 0)) = has2 (T.drop i) e b := by
  intro d
  induction d with
  | zero =>
    intro i hi
    refine ⟨-1, eround (fun k => by rw [bd_ix.l0]) (eneg (by omega) (enow rfl)), ?_⟩
    rw [List.drop_eq_nil_of_le (by omega)]
    rfl
  | succ d ih =>
    intro i hi
    have hlt : i < T.length := by omega
    obtain ⟨r, h1, h3⟩ := ih (i + 1) (by omega)
    have hc : has2 (T.drop i) e b = ((decide (T[i].1 = e) && decide (T[i].2.1 = b)) || has2 (T.drop (i + 1)) e b) := by
      rw [List.drop_eq_getElem_cons hlt]
      rfl
    cases hx : (decide (T[i].1 = e) && decide (T[i].2.1 = b)) with
    | true =>
      refine ⟨(i : Int), eround (fun k => by rw [bd_ix.l0]) (epos (by omega) (epos (by omega) (epos (by simp; omega) ?_))), ?_⟩
      · rw [rdT T i hlt]
        exact enb (bat_e _ _ _) (epos hx (enow rfl))
      · rw [hc, hx]
        simp
    | false =>
      refine ⟨r, eround (fun k => by rw [bd_ix.l0]) (epos (by omega) (epos (by omega) (epos (by simp; omega) ?_))), ?_⟩
      · rw [rdT T i hlt]
        refine enb (bat_e _ _ _) (eneg (by simp [hx]) ?_)
        rw [w64 (by omega) (by omega)]
        exact h1
      · rw [hc, hx, Bool.false_or]
        exact h3
theorem bdAny_e (T : List Tri) (e b : Int) (hn : T.length ≤ 1000000) : Ev (fun k => bd_any.f k (T.map tri) e b) (has2 T e b) := by
  obtain ⟨r, h1, h2⟩ := bix_l T e b hn T.length 0 (by omega)
  unfold bd_any.f
  rw [List.length_map]
  exact ebind (f := fun _ t => some (decide (t ≥ 0))) h1 (enow h2)
theorem l13Has_l (T : List Tri) (e b c : Int) (hn : T.length ≤ 1000000) : ∀ (d i : Nat), i + d = T.length → Ev (fun k => spec_l13Has.l0 k e b c (T.map tri) (T.length : Int) (i : Int)) (if c < 0 then has2 (T.drop i) e b else has3 (T.drop i) e b c) := by
  intro d
  induction d with
  | zero =>
    intro i hi
    refine eround (fun k => by rw [spec_l13Has.l0]) (eneg (by omega) (enow ?_))
    rw [List.drop_eq_nil_of_le (by omega)]
    simp [has2, has3]
  | succ d ih =>
    intro i hi
    have hlt : i < T.length := by omega
    have h2 : has2 (T.drop i) e b = ((decide (T[i].1 = e) && decide (T[i].2.1 = b)) || has2 (T.drop (i + 1)) e b) := by
      rw [List.drop_eq_getElem_cons hlt]
      rfl
    have h3 : has3 (T.drop i) e b c = ((decide (T[i].1 = e) && (decide (T[i].2.1 = b) && decide (T[i].2.2 = c))) || has3 (T.drop (i + 1)) e b c) := by
      rw [List.drop_eq_getElem_cons hlt]
      rfl
    have hI := ih (i + 1) (by omega)
    refine eround (fun k => by rw [spec_l13Has.l0]) (epos (by omega) (epos (by omega) (epos (by simp; omega) ?_)))
    rw [rdT T i hlt, h2, h3, w64 (by omega) (by omega), tri0, tri1, tri2]
    refine epos (by simp [tri]) ?_
    by_cases c1 : T[i].1 = e
    · refine epos c1 (epos (by simp [tri]) ?_)
      by_cases c2 : T[i].2.1 = b
      · refine epos c2 ?_
        by_cases c3 : c < 0
        · exact epos c3 (enow (by simp [c1, c2, c3]))
        · refine eneg c3 (epos (by simp [tri]) ?_)
          by_cases c4 : T[i].2.2 = c
          · exact epos c4 (enow (by simp [c1, c2, c3, c4]))
          · refine eneg c4 ?_
            simpa [c1, c2, c3, c4] using hI
      · refine eneg c2 ?_
        simpa [c1, c2] using hI
    · refine eneg c1 ?_
      simpa [c1] using hI
theorem l13Has_e (T : List Tri) (f0 f1 : Int) (l3 l4 : List Int) (e b c : Int) (hn : T.length ≤ 1000000) : Ev (fun k => spec_l13Has.f k f0 f1 (T.map tri) l3 l4 e b c) (if c < 0 then has2 T e b else has3 T e b c) := by
  unfold spec_l13Has.f
  rw [List.length_map]
  exact l13Has_l T e b c hn T.length 0 (by omega)
theorem own_l (T : List Tri) (e f : Int) (X Y : List Int) (hn : T.length ≤ 1000000) : ∀ (d i : Nat) (acc : List (List Int)), i + d = T.length → acc.length = i → Ev (fun k => spec_l13Own.l0 k X Y (T.map tri) (T.length : Int) (i : Int) e f acc) (e, f, acc ++ (T.drop i).map tri, X, Y) := by
  intro d
  induction d with
  | zero =>
    intro i acc hi ha
    refine eround (fun k => by rw [spec_l13Own.l0]) (eneg (by omega) (enow ?_))
    rw [List.drop_eq_nil_of_le (by omega)]
    simp
  | succ d ih =>
    intro i acc hi ha
    have hlt : i < T.length := by omega
    refine eround (fun k => by rw [spec_l13Own.l0]) (epos (by omega) (epos (by omega) (epos (by simp; omega) (enb rfl ?_))))
    rw [rdT T i hlt, w64 (by omega) (by omega)]
    refine epos (by simp [tri]) (epos (by omega) ?_)
    have := ih (i + 1) (acc ++ [tri T[i]]) (by omega) (by simp [ha])
    rw [List.drop_eq_getElem_cons hlt, List.map_cons]
    simpa using this
theorem own_e (T : List Tri) (f e : Int) (X Y : List Int) (hn : T.length ≤ 1000000) (hX : X.length ≤ 1048576) (hY : Y.length ≤ 1048576) : Ev (fun k => spec_l13Own.f k f e (T.map tri) X Y) (f, e, T.map tri, X, Y) := by
  unfold spec_l13Own.f
  refine enb rfl (epos (by simp; omega) (enb rfl (epos (by simp; omega) ?_)))
  rw [List.length_map]
  simpa using own_l T f e X Y hn T.length 0 [] (by omega) rfl
/-! a step -/
def stepT (f0 e : Int) (T : List Tri) (L3 L4 : List Int) (a b c : Int) : Int × List Tri × List Int × Bool :=
  if a = 1 then (if b = 0 ∧ inR 0 9 c = true ∧ c ∉ L4 then (e, T, putI c L4, true) else (e, T, L4, false))
  else if a = 2 then (if inR 0 (3 * f0) b = true ∧ c ∈ L4 ∧ T.length < 200 ∧ has3 T e b c = false ∧ (b ∈ L3 ∨ has2 T e b = false) then (e, T ++ [(e, b, c)], L4, true) else (e, T, L4, false))
  else if a = 3 ∧ b = 0 ∧ c = 0 ∧ e < 20 then (e + 1, T, [], true) else (e, T, L4, false)
theorem stepT_no (f0 e : Int) (T : List Tri) (L3 L4 : List Int) (a b c : Int) (h : (stepT f0 e T L3 L4 a b c).2.2.2 = false) : stepT f0 e T L3 L4 a b c = (e, T, L4, false) := by
  unfold stepT at h ⊢
  split
  · split <;> simp_all
  · split
    · split <;> simp_all
    · split <;> simp_all
structure InvB (f0 e : Int) (T : List Tri) (L3 L4 : List Int) : Prop where
  f : inR 0 2 f0 = true
  e0 : 0 ≤ e
  e1 : e ≤ 20
  n3 : (L3.length : Int) ≤ f0
  r3 : risB 0 (3 * f0) L3 = true
  c4 : chainLt L4 = true
  r4 : ∀ x ∈ L4, 0 ≤ x ∧ x ≤ 9
  n : T.length ≤ 200
  t : ∀ t ∈ T, (0 ≤ t.1 ∧ t.1 ≤ e) ∧ (0 ≤ t.2.1 ∧ t.2.1 ≤ 3 * f0) ∧ (0 ≤ t.2.2 ∧ t.2.2 ≤ 9)
  p : T.Pairwise fun s t => s.1 ≤ t.1 ∧ (s.1 = t.1 → s.2.1 = t.2.1 → s.2.2 ≠ t.2.2 ∧ t.2.1 ∈ L3)
theorem putI_mem (x : Int) : ∀ (l : List Int) (y : Int), y ∈ putI x l → y = x ∨ y ∈ l
  | [], y, h => by simp [putI] at h; exact Or.inl h
  | z :: r, y, h => by
    unfold putI at h
    split at h
    · rcases List.mem_cons.1 h with h | h
      · exact Or.inr (by simp [h])
      · rcases putI_mem x r y h with h | h
        · exact Or.inl h
        · exact Or.inr (by simp [h])
    · split at h
      · exact Or.inr h
      · rcases List.mem_cons.1 h with h | h
        · exact Or.inl h
        · exact Or.inr h
theorem pair_chain : ∀ l : List Int, l.Pairwise (fun a b => a < b) → chainLt l = true
  | [], _ => rfl
  | [_], _ => rfl
  | a :: b :: r, h => by
    have h1 := List.pairwise_cons.1 h
    simp only [chainLt, Bool.and_eq_true, decide_eq_true_eq]
    exact ⟨h1.1 b (by simp), pair_chain (b :: r) h1.2⟩
theorem putI_pair (x : Int) : ∀ l : List Int, l.Pairwise (fun a b => a < b) → (putI x l).Pairwise (fun a b => a < b)
  | [], _ => List.pairwise_singleton _ _
  | y :: r, h => by
    have h1 := List.pairwise_cons.1 h
    unfold putI
    split
    · refine List.Pairwise.cons (fun z hz => ?_) (putI_pair x r h1.2)
      rcases putI_mem x r z hz with rfl | hz
      · assumption
      · exact h1.1 z hz
    · split
      · exact h
      · refine List.Pairwise.cons (fun z hz => ?_) h
        rcases List.mem_cons.1 hz with rfl | hz
        · omega
        · have := h1.1 z hz
          omega
theorem putI_chain (x : Int) (l : List Int) (h : chainLt l = true) : chainLt (putI x l) = true := pair_chain _ (putI_pair x l (chainLt_pair l h))
theorem lt_len : ∀ (l : List Int) (lo : Int), l.Pairwise (fun a b => a < b) → (∀ x ∈ l, lo ≤ x ∧ x ≤ 9) → l = [] ∨ (l.length : Int) + lo ≤ 10
  | [], _, _, _ => Or.inl rfl
  | y :: r, lo, h, hr => by
    have h1 := List.pairwise_cons.1 h
    refine Or.inr ?_
    obtain ⟨y0, y1⟩ := hr y (by simp)
    rcases lt_len r (y + 1) h1.2 (fun x hx => ⟨h1.1 x hx, (hr x (by simp [hx])).2⟩) with rfl | h2
    · simp; omega
    · simp only [List.length_cons]; omega
theorem InvB.len4 {f0 e : Int} {T : List Tri} {L3 L4 : List Int} (h : InvB f0 e T L3 L4) : L4.length ≤ 10 := by
  rcases lt_len L4 0 (chainLt_pair L4 h.c4) h.r4 with rfl | h1
  · simp
  · omega
theorem InvB.len3 {f0 e : Int} {T : List Tri} {L3 L4 : List Int} (h : InvB f0 e T L3 L4) : L3.length ≤ 2 := by
  have := inR_iff.1 h.f
  have := h.n3
  omega
theorem InvB.step {f0 e : Int} {T : List Tri} {L3 L4 : List Int} (h : InvB f0 e T L3 L4) (a b c : Int) : InvB f0 (stepT f0 e T L3 L4 a b c).1 (stepT f0 e T L3 L4 a b c).2.1 L3 (stepT f0 e T L3 L4 a b c).2.2.1 := by
  unfold stepT
  split
  · split
    · rename_i hc
      have := inR_iff.1 hc.2.1
      exact ⟨h.f, h.e0, h.e1, h.n3, h.r3, putI_chain c L4 h.c4, fun x hx => (putI_mem c L4 x hx).elim (fun e_ => by subst e_; exact this) (h.r4 x), h.n, h.t, h.p⟩
    · exact h
  · split
    · split
      · rename_i hc
        obtain ⟨h1, h2, h3, h4, h5⟩ := hc
        have hb := inR_iff.1 h1
        have hc := h.r4 c h2
        have e0 := h.e0
        have e1 := h.e1
        refine ⟨h.f, h.e0, h.e1, h.n3, h.r3, h.c4, h.r4, by simp; omega, fun t ht => ?_, ?_⟩
        · rcases List.mem_append.1 ht with ht | ht
          · exact h.t t ht
          · obtain rfl := List.mem_singleton.1 ht
            exact ⟨⟨by omega, Int.le_refl _⟩, hb, hc⟩
        · refine List.pairwise_append.2 ⟨h.p, List.pairwise_singleton _ _, fun s hs t ht => ?_⟩
          obtain rfl := List.mem_singleton.1 ht
          refine ⟨(h.t s hs).1.2, fun z1 z2 => ⟨fun z3 => ?_, ?_⟩⟩
          · dsimp only at z1 z2 z3
            rw [has3, List.any_eq_false] at h4
            exact h4 s hs (by simp [z1, z2, z3])
          · rcases h5 with h5 | h5
            · exact h5
            · dsimp only at z1 z2
              rw [has2, List.any_eq_false] at h5
              exact absurd (by simp [z1, z2]) (h5 s hs)
      · exact h
    · split
      · rename_i hc
        exact ⟨h.f, by have := h.e0; omega, by omega, h.n3, h.r3, rfl, by simp, h.n, fun t ht => ⟨⟨(h.t t ht).1.1, by have := (h.t t ht).1.2; omega⟩, (h.t t ht).2⟩, h.p⟩
      · exact h
def outT (r : Int × List Tri × List Int × Bool) : Int × List (List Int) × List Int × Bool := (r.1, r.2.1.map tri, r.2.2.1, r.2.2.2)
theorem member_e (f0 b : Int) (h : inR 0 2 f0 = true) : impl_isMemberOf.f f0 b = some (inR 0 (3 * f0) b) := by
  have := inR_iff.1 h
  unfold impl_isMemberOf.f
  rw [w64 (by omega) (by omega), within_eq]
  rfl
theorem sign_e {f0 e : Int} {T : List Tri} {L3 L4 : List Int} (h : InvB f0 e T L3 L4) (b c : Int) : Ev (fun k => bd_sign.f k f0 e (T.map tri) L3 L4 b c) ((stepT f0 e T L3 L4 2 b c).2.1.map tri, (stepT f0 e T L3 L4 2 b c).2.2.2) := by
  have hn := h.n
  have h3 := h.len3
  have h4 := h.len4
  have hst : stepT f0 e T L3 L4 2 b c = if inR 0 (3 * f0) b = true ∧ c ∈ L4 ∧ T.length < 200 ∧ has3 T e b c = false ∧ (b ∈ L3 ∨ has2 T e b = false) then (e, T ++ [(e, b, c)], L4, true) else (e, T, L4, false) := by
    unfold stepT
    rw [if_neg (by decide), if_pos rfl]
  rw [hst]
  unfold bd_sign.f
  refine enb (member_e _ _ h.f) ?_
  cases e1 : inR 0 (3 * f0) b with
  | false => exact eneg (by decide) (enow (by simp))
  | true =>
    refine epos rfl (ebind (coI_e L4 c (by omega)) ?_)
    by_cases e2 : c ∈ L4
    · refine epos (by simp [e2]) (ebind (hasSigned_e T f0 e L3 L4 e b c (by omega)) ?_)
      cases e3 : has3 T e b c with
      | true => exact epos rfl (enow (by simp))
      | false =>
        refine eneg (by decide) ?_
        by_cases e4 : T.length = 200
        · exact epos (by simp [e4]) (enow (by simp [e4]))
        · refine eneg (by simp; omega) (ebind (bdAny_e T e b (by omega)) ?_)
          have e5 : T.length < 200 := by omega
          cases e6 : has2 T e b with
          | true =>
            refine epos rfl (ebind (coI_e L3 b (by omega)) ?_)
            by_cases e7 : b ∈ L3
            · exact epos (by simp [e7]) (epos (by simp; omega) (enow (by simp [e2, e5, e7, tri])))
            · exact eneg (by simp [e7]) (enow (by simp [e7]))
          | false => exact eneg (by decide) (epos (by simp; omega) (enow (by simp [e2, e5, tri])))
    · exact eneg (by simp [e2]) (enow (by simp [e2]))
theorem implStep_e {f0 e : Int} {T : List Tri} {L3 L4 : List Int} (h : InvB f0 e T L3 L4) (a b c : Int) : Ev (fun k => bd_step.f k f0 e (T.map tri) L3 L4 a b c) (outT (stepT f0 e T L3 L4 a b c)) := by
  have h4 := h.len4
  have e0 := h.e0
  have e1 := h.e1
  unfold bd_step.f
  by_cases a1 : a = 1
  · refine epos a1 ?_
    subst a1
    unfold stepT
    rw [if_pos rfl]
    by_cases b0 : b = 0
    · refine epos b0 (enb (a := inR 0 9 c) (by unfold impl_isListNumber.f; rw [within_eq]; rfl) ?_)
      cases c1 : inR 0 9 c with
      | false => exact eneg (by decide) (enow (by simp [outT]))
      | true =>
        refine epos rfl (ebind (coI_e L4 c (by omega)) ?_)
        by_cases c2 : c ∈ L4
        · exact epos (by simp [c2]) (enow (by simp [outT, c2]))
        · refine eneg (by simp [c2]) (ebind (placedI_e L4 c (by omega) h.c4) (enow ?_))
          rw [← putI_new c L4 c2]
          simp [outT, c2, b0]
    · exact eneg b0 (enow (by simp [outT, b0]))
  · refine eneg a1 ?_
    by_cases a2 : a = 2
    · refine epos a2 ?_
      subst a2
      refine ebind (sign_e h b c) (enow ?_)
      unfold outT stepT
      rw [if_neg a1, if_pos rfl]
      split <;> rfl
    · refine eneg a2 ?_
      unfold stepT
      rw [if_neg a1, if_neg a2]
      by_cases a3 : a = 3
      · refine epos a3 ?_
        by_cases b0 : b = 0
        · refine epos b0 ?_
          by_cases c0 : c = 0
          · refine epos c0 ?_
            by_cases e2 : e = 20
            · exact epos e2 (enow (by simp [outT, e2]))
            · refine eneg e2 (enow ?_)
              rw [w64 (by omega) (by omega), if_pos ⟨a3, b0, c0, by omega⟩]
              rfl
          · exact eneg c0 (enow (by simp [outT, c0]))
        · exact eneg b0 (enow (by simp [outT, b0]))
      · exact eneg a3 (enow (by simp [outT, a3]))
theorem quorum_e (f0 : Int) (h : inR 0 2 f0 = true) : spec_QuorumFor.f f0 = some (3 * f0 + 1, 2 * f0 + 1, true) := by
  have ha := inR_iff.1 h
  unfold spec_QuorumFor.f
  rw [l1In_eq, h, w64 (x := 3 * f0) (by omega) (by omega), w64 (x := 2 * f0) (by omega) (by omega), w64 (x := 3 * f0 + 1) (by omega) (by omega), w64 (x := 2 * f0 + 1) (by omega) (by omega)]
  rfl
theorem specStep_e {f0 e : Int} {T : List Tri} {L3 L4 : List Int} (h : InvB f0 e T L3 L4) (a b c : Int) : Ev (fun k => spec_l13Step.f k f0 e (T.map tri) L3 L4 a b c) (outT (stepT f0 e T L3 L4 a b c)) := by
  have h3 := h.len3
  have h4 := h.len4
  have hn := h.n
  have e0 := h.e0
  have e1 := h.e1
  have hf := inR_iff.1 h.f
  unfold spec_l13Step.f
  refine enb (quorum_e f0 h.f) ?_
  dsimp only
  by_cases a1 : a = 1
  · refine epos a1 ?_
    subst a1
    unfold stepT
    rw [if_pos rfl]
    by_cases b0 : b = 0
    · refine epos b0 (enb (a := inR 0 9 c) (by unfold spec_l13List.f; rw [l1In_eq]; rfl) ?_)
      cases c1 : inR 0 9 c with
      | false => exact eneg (by decide) (enow (by simp [outT]))
      | true =>
        refine epos rfl (ebind (l1Has_e L4 c (by omega)) ?_)
        by_cases c2 : c ∈ L4
        · exact epos (by simp [c2]) (enow (by simp [outT, c2]))
        · refine eneg (by simp [c2]) (ebind (put_e L4 c (by omega)) (enow ?_))
          simp [outT, c2, b0]
    · exact eneg b0 (enow (by simp [outT, b0]))
  · refine eneg a1 ?_
    by_cases a2 : a = 2
    · refine epos a2 ?_
      subst a2
      rw [w64 (by omega) (by omega), show 3 * f0 + 1 - 1 = 3 * f0 by omega]
      refine enb (l1In_eq _ _ _) ?_
      unfold stepT
      rw [if_neg a1, if_pos rfl]
      cases d1 : inR 0 (3 * f0) b with
      | false => exact eneg (by decide) (enow (by simp [outT]))
      | true =>
        refine epos rfl (ebind (l1Has_e L4 c (by omega)) ?_)
        by_cases d2 : c ∈ L4
        · refine epos (by simp [d2]) ?_
          have hc := h.r4 c d2
          by_cases d5 : T.length < 200
          · refine epos (by simp; omega) (ebind (l13Has_e T f0 e L3 L4 e b c (by omega)) ?_)
            rw [if_neg (show ¬ c < 0 by omega)]
            cases d3 : has3 T e b c with
            | true => exact epos rfl (enow (by simp [outT]))
            | false =>
              refine eneg (by decide) (ebind (l1Has_e L3 b (by omega)) ?_)
              by_cases d7 : b ∈ L3
              · exact epos (by simp [d7]) (enow (by simp [outT, d2, d5, d7, tri]))
              · have e9 := l13Has_e T f0 e L3 L4 e b (-1) (by omega)
                rw [if_pos (show (-1 : Int) < 0 by decide)] at e9
                refine eneg (by simp [d7]) (ebind e9 ?_)
                cases d6 : has2 T e b with
                | true => exact epos rfl (enow (by simp [outT, d7]))
                | false => exact eneg (by decide) (enow (by simp [outT, d2, d5, tri]))
          · exact eneg (by simp; omega) (enow (by simp [outT, d5]))
        · exact eneg (by simp [d2]) (enow (by simp [outT, d2]))
    · refine eneg a2 ?_
      unfold stepT
      rw [if_neg a1, if_neg a2]
      by_cases a3 : a = 3
      · refine epos a3 ?_
        by_cases b0 : b = 0
        · refine epos b0 ?_
          by_cases c0 : c = 0
          · refine epos c0 ?_
            by_cases e2 : e < 20
            · refine epos e2 (enow ?_)
              rw [w64 (by omega) (by omega), if_pos ⟨a3, b0, c0, e2⟩]
              rfl
            · exact eneg e2 (enow (by simp [outT, e2]))
          · exact eneg c0 (enow (by simp [outT, c0]))
        · exact eneg b0 (enow (by simp [outT, b0]))
      · exact eneg a3 (enow (by simp [outT, a3]))
/-! the play -/
def playT (f0 : Int) (L3 : List Int) : List S158 → Int → List Tri → List Int → List Bool → Int × List Tri × List Int × List Bool
  | [], e, T, L4, did => (e, T, L4, did)
  | s :: r, e, T, L4, did => playT f0 L3 r (stepT f0 e T L3 L4 s.f0 s.f1 s.f2).1 (stepT f0 e T L3 L4 s.f0 s.f1 s.f2).2.1 (stepT f0 e T L3 L4 s.f0 s.f1 s.f2).2.2.1 (did ++ [(stepT f0 e T L3 L4 s.f0 s.f1 s.f2).2.2.2])
theorem playT_inv (f0 : Int) (L3 : List Int) : ∀ (xs : List S158) (e : Int) (T : List Tri) (L4 : List Int) (did : List Bool), InvB f0 e T L3 L4 → InvB f0 (playT f0 L3 xs e T L4 did).1 (playT f0 L3 xs e T L4 did).2.1 L3 (playT f0 L3 xs e T L4 did).2.2.1
  | [], _, _, _, _, h => h
  | s :: r, _, _, _, _, h => playT_inv f0 L3 r _ _ _ _ (h.step s.f0 s.f1 s.f2)
theorem playT_did (f0 : Int) (L3 : List Int) : ∀ (xs : List S158) (e : Int) (T : List Tri) (L4 : List Int) (did : List Bool), (playT f0 L3 xs e T L4 did).2.2.2.length = did.length + xs.length
  | [], _, _, _, _ => rfl
  | s :: r, _, _, _, _ => by
    rw [playT, playT_did f0 L3 r]
    simp
    omega
theorem rdB (xs : List S158) (i : Nat) (h : i < xs.length) : rd_T158 xs (i : Int) = xs[i] := getD_get xs i _ h
theorem implPlay_l (f0 : Int) (L3 : List Int) (xs : List S158) (hx : xs.length ≤ 60) : ∀ (d i : Nat) (e : Int) (T : List Tri) (L4 : List Int) (did : List Bool), i + d = xs.length → did.length = i → InvB f0 e T L3 L4 → Ev (fun k => impl_PlayBoard.l0 k xs (xs.length : Int) (i : Int) did f0 e (T.map tri) L3 L4) (let z := playT f0 L3 (xs.drop i) e T L4 did; (z.1, z.2.1.map tri, z.2.2.1, z.2.2.2)) := by
  intro d
  induction d with
  | zero =>
    intro i e T L4 did hi hd hI
    refine eround (fun k => by rw [impl_PlayBoard.l0]) (eneg (by omega) (enow ?_))
    rw [List.drop_eq_nil_of_le (by omega)]
    rfl
  | succ d ih =>
    intro i e T L4 did hi hd hI
    have hlt : i < xs.length := by omega
    refine eround (fun k => by rw [impl_PlayBoard.l0]) (epos (by omega) (epos (by omega) (epos (by omega) ?_)))
    rw [rdB xs i hlt, w64 (by omega) (by omega), List.drop_eq_getElem_cons hlt]
    refine ebind (implStep_e hI _ _ _) (epos (by omega) ?_)
    exact ih (i + 1) _ _ _ _ (by omega) (by simp [hd]) (hI.step _ _ _)
theorem specPlay_l (f0 : Int) (L3 : List Int) (xs : List S158) (hx : xs.length ≤ 60) : ∀ (d i : Nat) (e : Int) (T : List Tri) (L4 : List Int) (did : List Bool), i + d = xs.length → did.length = i → InvB f0 e T L3 L4 → Ev (fun k => spec_PlayBoard.l0 k xs (xs.length : Int) (i : Int) did f0 e (T.map tri) L3 L4) (let z := playT f0 L3 (xs.drop i) e T L4 did; (f0, z.1, z.2.1.map tri, L3, z.2.2.1, z.2.2.2)) := by
  intro d
  induction d with
  | zero =>
    intro i e T L4 did hi hd hI
    refine eround (fun k => by rw [spec_PlayBoard.l0]) (eneg (by omega) (enow ?_))
    rw [List.drop_eq_nil_of_le (by omega)]
    rfl
  | succ d ih =>
    intro i e T L4 did hi hd hI
    have hlt : i < xs.length := by omega
    have := hI.n
    have := hI.len3
    have := hI.len4
    refine eround (fun k => by rw [spec_PlayBoard.l0]) (epos (by omega) (epos (by omega) (epos (by omega) ?_)))
    rw [rdB xs i hlt, w64 (by omega) (by omega), List.drop_eq_getElem_cons hlt]
    refine ebind (own_e T f0 e L3 L4 (by omega) (by omega) (by omega)) ?_
    dsimp only
    refine ebind (specStep_e hI _ _ _) (epos (by omega) ?_)
    cases hq : (stepT f0 e T L3 L4 xs[i].f0 xs[i].f1 xs[i].f2).2.2.2 with
    | true =>
      refine epos hq ?_
      have := ih (i + 1) _ _ _ (did ++ [true]) (by omega) (by simp [hd]) (hI.step xs[i].f0 xs[i].f1 xs[i].f2)
      rw [playT, hq]
      exact this
    | false =>
      refine eneg (by rw [show (outT (stepT f0 e T L3 L4 xs[i].f0 xs[i].f1 xs[i].f2)).2.2.2 = false from hq]; decide) ?_
      have := ih (i + 1) e T L4 (did ++ [false]) (by omega) (by simp [hd]) hI
      rw [playT, stepT_no _ _ _ _ _ _ _ _ hq]
      exact this
theorem inv0 (a : Int) (l : List Int) (h : goodNB a l = true) : InvB a 0 [] l [] := by
  simp only [goodNB, Bool.and_eq_true, Bool.not_eq_true', decide_eq_false_iff_not] at h
  exact ⟨h.1, by omega, by omega, by omega, h.2.1, rfl, by simp, by simp, by simp, List.Pairwise.nil⟩
def playR (a : Int) (l : List Int) (xs : List S158) : Int × Int × List (List Int) × List Int × List Int × List Bool × Bool :=
  if goodNB a l = true ∧ ¬ (xs.length : Int) > 60 then (let z := playT a l xs 0 [] [] []; (a, z.1, z.2.1.map tri, l, z.2.2.1, z.2.2.2, true)) else (0, 0, [], [], [], [], false)
theorem implPlay_e (a : Int) (l : List Int) (xs : List S158) (hn : l.length ≤ 1048576) : Ev (fun k => impl_PlayBoard.f k a l xs) (playR a l xs) := by
  unfold impl_PlayBoard.f playR
  refine ebind (implNB_e a l hn) ?_
  unfold newBR
  cases hg : goodNB a l with
  | false => exact eneg (by simp) (enow (by simp))
  | true =>
    refine epos rfl ?_
    by_cases hx : (xs.length : Int) > 60
    · exact epos hx (enow (by simp [hx]))
    · refine eneg hx ?_
      have := implPlay_l a l xs (by omega) xs.length 0 0 [] [] [] (by omega) rfl (inv0 a l hg)
      refine ebind this (enow ?_)
      rw [if_pos (⟨rfl, hx⟩ : true = true ∧ ¬ (xs.length : Int) > 60)]
      rfl
theorem specPlay_e (a : Int) (l : List Int) (xs : List S158) (hn : l.length ≤ 1048576) : Ev (fun k => spec_PlayBoard.f k a l xs) (playR a l xs) := by
  unfold spec_PlayBoard.f playR
  refine ebind (specNB_e a l hn) ?_
  unfold newBR
  cases hg : goodNB a l with
  | false => exact eneg (by simp) (enow (by simp))
  | true =>
    refine epos rfl ?_
    by_cases hx : (xs.length : Int) > 60
    · exact epos hx (enow (by simp [hx]))
    · refine eneg hx ?_
      have := specPlay_l a l xs (by omega) xs.length 0 0 [] [] [] (by omega) rfl (inv0 a l hg)
      rw [List.drop_zero] at this
      refine ebind this ?_
      have hI := playT_inv a l xs 0 [] [] [] (inv0 a l hg)
      have := hI.n
      have := hI.len4
      rw [if_pos (⟨rfl, hx⟩ : true = true ∧ ¬ (xs.length : Int) > 60)]
      dsimp only [List.drop_zero]
      refine ebind (own_e _ a _ l _ (by omega) (by omega) (by omega)) (enow rfl)
theorem playR_small (a : Int) (l : List Int) (xs : List S158) (hn : l.length ≤ 1048576) : ((playR a l xs).2.2.1.length ≤ 1048576 ∧ ∀ y ∈ (playR a l xs).2.2.1, y.length ≤ 1048576) ∧ (playR a l xs).2.2.2.1.length ≤ 1048576 ∧ (playR a l xs).2.2.2.2.1.length ≤ 1048576 ∧ (playR a l xs).2.2.2.2.2.1.length ≤ 1048576 := by
  unfold playR
  split
  · rename_i h
    have hI := playT_inv a l xs 0 [] [] [] (inv0 a l h.1)
    have := hI.n
    have := hI.len4
    have hd := playT_did a l xs 0 [] [] []
    refine ⟨⟨by simp; omega, fun y hy => ?_⟩, hn, by dsimp only; omega, by dsimp only; rw [hd]; simp; omega⟩
    obtain ⟨t, _, rfl⟩ := List.mem_map.1 hy
    simp [tri]
  · simp
theorem slEq_l (xs ys : List Int) (hl : xs.length = ys.length) (hn : xs.length ≤ 9223372036854775807) : ∀ (d i : Nat), i + d = xs.length → Ev (fun k => slices_Equal_int_int.l0 k xs ys (xs.length : Int) (i : Int)) (decide (xs.drop i = ys.drop i)) := by
  intro d
  induction d with
  | zero =>
    intro i hi
    refine eround (fun k => by rw [slices_Equal_int_int.l0]) (eneg (by omega) (enow ?_))
    rw [List.drop_eq_nil_of_le (show xs.length ≤ i by omega), List.drop_eq_nil_of_le (show ys.length ≤ i by omega)]; rfl
  | succ d ih =>
    intro i hi
    have hlt : i < xs.length := by omega
    have hlt' : i < ys.length := by omega
    refine eround (fun k => by rw [slices_Equal_int_int.l0]) (epos (by omega) (epos (by omega) (epos (by omega) (epos (by omega) ?_))))
    rw [rd_get xs i hlt, rd_get ys i hlt', List.drop_eq_getElem_cons hlt, List.drop_eq_getElem_cons hlt']
    by_cases h : xs[i] = ys[i]
    · refine epos h ?_
      rw [w64 (by omega) (by omega)]
      simp only [h, List.cons.injEq, true_and]
      exact ih (i + 1) (by omega)
    · exact eneg h (enow (by simp only [List.cons.injEq, h, false_and, decide_false]))
theorem slEq_e (xs ys : List Int) (hn : xs.length ≤ 9223372036854775807) : Ev (fun k => slices_Equal_int_int.f k xs ys) (decide (xs = ys)) := by
  unfold slices_Equal_int_int.f
  by_cases hl : xs.length = ys.length
  · exact epos (by omega) (slEq_l xs ys hl hn xs.length 0 (by omega))
  · refine eneg (by omega) (enow ?_)
    have : xs ≠ ys := fun h => hl (by rw [h])
    simp [this]
/-! a good board -/
theorem isSigned_e {f0 e : Int} {T : List Tri} {L3 L4 : List Int} (h : InvB f0 e T L3 L4) (S : List (List Int)) (t : Tri) (ht : t ∈ T) : impl_Board_isSigned.f f0 e S L3 L4 (tri t) = some true := by
  obtain ⟨h1, h2, h3⟩ := h.t t ht
  unfold impl_Board_isSigned.f
  rw [if_pos (by rfl), if_pos (by simp [tri]), tri0, tri1, tri2, within_eq, Option.bind_some, if_pos (by simp [inR]; omega), if_pos (by simp [tri]), member_e _ _ h.f, Option.bind_some, if_pos (by simp [inR]; omega), if_pos (by simp [tri])]
  unfold impl_isListNumber.f
  rw [within_eq]
  simp [inR]; omega
theorem pair_at {T : List Tri} {L3 : List Int} (hp : T.Pairwise fun s t => s.1 ≤ t.1 ∧ (s.1 = t.1 → s.2.1 = t.2.1 → s.2.2 ≠ t.2.2 ∧ t.2.1 ∈ L3)) (i j : Nat) (hij : j < i) (hi : i < T.length) : T[j].1 ≤ T[i].1 ∧ (T[j].1 = T[i].1 → T[j].2.1 = T[i].2.1 → T[j].2.2 ≠ T[i].2.2 ∧ T[i].2.1 ∈ L3) :=
  List.pairwise_iff_getElem.1 hp j i (by omega) hi hij
theorem goodL1 {f0 e : Int} {T : List Tri} {L3 L4 : List Int} (h : InvB f0 e T L3 L4) (i : Nat) (hi : i < T.length) (R : Bool) (hc : Ev (fun k => impl_GoodBoard.l0 k (T.map tri) (T.length : Int) ((i + 1 : Nat) : Int) f0 e (T.map tri) L3 L4) R) : ∀ (d j : Nat), j + d = i → Ev (fun k => impl_GoodBoard.l1 k (tri T[i]) (T.map tri) (T.length : Int) (i : Int) ((T.map tri).take i) (i : Int) (j : Int) f0 e (T.map tri) L3 L4) R := by
  have hn := h.n
  have h3 := h.len3
  have hl : ((T.map tri).take i).length = i := by simp; omega
  intro d
  induction d with
  | zero =>
    intro j hj
    refine eround (fun k => by rw [impl_GoodBoard.l1]) (eneg (by omega) ?_)
    rw [w64 (by omega) (by omega)]
    exact hc
  | succ d ih =>
    intro j hj
    have hr : rd_L3 ((T.map tri).take i) (j : Int) = tri (T[j]'(by omega)) := by
      have := getD_get ((T.map tri).take i) j ([] : List Int) (by omega)
      rw [List.getElem_take, List.getElem_map] at this
      exact this
    obtain ⟨p1, p2⟩ := pair_at h.p i j (by omega) hi
    have hI := ih (j + 1) (by omega)
    have q : Ev (fun k => impl_GoodBoard.l1 k (tri T[i]) (T.map tri) (T.length : Int) (i : Int) ((T.map tri).take i) (i : Int) (wrap64 ((j : Int) + 1)) f0 e (T.map tri) L3 L4) R := by
      rw [w64 (by omega) (by omega)]
      exact hI
    refine eround (fun k => by rw [impl_GoodBoard.l1]) (epos (by omega) (epos (by omega) (epos (by omega) ?_)))
    rw [hr]
    refine epos (by simp [tri]) (epos (by simp [tri]) ?_)
    refine ebind (slEq_e ((tri (T[j]'(by omega))).take 2) ((tri T[i]).take 2) (by simp [tri])) ?_
    by_cases c : T[j].1 = T[i].1 ∧ T[j].2.1 = T[i].2.1
    · obtain ⟨c1, c2⟩ := p2 c.1 c.2
      refine epos (by simp [tri, c]) (epos (by simp [tri]) (epos (by simp [tri]) ?_))
      rw [tri2, tri2, tri1]
      refine eneg c1 (epos (by simp [tri]) (ebind (coI_e L3 _ (by omega)) (epos (by simp [c2]) q)))
    · exact eneg (by simpa [tri] using c) q
theorem goodL0 {f0 e : Int} {T : List Tri} {L3 L4 : List Int} (h : InvB f0 e T L3 L4) : ∀ (d i : Nat), i + d = T.length → Ev (fun k => impl_GoodBoard.l0 k (T.map tri) (T.length : Int) (i : Int) f0 e (T.map tri) L3 L4) true := by
  have hn := h.n
  intro d
  induction d with
  | zero =>
    intro i hi
    exact eround (fun k => by rw [impl_GoodBoard.l0]) (eneg (by omega) (enow rfl))
  | succ d ih =>
    intro i hi
    have hlt : i < T.length := by omega
    have hl : ((T.map tri).take i).length = i := by simp; omega
    have hj : Ev (fun k => impl_GoodBoard.j2 k (i : Int) (tri T[i]) (T.map tri) (T.length : Int) (i : Int) false f0 e (T.map tri) L3 L4) true := by
      refine eround (fun k => by rw [impl_GoodBoard.j2]) (eneg (by decide) (epos (by omega) (epos (by simp; omega) (enb rfl ?_))))
      rw [Int.toNat_natCast, hl]
      exact goodL1 h i hlt true (ih (i + 1) (by omega)) i 0 (by omega)
    refine eround (fun k => by rw [impl_GoodBoard.l0]) (epos (by omega) (epos (by omega) (epos (by simp; omega) ?_)))
    rw [rdT T i hlt]
    refine enb (isSigned_e h _ _ (List.getElem_mem hlt)) (epos rfl ?_)
    by_cases c : i = 0
    · subst c
      exact eneg (by simp) hj
    · obtain ⟨j, rfl⟩ : ∃ j, i = j + 1 := ⟨i - 1, by omega⟩
      rw [w64 (x := ((j + 1 : Nat) : Int) - 1) (by omega) (by omega), show ((j + 1 : Nat) : Int) - 1 = (j : Int) by omega, rdT T j (by omega)]
      refine epos (by omega) (epos (by omega) (epos (by simp; omega) (epos (by simp [tri]) (epos (by simp [tri]) ?_))))
      rw [tri0, tri0]
      have := (pair_at h.p (j + 1) j (by omega) hlt).1
      rw [show decide ((T[j]'(by omega)).1 > T[j + 1].1) = false from decide_eq_false (by omega)]
      exact hj
theorem good_e {f0 e : Int} {T : List Tri} {L3 L4 : List Int} (h : InvB f0 e T L3 L4) : Ev (fun k => impl_GoodBoard.f k f0 e (T.map tri) L3 L4) true := by
  have hn := h.n
  have h3 := h.len3
  have h4 := h.len4
  have hf := inR_iff.1 h.f
  unfold impl_GoodBoard.f
  refine enb (a := true) (by unfold impl_areFaults.f; rw [within_eq, h.f]; rfl) (epos rfl (enb (within_eq _ _ _) (epos (by have := h.e0; have := h.e1; simp [inR]; omega) ?_)))
  refine eneg (by have := h.n3; omega) ?_
  rw [w64 (by omega) (by omega)]
  have e1 := implRis_e L3 0 (3 * f0) (by omega)
  rw [h.r3] at e1
  have e2 := implRis_e L4 0 9 (by omega)
  rw [show risB 0 9 L4 = true by
    unfold risB
    rw [h.c4, Bool.and_true, List.all_eq_true]
    intro x hx
    exact inR_iff.2 (h.r4 x hx)] at e2
  refine ebind e1 (epos rfl (ebind e2 (epos rfl ?_)))
  rw [List.length_map, show decide ((T.length : Int) > 200) = false from decide_eq_false (by omega)]
  refine eround (fun k => by rw [impl_GoodBoard.j0]) (eneg (by decide) ?_)
  rw [List.length_map]
  exact goodL0 h T.length 0 (by omega)
/-! what is certified -/
def isFor (ep p : Int) (t : Tri) : Bool := decide (t.1 = ep) && decide (t.2.2 = p)
def cntZ (ep p : Int) (T : List Tri) : Int := ((T.filter (isFor ep p)).length : Int)
theorem cntZ_cons (ep p : Int) (t : Tri) (T : List Tri) : cntZ ep p (t :: T) = (if isFor ep p t = true then 1 else 0) + cntZ ep p T := by
  unfold cntZ
  rw [List.filter_cons]
  split
  · rw [List.length_cons]; omega
  · omega
theorem cntZ_le (ep p : Int) (T : List Tri) : 0 ≤ cntZ ep p T ∧ cntZ ep p T ≤ T.length := by
  unfold cntZ
  have := List.length_filter_le (isFor ep p) T
  omega
theorem certL1 (f0 e : Int) (T : List Tri) (L3 L4 : List Int) (hn : T.length ≤ 200) (ep p : Int) (acc : List Int) (R : List Int × Bool) : ∀ (d j : Nat) (c : Int), j + d = T.length → 0 ≤ c → c ≤ j → Ev (fun k => impl_CertifiedIn.l1 k ep acc p (c + cntZ ep p (T.drop j)) p (T.map tri) (T.length : Int) (T.length : Int) f0 e (T.map tri) L3 L4) R → Ev (fun k => impl_CertifiedIn.l1 k ep acc p c p (T.map tri) (T.length : Int) (j : Int) f0 e (T.map tri) L3 L4) R := by
  intro d
  induction d with
  | zero =>
    intro j c hj h0 h1 hE
    obtain rfl : j = T.length := by omega
    rw [List.drop_length] at hE
    simpa [cntZ] using hE
  | succ d ih =>
    intro j c hj h0 h1 hE
    have hlt : j < T.length := by omega
    rw [List.drop_eq_getElem_cons hlt, cntZ_cons] at hE
    refine eround (fun k => by rw [impl_CertifiedIn.l1]) (epos (by omega) (epos (by omega) (epos (by simp; omega) ?_)))
    rw [rdT T j hlt, tri0, tri2, w64 (x := (j : Int) + 1) (by omega) (by omega), w64 (x := c + 1) (by omega) (by omega)]
    refine epos (by simp [tri]) ?_
    by_cases c1 : T[j].1 = ep
    · refine epos c1 (epos (by simp [tri]) ?_)
      by_cases c2 : T[j].2.2 = p
      · refine epos c2 (ih (j + 1) (c + 1) (by omega) (by omega) (by omega) ?_)
        rw [if_pos (by simp [isFor, c1, c2])] at hE
        rw [show c + 1 + cntZ ep p (T.drop (j + 1)) = c + (1 + cntZ ep p (T.drop (j + 1))) by omega]
        exact hE
      · refine eneg c2 (ih (j + 1) c (by omega) (by omega) (by omega) ?_)
        rw [if_neg (by simp [isFor, c2]), Int.zero_add] at hE
        exact hE
    · refine eneg c1 (ih (j + 1) c (by omega) (by omega) (by omega) ?_)
      rw [if_neg (by simp [isFor, c1]), Int.zero_add] at hE
      exact hE
def certF (f0 ep : Int) (T : List Tri) : Nat → Int → List Int
  | 0, _ => []
  | d + 1, p => if cntZ ep p T > 2 * f0 then p :: certF f0 ep T d (p + 1) else certF f0 ep T d (p + 1)
theorem certL0 (f0 e : Int) (T : List Tri) (L3 L4 : List Int) (hf : 0 ≤ f0 ∧ f0 ≤ 2) (hn : T.length ≤ 200) (ep : Int) : ∀ (d : Nat) (p : Int) (acc : List Int), p + d = 10 → 0 ≤ p → acc.length ≤ 1000 - d → d ≤ 10 → Ev (fun k => impl_CertifiedIn.l0 k ep acc p f0 e (T.map tri) L3 L4) (acc ++ certF f0 ep T d p, true) := by
  intro d
  induction d with
  | zero =>
    intro p acc hp h0 ha hd
    exact eround (fun k => by rw [impl_CertifiedIn.l0]) (eneg (by omega) (enow (by simp [certF])))
  | succ d ih =>
    intro p acc hp h0 ha hd
    refine eround (fun k => by rw [impl_CertifiedIn.l0]) (epos (by omega) ?_)
    rw [List.length_map]
    refine certL1 f0 e T L3 L4 hn ep p acc _ T.length 0 0 (by omega) (by omega) (by omega) ?_
    rw [List.drop_zero, Int.zero_add]
    refine eround (fun k => by rw [impl_CertifiedIn.l1]) (eneg (by omega) ?_)
    rw [w64 (x := 2 * f0) (by omega) (by omega), w64 (by omega) (by omega)]
    by_cases c : cntZ ep p T > 2 * f0
    · refine epos c (epos (by omega) ?_)
      have := ih (p + 1) (acc ++ [p]) (by omega) (by omega) (by simp; omega) (by omega)
      rw [certF, if_pos c]
      simpa using this
    · refine eneg c ?_
      rw [certF, if_neg c]
      exact ih (p + 1) acc (by omega) (by omega) (by omega) (by omega)
theorem cert_e {f0 e : Int} {T : List Tri} {L3 L4 : List Int} (h : InvB f0 e T L3 L4) (ep : Int) (h0 : 0 ≤ ep) (h1 : ep ≤ e) : Ev (fun k => impl_CertifiedIn.f k f0 e (T.map tri) L3 L4 ep) (certF f0 ep T 10 0, true) := by
  have he := h.e1
  unfold impl_CertifiedIn.f
  refine ebind (good_e h) (epos rfl (enb (a := true) (by unfold impl_isEpoch.f; rw [within_eq, inR_iff.2 ⟨h0, by omega⟩]; rfl) ?_))
  refine eround (fun k => by rw [impl_CertifiedIn.j0]) (eneg (by decide) ?_)
  exact certL0 f0 e T L3 L4 (inR_iff.1 h.f) h.n ep 10 0 [] (by omega) (by omega) (by simp) (by omega)
/-! two quorums have an honest member in common -/
theorem nodup_sub : ∀ (l l' : List Int), l.Nodup → (∀ x ∈ l, x ∈ l') → l.length ≤ l'.length
  | [], _, _, _ => Nat.zero_le _
  | x :: r, l', h, hs => by
    have h1 := List.nodup_cons.1 h
    have hx := hs x (by simp)
    have := nodup_sub r (l'.erase x) h1.2 (fun y hy => (List.mem_erase_of_ne (fun e_ => by subst e_; exact h1.1 hy)).2 (hs y (by simp [hy])))
    rw [List.length_erase_of_mem hx] at this
    have := List.length_pos_of_mem hx
    simp only [List.length_cons]
    omega
def signers (ep p : Int) (T : List Tri) : List Int := (T.filter (isFor ep p)).map fun t => t.2.1
theorem mem_signers {ep p : Int} {T : List Tri} {m : Int} : m ∈ signers ep p T ↔ (ep, m, p) ∈ T := by
  unfold signers
  rw [List.mem_map]
  constructor
  · rintro ⟨t, h1, h2⟩
    obtain ⟨h3, h4⟩ := List.mem_filter.1 h1
    simp only [isFor, Bool.and_eq_true, decide_eq_true_eq] at h4
    obtain ⟨a, b, c⟩ := t
    obtain ⟨rfl, rfl⟩ := h4
    dsimp only at h2
    subst h2
    exact h3
  · intro h
    exact ⟨(ep, m, p), List.mem_filter.2 ⟨h, by simp [isFor]⟩, rfl⟩
theorem signers_nodup {ep p : Int} {T : List Tri} {L3 : List Int} (hp : T.Pairwise fun s t => s.1 ≤ t.1 ∧ (s.1 = t.1 → s.2.1 = t.2.1 → s.2.2 ≠ t.2.2 ∧ t.2.1 ∈ L3)) : (signers ep p T).Nodup := by
  unfold signers List.Nodup
  rw [List.pairwise_map, List.pairwise_filter]
  refine hp.imp ?_
  intro s t h h1 h2 h3
  simp only [isFor, Bool.and_eq_true, decide_eq_true_eq] at h1 h2
  exact (h.2 (by rw [h1.1, h2.1]) h3).1 (by rw [h1.2, h2.2])
theorem both_liar {ep p q m : Int} {T : List Tri} {L3 : List Int} (hp : T.Pairwise fun s t => s.1 ≤ t.1 ∧ (s.1 = t.1 → s.2.1 = t.2.1 → s.2.2 ≠ t.2.2 ∧ t.2.1 ∈ L3)) (hpq : p ≠ q) (h1 : (ep, m, p) ∈ T) (h2 : (ep, m, q) ∈ T) : m ∈ L3 := by
  obtain ⟨i, hi, e1⟩ := List.getElem_of_mem h1
  obtain ⟨j, hj, e2⟩ := List.getElem_of_mem h2
  rcases Nat.lt_trichotomy i j with c | c | c
  · have := (pair_at hp j i c hj).2 (by rw [e1, e2]) (by rw [e1, e2])
    rw [e2] at this
    exact this.2
  · subst c
    rw [e1] at e2
    exact absurd (congrArg (fun t : Tri => t.2.2) e2) hpq
  · have := (pair_at hp i j c hi).2 (by rw [e1, e2]) (by rw [e1, e2])
    rw [e1] at this
    exact this.2
theorem quorums {f0 e : Int} {T : List Tri} {L3 L4 : List Int} (h : InvB f0 e T L3 L4) (ep p q : Int) (hpq : p ≠ q) (h1 : cntZ ep p T > 2 * f0) (h2 : cntZ ep q T > 2 * f0) : False := by
  have hf := inR_iff.1 h.f
  have hP : (signers ep p T).Nodup := signers_nodup h.p
  have hQ : (signers ep q T).Nodup := signers_nodup h.p
  have lP : ((signers ep p T).length : Int) > 2 * f0 := by unfold signers; rw [List.length_map]; exact h1
  have lQ : ((signers ep q T).length : Int) > 2 * f0 := by unfold signers; rw [List.length_map]; exact h2
  have s1 : ((signers ep p T).filter (fun m => decide (m ∈ signers ep q T))).length ≤ L3.length := by
    refine nodup_sub _ _ (hP.filter _) (fun m hm => ?_)
    obtain ⟨m1, m2⟩ := List.mem_filter.1 hm
    exact both_liar h.p hpq (mem_signers.1 m1) (mem_signers.1 (by simpa using m2))
  have s2 : ((signers ep p T).filter (fun m => !decide (m ∈ signers ep q T)) ++ signers ep q T).length ≤ ((List.range (3 * f0 + 1).toNat).map Int.ofNat).length := by
    refine nodup_sub _ _ (List.nodup_append.2 ⟨hP.filter _, hQ, fun x hx y hy => ?_⟩) (fun m hm => ?_)
    · rintro rfl
      have := (List.mem_filter.1 hx).2
      simp [hy] at this
    · have hT : ∃ r, (ep, m, r) ∈ T := by
        rcases List.mem_append.1 hm with hm | hm
        · exact ⟨p, mem_signers.1 (List.mem_filter.1 hm).1⟩
        · exact ⟨q, mem_signers.1 hm⟩
      obtain ⟨r, hr⟩ := hT
      have := (h.t _ hr).2.1
      dsimp only at this
      refine List.mem_map.2 ⟨m.toNat, List.mem_range.2 (by omega), ?_⟩
      show ((m.toNat : Nat) : Int) = m
      omega
  have s3 : (signers ep p T).length = ((signers ep p T).filter (fun m => decide (m ∈ signers ep q T))).length + ((signers ep p T).filter (fun m => !decide (m ∈ signers ep q T))).length := by
    induction signers ep p T with
    | nil => rfl
    | cons a r ih =>
      rw [List.filter_cons, List.filter_cons]
      by_cases c : a ∈ signers ep q T
      · simp [c]; omega
      · simp [c]; omega
  rw [List.length_append, List.length_map, List.length_range] at s2
  have := h.n3
  omega
theorem certF_gt (f0 ep : Int) (T : List Tri) : ∀ (d : Nat) (p q : Int), q ∈ certF f0 ep T d p → p ≤ q ∧ cntZ ep q T > 2 * f0
  | 0, _, _, h => by simp [certF] at h
  | d + 1, p, q, h => by
    rw [certF] at h
    split at h
    · rcases List.mem_cons.1 h with rfl | h
      · exact ⟨Int.le_refl _, by assumption⟩
      · have := certF_gt f0 ep T d (p + 1) q h
        exact ⟨by omega, this.2⟩
    · have := certF_gt f0 ep T d (p + 1) q h
      exact ⟨by omega, this.2⟩
theorem certF_one {f0 e : Int} {T : List Tri} {L3 L4 : List Int} (h : InvB f0 e T L3 L4) (ep : Int) : ∀ (d : Nat) (p : Int), (certF f0 ep T d p).length ≤ 1
  | 0, _ => by simp [certF]
  | d + 1, p => by
    rw [certF]
    split
    · rename_i c
      have : certF f0 ep T d (p + 1) = [] := List.eq_nil_iff_forall_not_mem.2 (fun q hq => by
        obtain ⟨g1, g2⟩ := certF_gt f0 ep T d (p + 1) q hq
        exact quorums h ep p q (by omega) c g2)
      rw [this]
      simp
    · exact certF_one h ep d (p + 1)
theorem sameI_l (xs ys : List Int) (hl : xs.length = ys.length) (hn : xs.length ≤ 9223372036854775807) : ∀ (d i : Nat), i + d = xs.length → Ev (fun k => laws_sameInts.l0 k xs ys (xs.length : Int) (i : Int)) (decide (xs.drop i = ys.drop i)) := by
  intro d
  induction d with
  | zero =>
    intro i hi
    refine eround (fun k => by rw [laws_sameInts.l0]) (eneg (by omega) (enow ?_))
    rw [List.drop_eq_nil_of_le (show xs.length ≤ i by omega), List.drop_eq_nil_of_le (show ys.length ≤ i by omega)]; rfl
  | succ d ih =>
    intro i hi
    have hlt : i < xs.length := by omega
    have hlt' : i < ys.length := by omega
    refine eround (fun k => by rw [laws_sameInts.l0]) (epos (by omega) (epos (by omega) (epos (by omega) (epos (by omega) ?_))))
    rw [rd_get xs i hlt, rd_get ys i hlt', List.drop_eq_getElem_cons hlt, List.drop_eq_getElem_cons hlt']
    by_cases h : xs[i] = ys[i]
    · refine epos h ?_
      rw [w64 (by omega) (by omega)]
      simp only [h, List.cons.injEq, true_and]
      exact ih (i + 1) (by omega)
    · exact eneg h (enow (by simp only [List.cons.injEq, h, false_and, decide_false]))
theorem sameI_e (xs ys : List Int) (hn : xs.length ≤ 9223372036854775807) : Ev (fun k => laws_sameInts.f k xs ys) (decide (xs = ys)) := by
  unfold laws_sameInts.f
  by_cases hl : xs.length = ys.length
  · exact epos (by omega) (sameI_l xs ys hl hn xs.length 0 (by omega))
  · refine eneg (by omega) (enow ?_)
    have : xs ≠ ys := fun h => hl (by rw [h])
    simp [this]
theorem sameRows_l (xs : List (List Int)) (hs : xs.length ≤ 1048576 ∧ ∀ y ∈ xs, y.length ≤ 1048576) : ∀ (d i : Nat), i + d = xs.length → Ev (fun k => laws_sameRows.l0 k xs xs (xs.length : Int) (i : Int)) true := by
  have hn := hs.1
  intro d
  induction d with
  | zero =>
    intro i hi
    exact eround (fun k => by rw [laws_sameRows.l0]) (eneg (by omega) (enow rfl))
  | succ d ih =>
    intro i hi
    have hlt : i < xs.length := by omega
    refine eround (fun k => by rw [laws_sameRows.l0]) (epos (by omega) (epos (by omega) (epos (by omega) (epos (by omega) ?_))))
    rw [show rd_L3 xs (i : Int) = xs[i] from getD_get xs i _ hlt]
    have := sameI_e xs[i] xs[i] (by have := hs.2 _ (List.getElem_mem hlt); omega)
    rw [decide_eq_true rfl] at this
    refine ebind this (epos rfl ?_)
    rw [w64 (by omega) (by omega)]
    exact ih (i + 1) (by omega)
theorem sameRows_e (xs : List (List Int)) (hs : xs.length ≤ 1048576 ∧ ∀ y ∈ xs, y.length ≤ 1048576) : Ev (fun k => laws_sameRows.f k xs xs) true := by
  unfold laws_sameRows.f
  exact epos rfl (sameRows_l xs hs xs.length 0 (by omega))
/-! the cursor of what is drawn -/
def bytes (s : List Int) : Prop := ∀ x ∈ s, 0 ≤ x ∧ x ≤ 255
theorem bytes_of {s : List Int} (h : ∀ x ∈ s, (Lit.int .u8 x).wf = true) : bytes s := by
  intro x hx
  have := h x hx
  simp [Lit.wf, IntKind.min, IntKind.max, IntKind.bits, IntKind.signed] at this
  omega
theorem u64_range (y : Int) : 0 ≤ IntKind.u64.wrap y ∧ IntKind.u64.wrap y < 18446744073709551616 := by
  simp only [IntKind.wrap, IntKind.bits, IntKind.signed]
  constructor
  · simp; omega
  · simp; omega
theorem wraps_u64 (n : Int) (h0 : 0 ≤ n) (h1 : n < 2 ^ 62) : IntKind.u64.wrap n = n := by
  have : (2 : Int) ^ 62 = 4611686018427387904 := by decide
  exact u64_wrap_small n h0 (by omega)
theorem and255 (x : Int) (h0 : 0 ≤ x) (h1 : x < 4611686018427387904) : 0 ≤ Go.bits .and .u64 x 255 ∧ Go.bits .and .u64 x 255 ≤ 255 := by
  obtain ⟨a, rfl⟩ := Int.eq_ofNat_of_zero_le h0
  have ha : a < 2 ^ 62 := by have : (2 : Nat) ^ 62 = 4611686018427387904 := by decide
                             omega
  have := (bits_nat .u64 62 (by decide) wraps_u64 a 255 ha (by decide)).1
  rw [show ((255 : Nat) : Int) = 255 from rfl] at this
  rw [this]
  have : a &&& 255 ≤ 255 := Nat.and_le_right
  omega
theorem and_u64 (y : Int) : 0 ≤ wrap64 (Go.bits .and .u64 (IntKind.u64.wrap y / 1099511627776) 255) ∧ wrap64 (Go.bits .and .u64 (IntKind.u64.wrap y / 1099511627776) 255) ≤ 255 := by
  have r := u64_range y
  have := and255 (IntKind.u64.wrap y / 1099511627776) (by omega) (by omega)
  rw [w64 (by omega) (by omega)]
  exact this
theorem bytes_rd {s : List Int} (hb : bytes s) (p : Int) (h0 : 0 ≤ p) (h1 : p < s.length) : 0 ≤ rd s p ∧ rd s p ≤ 255 := by
  obtain ⟨i, rfl⟩ := Int.eq_ofNat_of_zero_le h0
  rw [rd_get s i (by omega)]
  exact hb _ (List.getElem_mem _)
theorem next_e (s : List Int) (hb : bytes s) (p x : Int) (h0 : 0 ≤ p) (h1 : p ≤ 1152921504606846976) : ∃ v x', spec_l1Cur_next.f s p x = some (v, p + 1, x') ∧ 0 ≤ v ∧ v ≤ 255 := by
  unfold spec_l1Cur_next.f
  rw [w64 (x := p + 1) (by omega) (by omega)]
  by_cases h : p < (s.length : Int)
  · have := bytes_rd hb p h0 h
    rw [w64 (x := rd s p) (by omega) (by omega), if_pos h, if_pos h0, if_pos (by omega)]
    exact ⟨_, _, rfl, this⟩
  · rw [if_neg h, if_neg (by omega)]
    exact ⟨_, _, rfl, and_u64 _⟩
theorem tmod_range (v n : Int) (h0 : 0 ≤ v) (h : 1 < n) : 0 ≤ Int.tmod v n ∧ Int.tmod v n < n := by
  rw [Int.tmod_eq_emod_of_nonneg h0]
  exact ⟨Int.emod_nonneg _ (by omega), Int.emod_lt_of_pos _ (by omega)⟩
theorem pick_e (s : List Int) (hb : bytes s) (p x n : Int) (h0 : 0 ≤ p) (h1 : p ≤ 1152921504606846900) : ∃ r p' x', spec_l1Cur_pick.f s p x n = some (r, p', x') ∧ (0 ≤ r ∧ (n ≤ 1 → r = 0) ∧ (1 < n → r < n)) ∧ p ≤ p' ∧ p' ≤ p + 2 := by
  unfold spec_l1Cur_pick.f
  by_cases hn : n ≤ 1
  · exact ⟨0, p, x, by rw [if_pos hn], ⟨by omega, fun _ => rfl, fun h => by omega⟩, by omega, by omega⟩
  · rw [if_neg hn]
    obtain ⟨v, x', e, v0, v1⟩ := next_e s hb p x h0 (by omega)
    rw [e, Option.bind_some]
    by_cases h2 : n > 200
    · obtain ⟨u, x'', e', u0, u1⟩ := next_e s hb (p + 1) x' (by omega) (by omega)
      rw [if_pos h2]
      simp only [e', Option.bind_some]
      rw [if_neg (by omega), w64 (x := v * 256) (by omega) (by omega), w64 (by omega) (by omega)]
      have := tmod_range (v * 256 + u) n (by omega) (by omega)
      exact ⟨_, _, _, rfl, ⟨this.1, fun h => by omega, fun _ => this.2⟩, by omega, by omega⟩
    · rw [if_neg h2, if_neg (by omega)]
      have := tmod_range v n v0 (by omega)
      exact ⟨_, p + 1, x', rfl, ⟨this.1, fun h => by omega, fun _ => this.2⟩, by omega, by omega⟩
theorem one_e (s : List Int) (hb : bytes s) (p x n : Int) (h0 : 0 ≤ p) (h1 : p ≤ 1152921504606846900) : ∃ b p' x', spec_l1Cur_one.f s p x n = some (b, p', x') ∧ p ≤ p' ∧ p' ≤ p + 2 := by
  obtain ⟨r, p', x', e, _, h2, h3⟩ := pick_e s hb p x n h0 h1
  exact ⟨r == 0, p', x', by unfold spec_l1Cur_one.f; simp only [e, Option.bind_some], h2, h3⟩
theorem among_e (s : List Int) (hb : bytes s) (p x : Int) (l : List Int) (hl : 1 ≤ l.length) (h0 : 0 ≤ p) (h1 : p ≤ 1152921504606846900) : ∃ v p' x', spec_l1Cur_among.f s p x l = some (v, p', x') ∧ v ∈ l ∧ p ≤ p' ∧ p' ≤ p + 2 := by
  obtain ⟨r, p', x', e, ⟨r0, r1, r2⟩, h2, h3⟩ := pick_e s hb p x (l.length : Int) h0 h1
  have hr : r < (l.length : Int) := by
    by_cases h : 1 < (l.length : Int)
    · exact r2 h
    · have := r1 (by omega); omega
  refine ⟨rd l r, p', x', ?_, ?_, h2, h3⟩
  · unfold spec_l1Cur_among.f
    simp only [e, Option.bind_some]
    rw [if_pos r0, if_pos hr]
  · obtain ⟨i, rfl⟩ := Int.eq_ofNat_of_zero_le r0
    rw [rd_get l i (by omega)]
    exact List.getElem_mem _
theorem putI_len (x : Int) : ∀ l : List Int, (putI x l).length ≤ l.length + 1
  | [] => by simp [putI]
  | y :: r => by
    have := putI_len x r
    unfold putI
    split
    · simp only [List.length_cons]; omega
    · split <;> simp
theorem taps_l (s : List Int) (hb : bytes s) : ∀ (d : Nat) (ts : List Int) (p x : Int), d ≤ 100 → ts.length + d ≤ 1000 → 0 ≤ p → p ≤ 1152921504606840000 - 2 * d → ∃ ts' p' x', Ev (fun k => spec_l1Cur_taps.l0 k ts (d : Int) s p x) (ts', p', x') ∧ ts'.length ≤ ts.length + d + 1 ∧ p ≤ p' ∧ p' ≤ p + 2 * d + 4 := by
  intro d
  induction d with
  | zero =>
    intro ts p x hd hl h0 h1
    obtain ⟨b, p1, x1, e1, g1, g2⟩ := one_e s hb p x 12 h0 (by omega)
    cases b with
    | false =>
      refine ⟨ts, p1, x1, ?_, by omega, by omega, by omega⟩
      refine eround (fun k => by rw [spec_l1Cur_taps.l0]) (eneg (by omega) ?_)
      refine enb e1 ?_
      exact eneg Bool.false_ne_true (enow rfl)
    | true =>
      obtain ⟨v, p2, x2, e2, _, g3, g4⟩ := among_e s hb p1 x1 [12, 13, 0] (by simp) (by omega) (by omega)
      have := putI_len v ts
      refine ⟨putI v ts, p2, x2, ?_, by omega, by omega, by omega⟩
      refine eround (fun k => by rw [spec_l1Cur_taps.l0]) (eneg (by omega) ?_)
      refine enb e1 ?_
      refine epos rfl ?_
      refine enb e2 ?_
      dsimp only
      refine ebind (put_e ts v (by omega)) ?_
      exact enow rfl
  | succ d ih =>
    intro ts p x hd hl h0 h1
    obtain ⟨v, p1, x1, e1, ⟨v0, _, v2⟩, g1, g2⟩ := pick_e s hb p x 7 h0 (by omega)
    have := v2 (by omega)
    have hp := putI_len (1 + v) ts
    obtain ⟨ts', p', x', e, q1, q2, q3⟩ := ih (putI (1 + v) ts) p1 x1 (by omega) (by omega) (by omega) (by omega)
    refine ⟨ts', p', x', ?_, by omega, by omega, by omega⟩
    refine eround (fun k => by rw [spec_l1Cur_taps.l0]) (epos (by omega) ?_)
    refine enb e1 ?_
    dsimp only
    rw [w64 (x := 1 + v) (by omega) (by omega), w64 (by omega) (by omega), show ((d + 1 : Nat) : Int) - 1 = (d : Int) by omega]
    exact ebind (put_e ts _ (by omega)) e
theorem taps_e (s : List Int) (hb : bytes s) (p x : Int) (h0 : 0 ≤ p) (h1 : p ≤ 1152921504606830000) : ∃ ts p' x', Ev (fun k => spec_l1Cur_taps.f k s p x) (ts, p', x') ∧ ts.length ≤ 100 ∧ p ≤ p' ∧ p' ≤ p + 100 := by
  obtain ⟨v, p1, x1, e1, ⟨v0, _, v2⟩, g1, g2⟩ := pick_e s hb p x 4 h0 (by omega)
  have := v2 (by omega)
  obtain ⟨n, rfl⟩ := Int.eq_ofNat_of_zero_le v0
  obtain ⟨ts, p', x', e, q1, q2, q3⟩ := taps_l s hb n [] p1 x1 (by omega) (by simp; omega) (by omega) (by omega)
  simp only [List.length_nil] at q1
  exact ⟨ts, p', x', by
    unfold spec_l1Cur_taps.f
    refine enb e1 ?_
    exact e, by omega, by omega, by omega⟩
theorem boardOf_l (s : List Int) (hb : bytes s) (a : Int) : ∀ (d : Nat) (l : List Int) (p x : Int), d ≤ 100 → l.length + d ≤ 1000 → 0 ≤ p → p ≤ 1152921504606820000 - 2 * d → ∃ a' l' p' x', Ev (fun k => spec_l1Cur_boardOf.l0 k a l (d : Int) s p x) (a', l', p', x') ∧ l'.length ≤ 1000 ∧ p ≤ p' ∧ p' ≤ p + 2 * d + 200 := by
  intro d
  induction d with
  | zero =>
    intro l p x hd hl h0 h1
    obtain ⟨b, p1, x1, e1, g1, g2⟩ := one_e s hb p x 20 h0 (by omega)
    cases b with
    | false =>
      refine ⟨a, l, p1, x1, ?_, by omega, by omega, by omega⟩
      refine eround (fun k => by rw [spec_l1Cur_boardOf.l0]) (eneg (by omega) ?_)
      refine enb e1 ?_
      exact eneg Bool.false_ne_true (enow rfl)
    | true =>
      obtain ⟨v, p2, x2, e2, _, g3, g4⟩ := pick_e s hb p1 x1 5 (by omega) (by omega)
      obtain ⟨ts, p3, x3, e3, q1, q2, q3⟩ := taps_e s hb p2 x2 (by omega) (by omega)
      refine ⟨wrap64 (v - 1), ts, p3, x3, ?_, by omega, by omega, by omega⟩
      refine eround (fun k => by rw [spec_l1Cur_boardOf.l0]) (eneg (by omega) ?_)
      refine enb e1 ?_
      refine epos rfl ?_
      refine enb e2 ?_
      dsimp only
      refine ebind e3 ?_
      exact enow rfl
  | succ d ih =>
    intro l p x hd hl h0 h1
    obtain ⟨v, p1, x1, e1, _, g1, g2⟩ := pick_e s hb p x (wrap64 (wrap64 (3 * a) + 1)) h0 (by omega)
    have hp := putI_len v l
    obtain ⟨a', l', p', x', e, q1, q2, q3⟩ := ih (putI v l) p1 x1 (by omega) (by omega) (by omega) (by omega)
    refine ⟨a', l', p', x', ?_, by omega, by omega, by omega⟩
    refine eround (fun k => by rw [spec_l1Cur_boardOf.l0]) (epos (by omega) ?_)
    refine enb e1 ?_
    dsimp only
    rw [w64 (x := ((d + 1 : Nat) : Int) - 1) (by omega) (by omega), show ((d + 1 : Nat) : Int) - 1 = (d : Int) by omega]
    exact ebind (put_e l _ (by omega)) e
theorem boardOf_e (s : List Int) (hb : bytes s) : ∃ a l p x, Ev (fun k => spec_l1Cur_boardOf.f k s 0 0) (a, l, p, x) ∧ l.length ≤ 1000 ∧ 0 ≤ p ∧ p ≤ 1000 := by
  obtain ⟨a, p1, x1, e1, ⟨a0, _, a2⟩, g1, g2⟩ := pick_e s hb 0 0 3 (by omega) (by omega)
  have := a2 (by omega)
  obtain ⟨n, p2, x2, e2, ⟨n0, n1, n2⟩, g3, g4⟩ := pick_e s hb p1 x1 (wrap64 (a + 1)) (by omega) (by omega)
  have hw : wrap64 (a + 1) = a + 1 := w64 (by omega) (by omega)
  have hn : n ≤ 3 := by
    rw [hw] at n1 n2
    by_cases c : 1 < a + 1
    · have := n2 c; omega
    · have := n1 (by omega)
      omega
  obtain ⟨m, rfl⟩ := Int.eq_ofNat_of_zero_le n0
  obtain ⟨a', l', p', x', e, q1, q2, q3⟩ := boardOf_l s hb a m [] p2 x2 (by omega) (by simp; omega) (by omega) (by omega)
  exact ⟨a', l', p', x', by
    unfold spec_l1Cur_boardOf.f
    refine enb e1 ?_
    refine enb e2 ?_
    exact e, q1, by omega, by omega⟩
theorem boardSteps_l (s : List Int) (hb : bytes s) : ∀ (d : Nat) (l : List S158) (p x : Int), d ≤ 100 → l.length + d ≤ 1000 → 0 ≤ p → p ≤ 1152921504606820000 - 20 * d → ∃ r, Ev (fun k => spec_l1Cur_boardSteps.l0 k l (d : Int) s p x) r := by
  intro d
  induction d with
  | zero =>
    intro l p x hd hl h0 h1
    exact ⟨_, eround (fun k => by rw [spec_l1Cur_boardSteps.l0]) (eneg (by omega) (enow rfl))⟩
  | succ d ih =>
    intro l p x hd hl h0 h1
    have hw : wrap64 (((d + 1 : Nat) : Int) - 1) = (d : Int) := by rw [w64 (by omega) (by omega)]; omega
    have j4 : ∀ (a b c q y : Int), p ≤ q → q ≤ p + 8 → ∃ r, Ev (fun k => spec_l1Cur_boardSteps.j4 k l ((d + 1 : Nat) : Int) s q y a b c) r := by
      intro a b c q y g0 g1
      obtain ⟨o, p1, x1, e1, g2, g3⟩ := one_e s hb q y 40 (by omega) (by omega)
      cases o with
      | false =>
        obtain ⟨r, e⟩ := ih (l ++ [⟨a, b, c⟩]) p1 x1 (by omega) (by simp; omega) (by omega) (by omega)
        refine ⟨r, ?_⟩
        refine eround (fun k => by rw [spec_l1Cur_boardSteps.j4]) ?_
        refine enb e1 ?_
        refine eneg Bool.false_ne_true ?_
        refine epos (by omega) ?_
        dsimp only
        rw [hw]
        exact e
      | true =>
        obtain ⟨a', p2, x2, e2, _, g4, g5⟩ := pick_e s hb p1 x1 5 (by omega) (by omega)
        obtain ⟨b', p3, x3, e3, _, g6, g7⟩ := among_e s hb p2 x2 [-1, 0, 6, 7] (by simp) (by omega) (by omega)
        obtain ⟨c', p4, x4, e4, _, g8, g9⟩ := among_e s hb p3 x3 [-1, 0, 9, 10] (by simp) (by omega) (by omega)
        obtain ⟨r, e⟩ := ih (l ++ [⟨a', b', c'⟩]) p4 x4 (by omega) (by simp; omega) (by omega) (by omega)
        refine ⟨r, ?_⟩
        refine eround (fun k => by rw [spec_l1Cur_boardSteps.j4]) ?_
        refine enb e1 ?_
        refine epos rfl ?_
        refine enb e2 ?_
        refine enb e3 ?_
        refine enb e4 ?_
        refine epos (by omega) ?_
        dsimp only
        rw [hw]
        exact e
    have j3 : ∀ (a b c q y : Int), p ≤ q → q ≤ p + 6 → ∃ r, Ev (fun k => spec_l1Cur_boardSteps.j3 k l ((d + 1 : Nat) : Int) s q y a b c) r := by
      intro a b c q y g0 g1
      by_cases h : a = 2
      · obtain ⟨b', p1, x1, e1, _, g2, g3⟩ := pick_e s hb q y 7 (by omega) (by omega)
        obtain ⟨r, e⟩ := j4 a b' c p1 x1 (by omega) (by omega)
        refine ⟨r, ?_⟩
        refine eround (fun k => by rw [spec_l1Cur_boardSteps.j3]) (epos h ?_)
        refine enb e1 ?_
        exact e
      · obtain ⟨r, e⟩ := j4 a b c q y (by omega) (by omega)
        exact ⟨r, eround (fun k => by rw [spec_l1Cur_boardSteps.j3]) (eneg h e)⟩
    have j2 : ∀ (a b c q y : Int), p ≤ q → q ≤ p + 4 → ∃ r, Ev (fun k => spec_l1Cur_boardSteps.j2 k l ((d + 1 : Nat) : Int) s q y a b c) r := by
      intro a b c q y g0 g1
      by_cases h : a = 3
      · obtain ⟨r, e⟩ := j3 a b c q y (by omega) (by omega)
        exact ⟨r, eround (fun k => by rw [spec_l1Cur_boardSteps.j2]) (epos h e)⟩
      · obtain ⟨c', p1, x1, e1, _, g2, g3⟩ := pick_e s hb q y 2 (by omega) (by omega)
        obtain ⟨r, e⟩ := j3 a b c' p1 x1 (by omega) (by omega)
        refine ⟨r, ?_⟩
        refine eround (fun k => by rw [spec_l1Cur_boardSteps.j2]) (eneg h ?_)
        refine enb e1 ?_
        exact e
    obtain ⟨a, p1, x1, e1, _, g1, g2⟩ := among_e s hb p x [1, 2, 2, 2, 2, 2, 2, 2, 2] (by simp) h0 (by omega)
    obtain ⟨o, p2, x2, e2, g3, g4⟩ := one_e s hb p1 x1 30 (by omega) (by omega)
    cases o with
    | true =>
      obtain ⟨r, e⟩ := j2 3 0 0 p2 x2 (by omega) (by omega)
      refine ⟨r, ?_⟩
      refine eround (fun k => by rw [spec_l1Cur_boardSteps.l0]) (epos (by omega) ?_)
      refine enb e1 ?_
      refine enb e2 ?_
      exact epos rfl e
    | false =>
      obtain ⟨r, e⟩ := j2 a 0 0 p2 x2 (by omega) (by omega)
      refine ⟨r, ?_⟩
      refine eround (fun k => by rw [spec_l1Cur_boardSteps.l0]) (epos (by omega) ?_)
      refine enb e1 ?_
      refine enb e2 ?_
      exact eneg Bool.false_ne_true e
theorem boardSteps_e (s : List Int) (hb : bytes s) (p x : Int) (h0 : 0 ≤ p) (h1 : p ≤ 1000) : ∃ r, Ev (fun k => spec_l1Cur_boardSteps.f k s p x) r := by
  obtain ⟨n, p1, x1, e1, ⟨n0, _, n2⟩, g1, g2⟩ := pick_e s hb p x 40 h0 (by omega)
  have := n2 (by omega)
  obtain ⟨o, p2, x2, e2, g3, g4⟩ := one_e s hb p1 x1 20 (by omega) (by omega)
  cases o with
  | true =>
    obtain ⟨m, p3, x3, e3, ⟨m0, _, m2⟩, g5, g6⟩ := pick_e s hb p2 x2 3 (by omega) (by omega)
    have := m2 (by omega)
    obtain ⟨q, hq⟩ := Int.eq_ofNat_of_zero_le (show 0 ≤ 59 + m by omega)
    obtain ⟨r, e⟩ := boardSteps_l s hb q [] p3 x3 (by omega) (by simp; omega) (by omega) (by omega)
    refine ⟨r, ?_⟩
    unfold spec_l1Cur_boardSteps.f
    refine enb e1 ?_
    refine enb e2 ?_
    refine epos rfl ?_
    refine enb e3 ?_
    dsimp only
    rw [w64 (by omega) (by omega), hq]
    exact eround (fun k => by rw [spec_l1Cur_boardSteps.j0]) e
  | false =>
    obtain ⟨q, rfl⟩ := Int.eq_ofNat_of_zero_le n0
    obtain ⟨r, e⟩ := boardSteps_l s hb q [] p2 x2 (by omega) (by simp; omega) (by omega) (by omega)
    refine ⟨r, ?_⟩
    unfold spec_l1Cur_boardSteps.f
    refine enb e1 ?_
    refine enb e2 ?_
    refine eneg Bool.false_ne_true ?_
    exact eround (fun k => by rw [spec_l1Cur_boardSteps.j0]) e
theorem drawPB_e (s : List Int) (hb : bytes s) : ∃ a l ys, Ev (fun k => spec_DrawPlayBoard.f k s) (a, l, ys) ∧ l.length ≤ 1000 := by
  obtain ⟨a, l, p, x, e1, h1, h2, h3⟩ := boardOf_e s hb
  obtain ⟨⟨ys, q⟩, e2⟩ := boardSteps_e s hb p x h2 h3
  exact ⟨a, l, ys, by
    unfold spec_DrawPlayBoard.f
    refine ebind e1 ?_
    dsimp only
    refine ebind e2 ?_
    exact enow rfl, h1⟩
theorem sameBools_l (xs : List Bool) (hn : xs.length ≤ 1048576) : ∀ (d i : Nat), i + d = xs.length → Ev (fun k => laws_sameBools.l0 k xs xs (xs.length : Int) (i : Int)) true := by
  intro d
  induction d with
  | zero =>
    intro i hi
    exact eround (fun k => by rw [laws_sameBools.l0]) (eneg (by omega) (enow rfl))
  | succ d ih =>
    intro i hi
    refine eround (fun k => by rw [laws_sameBools.l0]) (epos (by omega) (epos (by omega) (epos (by omega) (epos (by omega) (eneg (by simp) ?_)))))
    rw [w64 (by omega) (by omega)]
    exact ih (i + 1) (by omega)
theorem sameBools_e (xs : List Bool) (hn : xs.length ≤ 1048576) : Ev (fun k => laws_sameBools.f k xs xs) true := by
  unfold laws_sameBools.f
  exact epos rfl (sameBools_l xs hn xs.length 0 (by omega))
theorem sameBoard_e (a b : Int) (l2 : List (List Int)) (l3 l4 : List Int) (h2 : l2.length ≤ 1048576 ∧ ∀ y ∈ l2, y.length ≤ 1048576) (h3 : l3.length ≤ 1048576) (h4 : l4.length ≤ 1048576) : Ev (fun k => laws_sameBoard.f k a b l2 l3 l4 a b l2 l3 l4) true := by
  unfold laws_sameBoard.f
  have e3 := sameI_e l3 l3 (by omega)
  have e4 := sameI_e l4 l4 (by omega)
  rw [decide_eq_true rfl] at e3 e4
  exact epos rfl (epos rfl (ebind (sameRows_e l2 h2) (epos rfl (ebind e3 (epos rfl (ebind e4 (enow rfl)))))))
theorem law_l0 {f0 e : Int} {T : List Tri} {L3 L4 : List Int} (h : InvB f0 e T L3 L4) : ∀ (d : Nat) (ep : Int), ep + d = e + 1 → 0 ≤ ep → Ev (fun k => laws_FnBoard.l0 k ep f0 e (T.map tri) L3 L4) true := by
  have he := h.e1
  intro d
  induction d with
  | zero =>
    intro ep hp h0
    exact eround (fun k => by rw [laws_FnBoard.l0]) (eneg (by omega) (enow rfl))
  | succ d ih =>
    intro ep hp h0
    refine eround (fun k => by rw [laws_FnBoard.l0]) (epos (by omega) (ebind (cert_e h ep h0 (by omega)) (epos rfl (eneg ?_ ?_))))
    · have := certF_one h ep 10 0
      dsimp only
      omega
    · rw [w64 (by omega) (by omega)]
      exact ih (ep + 1) (by omega) (by omega)
theorem FnBoard : laws_FnBoard.Pure := by
  intro l _ _ hb
  apply Ev.rounds
  unfold laws_FnBoard.f
  by_cases h1 : (l.length : Int) > 1048576
  · exact epos h1 (enow rfl)
  refine eneg h1 ?_
  obtain ⟨a, xs, ys, e1, hx⟩ := drawPB_e l (bytes_of hb)
  have e2 := implPlay_e a xs ys (by omega)
  have e3 := specPlay_e a xs ys (by omega)
  obtain ⟨s1, s2, s3, s4⟩ := playR_small a xs ys (by omega)
  refine ebind e1 (ebind e2 (ebind e3 (eneg (by simp) (ebind (sameBools_e _ s4) (epos rfl (ebind (sameBoard_e _ _ _ _ _ s1 s2 s3) ?_))))))
  refine eround (fun k => by rw [laws_FnBoard.j0]) (eneg (by decide) ?_)
  by_cases c : goodNB a xs = true ∧ ¬ (ys.length : Int) > 60
  · have hI := playT_inv a xs ys 0 [] [] [] (inv0 a xs c.1)
    unfold playR
    rw [if_pos c]
    refine epos rfl (ebind (good_e hI) (epos rfl ?_))
    exact law_l0 hI ((playT a xs ys 0 [] [] []).1 + 1).toNat 0 (by have := hI.e0; omega) (by omega)
  · unfold playR
    rw [if_neg c]
    exact eneg (by decide) (enow rfl)

end Go.Proofs.Ytkgogglnipdcfaa.Pure
