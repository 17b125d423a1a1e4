/- The law FnScores, told over lists: tallies hang on the members of what is done and of what is stated, not on their order; they are good tallies, one for each hand, and each debit is proved; TallyOf, AddTallies and DebitsFor answer alike on both sides for what is drawn. No condition. -/
import Derived.Test.YtkgogglnipdcfaaQFnScoresx12
import Derived.Test.YtkgogglnipdcfaaPk
namespace Go.Proofs.Ytkgogglnipdcfaa.Pure
open Go.RowKit Go.Proofs.Ytkgogglnipdcfaa.QFnScores Go.Proofs.YtkgogglnipdcfaaW.PrintWords Go.Proofs.YtkgogglnipdcfaaW.PrintLast Go.Proofs.YtkgogglnipdcfaaW.PrintMore Go.Proofs.Ytkgogglnipdcfaa
set_option linter.unusedVariables false
set_option linter.unusedSimpArgs false

open Pk

def inR (lo hi x : Int) : Bool := decide (x ≥ lo) && decide (x ≤ hi)
theorem inR_iff {lo hi x : Int} : inR lo hi x = true ↔ lo ≤ x ∧ x ≤ hi := by simp [inR]
theorem l1In_eq (a lo hi : Int) : spec_l1In.f a lo hi = some (inR lo hi a) := by
  unfold spec_l1In.f inR
  by_cases h : a ≥ lo <;> simp [h]
theorem within_eq (a lo hi : Int) : impl_within.f a lo hi = some (inR lo hi a) := by
  unfold impl_within.f inR
  by_cases h : a ≥ lo <;> simp [h]
def goodC (a b c : Int) : Bool := inR 0 20 a && (inR 0 1000 b && inR 0 100 c)
theorem specGC_eq (a b c : Int) : spec_GoodClaim.f a b c = some (goodC a b c) := by
  unfold spec_GoodClaim.f goodC
  rw [l1In_eq, l1In_eq, l1In_eq]
  cases h : inR 0 20 a <;> cases h1 : inR 0 1000 b <;> simp
theorem implGC_eq (a b c : Int) : impl_GoodClaim.f a b c = some (goodC a b c) := by
  unfold impl_GoodClaim.f impl_isLetterNumber.f goodC
  rw [within_eq, within_eq, within_eq]
  cases h : inR 0 20 a <;> cases h1 : inR 0 1000 b <;> simp
def goodSt (x : S91) : Bool := inR 0 6 x.f0 && goodC x.f1.f0 x.f1.f1 x.f1.f2
def goodSts (xs : List S91) : Bool := xs.all goodSt && decide ((xs.length : Int) ≤ 60)
theorem l12W_eq (a : Int) : spec_l12Witness.f a = some (inR 0 6 a) := by
  unfold spec_l12Witness.f
  rw [l1In_eq]; rfl
theorem specG12_l (xs : List S91) (hn : xs.length ≤ 1048576) : ∀ (d i : Nat), i + d = xs.length → Ev (fun k => spec_l12Good.l0 k xs xs (xs.length : Int) (i : Int)) ((xs.drop i).all goodSt && decide ((xs.length : Int) ≤ 60)) := by
  intro d
  induction d with
  | zero =>
    intro i hi
    refine eround (fun k => by rw [spec_l12Good.l0]) (eneg (by omega) (enow ?_))
    rw [List.drop_eq_nil_of_le (by omega)]; rfl
  | succ d ih =>
    intro i hi
    have hlt : i < xs.length := by omega
    refine eround (fun k => by rw [spec_l12Good.l0]) (epos (by omega) (epos (by omega) (epos (by omega) ?_)))
    rw [show rd_T91 xs (i : Int) = xs[i] from getD_get xs i _ hlt, List.drop_eq_getElem_cons hlt, List.all_cons]
    refine enb (l12W_eq _) ?_
    have hg : goodSt xs[i] = (inR 0 6 xs[i].f0 && goodC xs[i].f1.f0 xs[i].f1.f1 xs[i].f1.f2) := rfl
    cases h : inR 0 6 xs[i].f0 with
    | false => exact eneg (by simp) (enow (by simp [hg, h]))
    | true =>
      refine epos rfl (enb (specGC_eq _ _ _) ?_)
      cases h2 : goodC xs[i].f1.f0 xs[i].f1.f1 xs[i].f1.f2 with
      | false => exact eneg (by simp) (enow (by simp [hg, h2]))
      | true =>
        refine epos rfl ?_
        rw [w64 (by omega) (by omega), hg, h, h2]
        exact ih (i + 1) (by omega)
theorem specG12_e (xs : List S91) (hn : xs.length ≤ 1048576) : Ev (fun k => spec_l12Good.f k xs) (goodSts xs) := specG12_l xs hn xs.length 0 (by omega)
theorem isSt_eq (a b c d : Int) (e : Bool) : impl_isStatement.f a b c d e = some (inR 0 6 a && goodC b c d) := by
  unfold impl_isStatement.f
  rw [within_eq, implGC_eq]
  cases h : inR 0 6 a <;> simp
theorem areSt1_eq (x : S91) : impl_areStatements_1.f x.f0 x.f1.f0 x.f1.f1 x.f1.f2 x.f2 = some (!goodSt x) := by
  unfold impl_areStatements_1.f
  rw [isSt_eq]; rfl
theorem ixSt_l (xs : List S91) (hn : xs.length ≤ 1048576) : ∀ (d i : Nat), i + d = xs.length → ∃ r : Int, Ev (fun k => slices_IndexFunc_228_at_200.l0 k xs (xs.length : Int) (i : Int)) r ∧ -1 ≤ r ∧ r < (xs.length : Int) ∧ (r ≥ 0 ↔ (xs.drop i).any (fun x => !goodSt x) = true) := by
  intro d
  induction d with
  | zero =>
    intro i hi
    refine ⟨-1, eround (fun k => by rw [slices_IndexFunc_228_at_200.l0]) (eneg (by omega) (enow rfl)), by omega, by omega, ?_⟩
    rw [List.drop_eq_nil_of_le (by omega)]; simp
  | succ d ih =>
    intro i hi
    have hlt : i < xs.length := by omega
    obtain ⟨r, h1, h2, h2', h3⟩ := ih (i + 1) (by omega)
    rw [List.drop_eq_getElem_cons hlt, List.any_cons]
    cases h : (fun x : S91 => !goodSt x) xs[i] with
    | true =>
      refine ⟨(i : Int), eround (fun k => by rw [slices_IndexFunc_228_at_200.l0]) (epos (by omega) (epos (by omega) (epos (by omega) ?_))), by omega, by omega, ⟨fun _ => by rw [show (!goodSt xs[i]) = true from h]; rfl, fun _ => by omega⟩⟩
      rw [show rd_T91 xs (i : Int) = xs[i] from getD_get xs i _ hlt]
      exact enb (areSt1_eq _) (epos h (enow rfl))
    | false =>
      refine ⟨r, eround (fun k => by rw [slices_IndexFunc_228_at_200.l0]) (epos (by omega) (epos (by omega) (epos (by omega) ?_))), h2, h2', by rw [show (!goodSt xs[i]) = false from h, Bool.false_or]; exact h3⟩
      rw [show rd_T91 xs (i : Int) = xs[i] from getD_get xs i _ hlt]
      refine enb (areSt1_eq _) (eneg (by rw [show (!goodSt xs[i]) = false from h]; decide) ?_)
      rw [w64 (by omega) (by omega)]
      exact h1
theorem ixSt_e (xs : List S91) (hn : xs.length ≤ 1048576) : ∃ r : Int, Ev (fun k => slices_IndexFunc_228_at_200.f k xs) r ∧ -1 ≤ r ∧ r < (xs.length : Int) ∧ (r ≥ 0 ↔ xs.any (fun x => !goodSt x) = true) := ixSt_l xs hn xs.length 0 (by omega)
theorem implG12_e (xs : List S91) (hn : xs.length ≤ 1048576) : Ev (fun k => impl_areStatements.f k xs) (goodSts xs) := by
  unfold impl_areStatements.f goodSts
  by_cases h : (xs.length : Int) ≤ 60
  · obtain ⟨r, h1, _, _, h3⟩ := ixSt_e xs hn
    refine epos h (ebind (f := fun _ t => some (!t)) (a := decide (r ≥ 0)) ?_ (enow ?_))
    · exact ebind (f := fun _ t => some (decide (t ≥ 0))) h1 (enow rfl)
    · rw [decide_eq_true h, Bool.and_true]
      cases ha : xs.all goodSt with
      | true =>
        have : ¬ r ≥ 0 := by
          rw [h3, List.any_eq_true]
          rintro ⟨x, hx, hx'⟩
          have := List.all_eq_true.1 ha x hx
          simp [this] at hx'
        simp [this]
      | false =>
        have : r ≥ 0 := by
          rw [h3, List.any_eq_true]
          rw [List.all_eq_false] at ha
          obtain ⟨x, hx, hx'⟩ := ha
          exact ⟨x, hx, by simpa using hx'⟩
        simp [this]
  · exact eneg h (enow (by simp [h]))
def hasS (xs : List S91) (h a b c : Int) (f : Bool) : Bool := xs.any (fun x => h == x.f0 && ((a == x.f1.f0 && (b == x.f1.f1 && (c == x.f1.f2))) && (f == x.f2)))
theorem ixS_l (xs : List S91) (h a b c : Int) (f : Bool) (hn : xs.length ≤ 4194304) : ∀ (d i : Nat), i + d = xs.length → ∃ r : Int, Ev (fun k => impl_Statement_204.l0 k xs (xs.length : Int) (i : Int) h a b c f) r ∧ (r ≥ 0 ↔ hasS (xs.drop i) h a b c f = true) := by
  intro d
  induction d with
  | zero =>
    intro i hi
    refine ⟨-1, eround (fun k => by rw [impl_Statement_204.l0]) (eneg (by omega) (enow rfl)), ?_⟩
    rw [List.drop_eq_nil_of_le (by omega)]; simp [hasS]
  | succ d ih =>
    intro i hi
    have hlt : i < xs.length := by omega
    obtain ⟨r, h1, h3⟩ := ih (i + 1) (by omega)
    unfold hasS at h3 ⊢
    rw [List.drop_eq_getElem_cons hlt, List.any_cons]
    cases e : (h == xs[i].f0 && ((a == xs[i].f1.f0 && (b == xs[i].f1.f1 && (c == xs[i].f1.f2))) && (f == xs[i].f2))) with
    | true =>
      refine ⟨(i : Int), eround (fun k => by rw [impl_Statement_204.l0]) (epos (by omega) (epos (by omega) (epos (by omega) ?_))), by simp⟩
      rw [show rd_T91 xs (i : Int) = xs[i] from getD_get xs i _ hlt]
      exact epos e (enow rfl)
    | false =>
      refine ⟨r, eround (fun k => by rw [impl_Statement_204.l0]) (epos (by omega) (epos (by omega) (epos (by omega) ?_))), by rw [Bool.false_or]; exact h3⟩
      rw [show rd_T91 xs (i : Int) = xs[i] from getD_get xs i _ hlt]
      refine eneg (by rw [e]; decide) ?_
      rw [w64 (by omega) (by omega)]
      exact h1
theorem coS_e' (xs : List S91) (h a b c : Int) (f : Bool) (hn : xs.length ≤ 4194304) : Ev (fun k => impl_Statement_144.f k xs h a b c f) (hasS xs h a b c f) := by
  obtain ⟨r, h1, h3⟩ := ixS_l xs h a b c f hn xs.length 0 (by omega)
  refine ebind (f := fun _ t => some (decide (t ≥ 0))) h1 (enow ?_)
  rw [List.drop_zero] at h3
  cases e : hasS xs h a b c f with
  | true => rw [e] at h3; simpa using h3
  | false => rw [e] at h3; simpa using h3
theorem coS_e (xs : List S91) (h a b c : Int) (f : Bool) (hn : xs.length ≤ 1048576) : Ev (fun k => impl_Statement_144.f k xs h a b c f) (hasS xs h a b c f) := coS_e' xs h a b c f (by omega)
theorem hasS_cons (x : S91) (xs : List S91) (h a b c : Int) (f : Bool) : hasS (x :: xs) h a b c f = ((h == x.f0 && ((a == x.f1.f0 && (b == x.f1.f1 && (c == x.f1.f2))) && (f == x.f2))) || hasS xs h a b c f) := rfl
def refF (xs : List S91) (a b c : Int) : Nat → Nat → List Int
  | 0, _ => []
  | d + 1, i => (if hasS xs (i : Int) a b c true = true ∧ hasS xs (i : Int) a b c false = false then [(i : Int)] else []) ++ refF xs a b c d (i + 1)
theorem refF_len (xs : List S91) (a b c : Int) : ∀ d i, (refF xs a b c d i).length ≤ d
  | 0, _ => Nat.le_refl _
  | d + 1, i => by
    have := refF_len xs a b c d (i + 1)
    simp only [refF, List.length_append]
    split <;> simp <;> omega
theorem implRef_l (xs : List S91) (a b c : Int) (hn : xs.length ≤ 1048576) : ∀ (d i : Nat) (out : List Int), i + d = 7 → out.length ≤ i → Ev (fun k => impl_refusedBy.l0 k xs out (i : Int) a b c) (out ++ refF xs a b c d i) := by
  intro d
  induction d with
  | zero =>
    intro i out hi ho
    exact eround (fun k => by rw [impl_refusedBy.l0]) (eneg (by omega) (enow (by simp [refF])))
  | succ d ih =>
    intro i out hi ho
    refine eround (fun k => by rw [impl_refusedBy.l0]) (epos (by omega) (ebind (coS_e _ _ _ _ _ _ hn) ?_))
    rw [w64 (by omega) (by omega)]
    simp only [refF]
    cases h1 : hasS xs (i : Int) a b c true with
    | false =>
      refine eneg (by decide) ?_
      simpa using ih (i + 1) out (by omega) (by omega)
    | true =>
      refine epos rfl (ebind (coS_e _ _ _ _ _ _ hn) ?_)
      cases h2 : hasS xs (i : Int) a b c false with
      | true =>
        refine epos rfl ?_
        simpa using ih (i + 1) out (by omega) (by omega)
      | false =>
        refine eneg (by decide) (epos (by omega) ?_)
        have := ih (i + 1) (out ++ [(i : Int)]) (by omega) (by simp; omega)
        rw [List.append_assoc] at this
        simpa using this
theorem implRef_e (xs : List S91) (a b c : Int) (hn : xs.length ≤ 1048576) : Ev (fun k => impl_refusedBy.f k xs a b c) (refF xs a b c 7 0) := implRef_l xs a b c hn 7 0 [] (by omega) (by simp)
theorem specRef_l1 (xs : List S91) (a b c : Int) (hn : xs.length ≤ 1048576) (out : List Int) (w : Nat) (hw : w < 7) (ho : out.length ≤ w) (R : List Int)
    (H : Ev (fun k => spec_l12Refused.l0 k xs (out ++ if hasS xs (w : Int) a b c true = true ∧ hasS xs (w : Int) a b c false = false then [(w : Int)] else []) ((w + 1 : Nat) : Int) a b c) R) :
    ∀ (d i : Nat) (y n : Bool), i + d = xs.length → (y || hasS (xs.drop i) (w : Int) a b c true) = hasS xs (w : Int) a b c true → (n || hasS (xs.drop i) (w : Int) a b c false) = hasS xs (w : Int) a b c false → Ev (fun k => spec_l12Refused.l1 k xs out (w : Int) y n xs (xs.length : Int) (i : Int) a b c) R := by
  intro d
  induction d with
  | zero =>
    intro i y n hi hy hx
    rw [List.drop_eq_nil_of_le (by omega)] at hy hx
    have hy' : y = hasS xs (w : Int) a b c true := by simpa [hasS] using hy
    have hx' : n = hasS xs (w : Int) a b c false := by simpa [hasS] using hx
    refine eround (fun k => by rw [spec_l12Refused.l1]) (eneg (by omega) ?_)
    rw [w64 (by omega) (by omega), hy', hx']
    cases h1 : hasS xs (w : Int) a b c true with
    | false => refine eneg (by decide) ?_; simpa [h1] using H
    | true =>
      refine epos rfl ?_
      cases h2 : hasS xs (w : Int) a b c false with
      | true => refine epos rfl ?_; simpa [h1, h2] using H
      | false => refine eneg (by decide) (epos (by omega) ?_); simpa [h1, h2] using H
  | succ d ih =>
    intro i y n hi hy hx
    have hlt : i < xs.length := by omega
    rw [List.drop_eq_getElem_cons hlt, hasS_cons] at hy hx
    refine eround (fun k => by rw [spec_l12Refused.l1]) (epos (by omega) (epos (by omega) (epos (by omega) ?_)))
    rw [show rd_T91 xs (i : Int) = xs[i] from getD_get xs i _ hlt, w64 (by omega) (by omega)]
    by_cases e1 : xs[i].f0 = (w : Int)
    · refine epos e1 ?_
      cases e2 : ((xs[i].f1.f0 == a) && ((xs[i].f1.f1 == b) && (xs[i].f1.f2 == c))) with
      | false =>
        refine eneg (by decide) ?_
        refine ih (i + 1) y n (by omega) ?_ ?_
        · rw [← hy]; congr 1
          have : ((w : Int) == xs[i].f0 && ((a == xs[i].f1.f0 && (b == xs[i].f1.f1 && (c == xs[i].f1.f2))) && (true == xs[i].f2))) = false := by
            rw [Bool.eq_false_iff] at e2 ⊢; intro e; apply e2; simp only [Bool.and_eq_true, beq_iff_eq] at e ⊢; exact ⟨e.2.1.1.symm, e.2.1.2.1.symm, e.2.1.2.2.symm⟩
          rw [this]; rfl
        · rw [← hx]; congr 1
          have : ((w : Int) == xs[i].f0 && ((a == xs[i].f1.f0 && (b == xs[i].f1.f1 && (c == xs[i].f1.f2))) && (false == xs[i].f2))) = false := by
            rw [Bool.eq_false_iff] at e2 ⊢; intro e; apply e2; simp only [Bool.and_eq_true, beq_iff_eq] at e ⊢; exact ⟨e.2.1.1.symm, e.2.1.2.1.symm, e.2.1.2.2.symm⟩
          rw [this]; rfl
      | true =>
        refine epos rfl ?_
        simp only [Bool.and_eq_true, beq_iff_eq] at e2
        have E : ∀ f : Bool, ((w : Int) == xs[i].f0 && ((a == xs[i].f1.f0 && (b == xs[i].f1.f1 && (c == xs[i].f1.f2))) && (f == xs[i].f2))) = (f == xs[i].f2) := by
          intro f; simp [e1, e2.1, e2.2.1, e2.2.2]
        rw [E] at hy hx
        cases y <;> cases n <;> cases hf : xs[i].f2 <;> simp only [hf] at hy hx ⊢ <;> refine ih (i + 1) _ _ (by omega) (by simpa using hy) (by simpa using hx)
    · refine eneg e1 (ih (i + 1) y n (by omega) ?_ ?_)
      · rw [← hy]; congr 1
        have : ((w : Int) == xs[i].f0) = false := by simpa using fun e => e1 e.symm
        rw [this]; rfl
      · rw [← hx]; congr 1
        have : ((w : Int) == xs[i].f0) = false := by simpa using fun e => e1 e.symm
        rw [this]; rfl
theorem specRef_l (xs : List S91) (a b c : Int) (hn : xs.length ≤ 1048576) : ∀ (d i : Nat) (out : List Int), i + d = 7 → out.length ≤ i → Ev (fun k => spec_l12Refused.l0 k xs out (i : Int) a b c) (out ++ refF xs a b c d i) := by
  intro d
  induction d with
  | zero =>
    intro i out hi ho
    exact eround (fun k => by rw [spec_l12Refused.l0]) (eneg (by omega) (enow (by simp [refF])))
  | succ d ih =>
    intro i out hi ho
    refine eround (fun k => by rw [spec_l12Refused.l0]) (epos (by omega) ?_)
    refine specRef_l1 xs a b c hn out i (by omega) ho _ ?_ xs.length 0 false false (by omega) (by simp) (by simp)
    simp only [refF]
    rw [← List.append_assoc]
    refine ih (i + 1) _ (by omega) ?_
    rw [List.length_append]
    split <;> simp <;> omega
theorem specRef_e (xs : List S91) (a b c : Int) (hn : xs.length ≤ 1048576) : Ev (fun k => spec_l12Refused.f k xs a b c) (refF xs a b c 7 0) := specRef_l xs a b c hn 7 0 [] (by omega) (by simp)
def ltC (x y : S85) : Prop := x.f0 < y.f0 ∨ x.f0 = y.f0 ∧ (x.f1 < y.f1 ∨ x.f1 = y.f1 ∧ x.f2 < y.f2)
instance (x y : S85) : Decidable (ltC x y) := by unfold ltC; infer_instance
theorem ltC_irr (x : S85) : ¬ ltC x x := by unfold ltC; omega
theorem ltC_tr {x y z : S85} (h : ltC x y) (k : ltC y z) : ltC x z := by unfold ltC at *; omega
theorem ltC_tot {x y : S85} (h : ¬ ltC x y) (k : ¬ ltC y x) : x = y := by
  cases x
  cases y
  unfold ltC at h k
  dsimp only at h k
  simp only [S85.mk.injEq]
  omega
/-- Two lists in order with the same members are one. -/
theorem inC_one : ∀ (a b : List S85), a.Pairwise ltC → b.Pairwise ltC → (∀ x, x ∈ a ↔ x ∈ b) → a = b
  | [], [], _, _, _ => rfl
  | [], y :: b, _, _, h => by have := (h y).2 List.mem_cons_self; cases this
  | x :: a, [], _, _, h => by have := (h x).1 List.mem_cons_self; cases this
  | x :: a, y :: b, ha, hb, h => by
    obtain ⟨ha1, ha2⟩ := List.pairwise_cons.1 ha
    obtain ⟨hb1, hb2⟩ := List.pairwise_cons.1 hb
    have e : x = y := by
      rcases List.mem_cons.1 ((h x).1 List.mem_cons_self) with e | hx
      · exact e
      · rcases List.mem_cons.1 ((h y).2 List.mem_cons_self) with e | hy
        · exact e.symm
        · exact absurd (ltC_tr (ha1 y hy) (hb1 x hx)) (ltC_irr x)
    subst e
    congr 1
    refine inC_one a b ha2 hb2 fun z => ⟨fun hz => ?_, fun hz => ?_⟩
    · rcases List.mem_cons.1 ((h z).1 (List.mem_cons_of_mem _ hz)) with e | h2
      · exact absurd (e ▸ ha1 z hz) (ltC_irr x)
      · exact h2
    · rcases List.mem_cons.1 ((h z).2 (List.mem_cons_of_mem _ hz)) with e | h2
      · exact absurd (e ▸ hb1 z hz) (ltC_irr x)
      · exact h2
/-- A claim comes to its place, once. -/
def insC : List S85 → S85 → List S85
  | [], c => [c]
  | x :: r, c => if ltC x c then x :: insC r c else if x = c then x :: r else c :: x :: r
theorem insC_mem (c z : S85) : ∀ l, z ∈ insC l c ↔ z = c ∨ z ∈ l
  | [] => by simp [insC]
  | x :: r => by
    unfold insC
    split
    · rw [List.mem_cons, insC_mem c z r, List.mem_cons]
      constructor
      · rintro (h | h | h) <;> simp [h]
      · rintro (h | h | h) <;> simp [h]
    · split
      · next e => subst e; simp
      · simp
theorem insC_order (c : S85) : ∀ l : List S85, l.Pairwise ltC → (insC l c).Pairwise ltC
  | [], _ => by simp [insC]
  | x :: r, h => by
    obtain ⟨h1, h2⟩ := List.pairwise_cons.1 h
    unfold insC
    split
    · next hl =>
      refine List.pairwise_cons.2 ⟨fun z hz => ?_, insC_order c r h2⟩
      rcases (insC_mem c z r).1 hz with rfl | hz
      · exact hl
      · exact h1 z hz
    · next hl =>
      split
      · exact h
      · next hne =>
        have hcx : ltC c x := Decidable.byContradiction fun hn => hne (ltC_tot hl hn)
        refine List.pairwise_cons.2 ⟨fun z hz => ?_, h⟩
        rcases List.mem_cons.1 hz with rfl | hz
        · exact hcx
        · exact ltC_tr hcx (h1 z hz)
theorem insC_len (c : S85) : ∀ l, (insC l c).length ≤ l.length + 1
  | [] => by simp [insC]
  | x :: r => by
    have := insC_len c r
    unfold insC
    split
    · simpa using this
    · split <;> simp
def clsC (l : List S91) : List S85 := l.foldl (fun out s => insC out s.f1) []
theorem clsC_fold : ∀ (l : List S91) (out : List S85), out.Pairwise ltC → (l.foldl (fun out s => insC out s.f1) out).Pairwise ltC ∧ (∀ z, z ∈ l.foldl (fun out s => insC out s.f1) out ↔ z ∈ out ∨ ∃ s ∈ l, s.f1 = z) ∧ (l.foldl (fun out s => insC out s.f1) out).length ≤ out.length + l.length
  | [], out, h => ⟨h, fun z => by simp, by simp⟩
  | s :: l, out, h => by
    obtain ⟨h1, h2, h3⟩ := clsC_fold l (insC out s.f1) (insC_order s.f1 out h)
    refine ⟨h1, fun z => ?_, ?_⟩
    · rw [List.foldl_cons, h2 z, insC_mem]
      constructor
      · rintro ((h | h) | ⟨t, ht, h⟩)
        · exact .inr ⟨s, List.mem_cons_self, h.symm⟩
        · exact .inl h
        · exact .inr ⟨t, List.mem_cons_of_mem _ ht, h⟩
      · rintro (h | ⟨t, ht, h⟩)
        · exact .inl (.inr h)
        · rcases List.mem_cons.1 ht with rfl | ht
          · exact .inl (.inl h.symm)
          · exact .inr ⟨t, ht, h⟩
    · have := insC_len s.f1 out
      rw [List.foldl_cons, List.length_cons]
      omega
theorem clsC_in (l : List S91) : (clsC l).Pairwise ltC ∧ (∀ z, z ∈ clsC l ↔ ∃ s ∈ l, s.f1 = z) ∧ (clsC l).length ≤ l.length := by
  obtain ⟨h1, h2, h3⟩ := clsC_fold l [] List.Pairwise.nil
  exact ⟨h1, fun z => by rw [clsC, h2 z]; simp, by rw [clsC]; simpa using h3⟩
/-! the reference's -/
theorem l12Less_eq (x y : S85) : spec_l12Less.f x.f0 x.f1 x.f2 y.f0 y.f1 y.f2 = some (decide (ltC x y)) := by
  have e : ∀ (p : Prop) [Decidable p], (p ↔ ltC x y) → some (decide p) = some (decide (ltC x y)) := fun p _ hp => congrArg some (decide_eq_decide.2 hp)
  unfold spec_l12Less.f
  by_cases h0 : x.f0 = y.f0
  · rw [if_pos h0]
    by_cases h1 : x.f1 = y.f1
    · rw [if_pos h1]
      exact e _ (by unfold ltC; omega)
    · rw [if_neg h1]
      exact e _ (by unfold ltC; omega)
  · rw [if_neg h0]
    exact e _ (by unfold ltC; omega)
theorem specIns_l (out : List S85) (xs : List S91) (n j a : Int) (c : S85) (e : Bool) (hn : out.length ≤ 2097152) {r : List S85} : ∀ (d i : Nat), i + d = out.length →
    Ev (fun k => spec_l12Claims.l0 k (out.take i ++ insC (out.drop i) c) xs n (wrap64 (j + 1))) r → Ev (fun k => spec_l12Claims.l1 k out (i : Int) xs n j a c.f0 c.f1 c.f2 e) r := by
  intro d
  induction d with
  | zero =>
    intro i hi h
    rw [List.drop_eq_nil_of_le (by omega), List.take_of_length_le (by omega)] at h
    refine eround (fun k => by rw [spec_l12Claims.l1]) (eneg (by omega) ?_)
    refine enb rfl (epos (by omega) (epos (by omega) (enb rfl (epos ?_ (enb rfl (epos ?_ (enb rfl (enb rfl (epos ?_ ?_)))))))))
    · simp; omega
    · simp; omega
    · simp; omega
    · have e1 : ([] ++ List.take ((i : Int)).toNat out ++ [(⟨c.f0, c.f1, c.f2⟩ : S85)] ++ List.drop ((i : Int)).toNat out) = out ++ insC [] c := by
        rw [Int.toNat_natCast, List.drop_eq_nil_of_le (by omega), List.take_of_length_le (by omega)]
        simp [insC]
      rw [e1]
      exact h
  | succ d ih =>
    intro i hi h
    have hlt : i < out.length := by omega
    refine eround (fun k => by rw [spec_l12Claims.l1]) (epos (by omega) (epos (by omega) ?_))
    rw [show rd_T85 out (i : Int) = out[i] from getD_get out i _ hlt]
    refine enb (l12Less_eq out[i] c) ?_
    rw [List.drop_eq_getElem_cons hlt] at h
    by_cases hc : ltC out[i] c
    · refine epos (by simpa using hc) ?_
      rw [w64 (by omega) (by omega)]
      refine ih (i + 1) (by omega) ?_
      rw [List.take_succ_eq_append_getElem hlt, List.append_assoc]
      simp only [insC, if_pos hc] at h
      exact h
    · refine eneg (by simpa using hc) ?_
      by_cases he : out[i] = c
      · refine epos (by simp [he]) ?_
        simp only [insC, if_neg hc, if_pos he] at h
        rwa [← List.drop_eq_getElem_cons hlt, List.take_append_drop] at h
      · refine eneg (by simp only [Bool.and_eq_true, beq_iff_eq]; intro hh; exact he (by cases hq : out[i]; cases c; rw [hq] at hh; simp only [S85.mk.injEq]; exact hh)) ?_
        simp only [insC, if_neg hc, if_neg he] at h
        refine enb rfl (epos (by omega) (enb rfl (epos ?_ (enb rfl (epos ?_ (enb rfl (enb rfl (epos ?_ ?_))))))))
        · simp; omega
        · simp; omega
        · simp; omega
        · have e1 : ([] ++ List.take ((i : Int)).toNat out ++ [(⟨c.f0, c.f1, c.f2⟩ : S85)] ++ List.drop ((i : Int)).toNat out) = out.take i ++ c :: out[i] :: out.drop (i + 1) := by
            rw [Int.toNat_natCast, List.drop_eq_getElem_cons hlt]
            simp
          rw [e1]
          exact h
theorem specCls_l (xs : List S91) (hn : xs.length ≤ 1048576) : ∀ (d i : Nat) (out : List S85), i + d = xs.length → out.length ≤ i → Ev (fun k => spec_l12Claims.l0 k out xs (xs.length : Int) (i : Int)) ((xs.drop i).foldl (fun out s => insC out s.f1) out) := by
  intro d
  induction d with
  | zero =>
    intro i out hi ho
    refine eround (fun k => by rw [spec_l12Claims.l0]) (eneg (by omega) (enow ?_))
    rw [List.drop_eq_nil_of_le (by omega)]
    rfl
  | succ d ih =>
    intro i out hi ho
    have hlt : i < xs.length := by omega
    refine eround (fun k => by rw [spec_l12Claims.l0]) (epos (by omega) (epos (by omega) (epos (by omega) ?_)))
    rw [show rd_T91 xs (i : Int) = xs[i] from getD_get xs i _ hlt, List.drop_eq_getElem_cons hlt, List.foldl_cons]
    refine specIns_l out xs (xs.length : Int) (i : Int) xs[i].f0 xs[i].f1 xs[i].f2 (by omega) out.length 0 (by omega) ?_
    rw [List.take_zero, List.drop_zero, List.nil_append, w64 (by omega) (by omega)]
    exact ih (i + 1) (insC out xs[i].f1) (by omega) (by have := insC_len xs[i].f1 out; omega)
theorem specCls_e (xs : List S91) (hn : xs.length ≤ 1048576) : Ev (fun k => spec_l12Claims.f k xs) (clsC xs) := specCls_l xs hn xs.length 0 [] (by omega) (by simp)
/-! the program's -/
theorem ltC_lt (x y : S85) : Go.Proofs.ltOf impl_compareClaims.cf x y = decide (ltC x y) := by
  rw [impl_compareClaims.ltcf]
  exact decide_eq_decide.2 Iff.rfl
def leC (x y : S85) : Prop := ¬ ltC y x
instance (x y : S85) : Decidable (leC x y) := by unfold leC; infer_instance
theorem leC_tr {x y z : S85} (h : leC x y) (k : leC y z) : leC x z := by unfold leC ltC at *; omega
/-- What compacting keeps of a list in order. -/
theorem compC_in (d : List S85) (hd : d.Pairwise leC) : (Lib.compactUpTo d.toArray d.length).Pairwise ltC ∧ ∀ x, x ∈ Lib.compactUpTo d.toArray d.length ↔ x ∈ d := by
  have hg : ∀ i (h : i < d.length), d.toArray[i]! = d[i] := fun i h => by rw [getElem!_pos d.toArray i (by simpa using h)]; simp
  have hle : ∀ i j (h : i < j) (hj : j < d.length), leC d[i] d[j] := fun i j h hj => List.pairwise_iff_getElem.1 hd i j (by omega) hj h
  constructor
  · unfold Lib.compactUpTo
    rw [List.pairwise_map, List.pairwise_filter]
    refine (List.pairwise_lt_range).imp_of_mem ?_
    intro i j hi hj hij ki kj
    rw [List.mem_range] at hi hj
    rw [hg i hi, hg j hj]
    have k2 : d[j] ≠ d[j - 1] := by
      unfold Lib.keeps at kj
      rw [decide_eq_true_eq] at kj
      rcases kj with h | h
      · omega
      · rwa [hg j hj, hg (j - 1) (by omega)] at h
    refine Decidable.byContradiction fun hn => k2 ?_
    have h1 : leC d[j - 1] d[j] := hle (j - 1) j (by omega) hj
    refine ltC_tot ?_ ?_
    · exact h1
    · intro hlt
      have h2 : leC d[i] d[j - 1] := by
        rcases Nat.lt_or_ge i (j - 1) with h | h
        · exact hle i (j - 1) h (by omega)
        · have : i = j - 1 := by omega
          subst this
          exact ltC_irr _
      unfold leC at h2
      unfold ltC at hn hlt h2
      omega
  · intro x
    unfold Lib.compactUpTo
    rw [List.mem_map]
    constructor
    · rintro ⟨i, hi, rfl⟩
      have hi2 := List.mem_range.1 (List.mem_filter.1 hi).1
      rw [hg i hi2]
      exact List.getElem_mem hi2
    · intro hx
      obtain ⟨i, hi, rfl⟩ := List.getElem_of_mem hx
      have key : ∀ n (hn : n < d.length), ∃ j, j ∈ (List.range d.length).filter (Lib.keeps d.toArray) ∧ d.toArray[j]! = d[n] := by
        intro n
        induction n with
        | zero => exact fun hn => ⟨0, List.mem_filter.2 ⟨List.mem_range.2 hn, by simp [Lib.keeps]⟩, hg 0 hn⟩
        | succ n ih =>
          intro hn
          by_cases he : d[n + 1] = d[n]
          · obtain ⟨j, h1, h2⟩ := ih (by omega)
            exact ⟨j, h1, h2.trans he.symm⟩
          · refine ⟨n + 1, List.mem_filter.2 ⟨List.mem_range.2 hn, ?_⟩, hg _ hn⟩
            unfold Lib.keeps
            rw [decide_eq_true_eq, hg _ hn, show n + 1 - 1 = n from rfl, hg n (by omega)]
            exact .inr he
      exact key i hi
theorem sortC_in (d : List S85) : (d.mergeSort slices_SortFunc_201_at_202.le).Pairwise leC := by
  have hle : ∀ x y, slices_SortFunc_201_at_202.le x y = decide (leC x y) := by
    intro x y
    unfold slices_SortFunc_201_at_202.le
    rw [ltC_lt, ← decide_not]
    exact decide_eq_decide.2 Iff.rfl
  have h := List.pairwise_mergeSort (le := slices_SortFunc_201_at_202.le) (fun a b c h1 h2 => by
    rw [hle] at *
    rw [decide_eq_true_eq] at *
    exact leC_tr h1 h2) (fun a b => by
    rw [hle, hle, Bool.or_eq_true, decide_eq_true_eq, decide_eq_true_eq]
    unfold leC ltC
    omega) d
  exact h.imp (fun h => by rw [hle, decide_eq_true_eq] at h; exact h)
theorem sameC (xs : List S91) : Lib.compactUpTo ((xs.map (·.f1)).mergeSort slices_SortFunc_201_at_202.le).toArray ((xs.map (·.f1)).mergeSort slices_SortFunc_201_at_202.le).length = clsC xs := by
  obtain ⟨h1, h2⟩ := compC_in _ (sortC_in (xs.map (·.f1)))
  obtain ⟨g1, g2, _⟩ := clsC_in xs
  refine inC_one _ _ h1 g1 fun x => ?_
  rw [h2, g2, List.mem_mergeSort, List.mem_map]
theorem implCls_l (xs : List S91) (hn : xs.length ≤ 1048576) : ∀ (d i : Nat), i + d = xs.length → Ev (fun k => impl_claimsIn.l0 k ((xs.take i).map (·.f1)) xs (xs.length : Int) (i : Int)) (clsC xs) := by
  intro d
  induction d with
  | zero =>
    intro i hi
    refine eround (fun k => by rw [impl_claimsIn.l0]) (eneg (by omega) ?_)
    rw [List.take_of_length_le (by omega)]
    have e1 : slices_SortFunc_201_at_202.f (xs.map (·.f1)) = some ((xs.map (·.f1)).mergeSort slices_SortFunc_201_at_202.le) := by
      unfold slices_SortFunc_201_at_202.f
      rw [if_pos (by simp; omega)]
    refine enb e1 (enb (a := clsC xs) ?_ (enow rfl))
    unfold impl_Claim_203.f
    rw [sameC]
  | succ d ih =>
    intro i hi
    have hlt : i < xs.length := by omega
    refine eround (fun k => by rw [impl_claimsIn.l0]) (epos (by omega) (epos (by omega) (epos (by omega) (epos (by simp; omega) ?_))))
    rw [show rd_T91 xs (i : Int) = xs[i] from getD_get xs i _ hlt, w64 (by omega) (by omega)]
    have e1 : (xs.take i).map (·.f1) ++ [(⟨xs[i].f1.f0, xs[i].f1.f1, xs[i].f1.f2⟩ : S85)] = (xs.take (i + 1)).map (·.f1) := by
      rw [List.take_succ_eq_append_getElem hlt, List.map_append]
      rfl
    rw [e1]
    exact ih (i + 1) (by omega)
theorem implCls_e (xs : List S91) (hn : xs.length ≤ 1048576) : Ev (fun k => impl_claimsIn.f k xs) (clsC xs) := implCls_l xs hn xs.length 0 (by omega)
def owes (f : Int) (xs : List S91) (h : Int) (c : S85) : Bool := decide (c.f0 = h) && decide (((refF xs c.f0 c.f1 c.f2 7 0).length : Int) > f)
def debF (f : Int) (xs : List S91) (h : Int) : List S85 := (clsC xs).filter (owes f xs h)
theorem debF_len (f : Int) (xs : List S91) (h : Int) : (debF f xs h).length ≤ xs.length := Nat.le_trans (List.length_filter_le _ _) (clsC_in xs).2.2
theorem specDeb_l (f : Int) (xs : List S91) (h : Int) (hn : xs.length ≤ 1048576) (cs : List S85) (hc : cs.length ≤ 1048576) : ∀ (d i : Nat) (out : List S85), i + d = cs.length → out.length ≤ i → Ev (fun k => spec_l14Debits.l0 k f xs h out cs (cs.length : Int) (i : Int)) (out ++ (cs.drop i).filter (owes f xs h)) := by
  intro d
  induction d with
  | zero =>
    intro i out hi ho
    refine eround (fun k => by rw [spec_l14Debits.l0]) (eneg (by omega) (enow ?_))
    rw [List.drop_eq_nil_of_le (by omega)]
    simp
  | succ d ih =>
    intro i out hi ho
    have hlt : i < cs.length := by omega
    refine eround (fun k => by rw [spec_l14Debits.l0]) (epos (by omega) (epos (by omega) (epos (by omega) ?_)))
    rw [show rd_T85 cs (i : Int) = cs[i] from getD_get cs i _ hlt, List.drop_eq_getElem_cons hlt, List.filter_cons, w64 (by omega) (by omega)]
    have hskip := ih (i + 1) out (by omega) (by omega)
    have htake := ih (i + 1) (out ++ [cs[i]]) (by omega) (by rw [List.length_append, List.length_singleton]; omega)
    rw [List.append_assoc, List.singleton_append] at htake
    by_cases h0 : cs[i].f0 = h
    · refine epos h0 (ebind (specRef_e xs cs[i].f0 cs[i].f1 cs[i].f2 hn) ?_)
      by_cases h1 : ((refF xs cs[i].f0 cs[i].f1 cs[i].f2 7 0).length : Int) > f
      · refine epos h1 (epos (by omega) ?_)
        rw [if_pos (show owes f xs h cs[i] = true by unfold owes; rw [decide_eq_true h0, decide_eq_true h1]; rfl)]
        exact htake
      · refine eneg h1 ?_
        rw [if_neg (show ¬ owes f xs h cs[i] = true by unfold owes; rw [decide_eq_false h1, Bool.and_false]; decide)]
        exact hskip
    · refine eneg h0 ?_
      rw [if_neg (show ¬ owes f xs h cs[i] = true by unfold owes; rw [decide_eq_false h0, Bool.false_and]; decide)]
      exact hskip
theorem specDeb_e (f : Int) (xs : List S91) (h : Int) (hn : xs.length ≤ 1048576) : Ev (fun k => spec_l14Debits.f k f xs h) (debF f xs h) := by
  unfold spec_l14Debits.f
  have hc : (clsC xs).length ≤ 1048576 := Nat.le_trans (clsC_in xs).2.2 hn
  refine ebind (specCls_e xs hn) ?_
  exact specDeb_l f xs h hn (clsC xs) hc (clsC xs).length 0 [] (by omega) (by simp)
theorem implDeb_l (f : Int) (xs : List S91) (h : Int) (hn : xs.length ≤ 1048576) (cs : List S85) (hc : cs.length ≤ 1048576) : ∀ (d i : Nat) (out : List S85), i + d = cs.length → out.length ≤ i → Ev (fun k => impl_debits.l0 k f xs h out cs (cs.length : Int) (i : Int)) (out ++ (cs.drop i).filter (owes f xs h)) := by
  intro d
  induction d with
  | zero =>
    intro i out hi ho
    refine eround (fun k => by rw [impl_debits.l0]) (eneg (by omega) (enow ?_))
    rw [List.drop_eq_nil_of_le (by omega)]
    simp
  | succ d ih =>
    intro i out hi ho
    have hlt : i < cs.length := by omega
    refine eround (fun k => by rw [impl_debits.l0]) (epos (by omega) (epos (by omega) (epos (by omega) ?_)))
    rw [show rd_T85 cs (i : Int) = cs[i] from getD_get cs i _ hlt, List.drop_eq_getElem_cons hlt, List.filter_cons, w64 (by omega) (by omega)]
    have hskip := ih (i + 1) out (by omega) (by omega)
    have htake := ih (i + 1) (out ++ [cs[i]]) (by omega) (by rw [List.length_append, List.length_singleton]; omega)
    rw [List.append_assoc, List.singleton_append] at htake
    by_cases h0 : cs[i].f0 = h
    · refine epos h0 (ebind (implRef_e xs cs[i].f0 cs[i].f1 cs[i].f2 hn) ?_)
      by_cases h1 : ((refF xs cs[i].f0 cs[i].f1 cs[i].f2 7 0).length : Int) > f
      · refine epos h1 (epos (by omega) ?_)
        rw [if_pos (show owes f xs h cs[i] = true by unfold owes; rw [decide_eq_true h0, decide_eq_true h1]; rfl)]
        exact htake
      · refine eneg h1 ?_
        rw [if_neg (show ¬ owes f xs h cs[i] = true by unfold owes; rw [decide_eq_false h1, Bool.and_false]; decide)]
        exact hskip
    · refine eneg h0 ?_
      rw [if_neg (show ¬ owes f xs h cs[i] = true by unfold owes; rw [decide_eq_false h0, Bool.false_and]; decide)]
      exact hskip
theorem implDeb_e (f : Int) (xs : List S91) (h : Int) (hn : xs.length ≤ 1048576) : Ev (fun k => impl_debits.f k f xs h) (debF f xs h) := by
  unfold impl_debits.f
  have hc : (clsC xs).length ≤ 1048576 := Nat.le_trans (clsC_in xs).2.2 hn
  refine ebind (implCls_e xs hn) ?_
  exact implDeb_l f xs h hn (clsC xs) hc (clsC xs).length 0 [] (by omega) (by simp)
def sameK (a b c : Int) (x : S85) : Bool := x.f0 == a && (x.f1 == b && x.f2 == c)
theorem specHC_l (cs : List S85) (a b c : Int) (hn : cs.length ≤ 1048576) : ∀ (d i : Nat), i + d = cs.length → Ev (fun k => spec_l14HasClaim.l0 k cs (cs.length : Int) (i : Int) a b c) ((cs.drop i).any (sameK a b c)) := by
  intro d
  induction d with
  | zero =>
    intro i hi
    refine eround (fun k => by rw [spec_l14HasClaim.l0]) (eneg (by omega) (enow ?_))
    rw [List.drop_eq_nil_of_le (by omega)]
    rfl
  | succ d ih =>
    intro i hi
    have hlt : i < cs.length := by omega
    refine eround (fun k => by rw [spec_l14HasClaim.l0]) (epos (by omega) (epos (by omega) (epos (by omega) ?_)))
    rw [show rd_T85 cs (i : Int) = cs[i] from getD_get cs i _ hlt, List.drop_eq_getElem_cons hlt, List.any_cons, w64 (by omega) (by omega)]
    by_cases h : sameK a b c cs[i] = true
    · refine epos h (enow ?_)
      rw [h, Bool.true_or]
    · refine eneg h ?_
      rw [Bool.eq_false_iff.2 h, Bool.false_or]
      exact ih (i + 1) (by omega)
theorem specHC_e (cs : List S85) (a b c : Int) (hn : cs.length ≤ 1048576) : Ev (fun k => spec_l14HasClaim.f k cs a b c) (cs.any (sameK a b c)) := specHC_l cs a b c hn cs.length 0 (by omega)
theorem implIC_l (cs : List S85) (a b c : Int) (hn : cs.length ≤ 1048576) : ∀ (d i : Nat), i + d = cs.length → ∃ r, Ev (fun k => impl_Claim_209.l0 k cs (cs.length : Int) (i : Int) a b c) r ∧ (r ≥ 0 ↔ (cs.drop i).any (sameK a b c) = true) := by
  intro d
  induction d with
  | zero =>
    intro i hi
    refine ⟨-1, eround (fun k => by rw [impl_Claim_209.l0]) (eneg (by omega) (enow rfl)), ?_⟩
    rw [List.drop_eq_nil_of_le (by omega)]
    simp
  | succ d ih =>
    intro i hi
    have hlt : i < cs.length := by omega
    have hs : (a == cs[i].f0 && (b == cs[i].f1 && c == cs[i].f2)) = sameK a b c cs[i] := by
      unfold sameK
      rw [Bool.beq_comm, @Bool.beq_comm _ _ _ b, @Bool.beq_comm _ _ _ c]
    obtain ⟨r, h1, h2⟩ := ih (i + 1) (by omega)
    rw [List.drop_eq_getElem_cons hlt, List.any_cons]
    by_cases h : sameK a b c cs[i] = true
    · refine ⟨(i : Int), eround (fun k => by rw [impl_Claim_209.l0]) (epos (by omega) (epos (by omega) (epos (by omega) ?_))), ?_⟩
      · rw [show rd_T85 cs (i : Int) = cs[i] from getD_get cs i _ hlt, hs]
        exact epos h (enow rfl)
      · rw [h]
        simp
    · refine ⟨r, eround (fun k => by rw [impl_Claim_209.l0]) (epos (by omega) (epos (by omega) (epos (by omega) ?_))), ?_⟩
      · rw [show rd_T85 cs (i : Int) = cs[i] from getD_get cs i _ hlt, hs, w64 (by omega) (by omega)]
        exact eneg h h1
      · rw [Bool.eq_false_iff.2 h, Bool.false_or]
        exact h2
theorem implHC_e (cs : List S85) (a b c : Int) (hn : cs.length ≤ 1048576) : Ev (fun k => impl_Claim_160.f k cs a b c) (cs.any (sameK a b c)) := by
  obtain ⟨r, h1, h2⟩ := implIC_l cs a b c hn cs.length 0 (by omega)
  unfold impl_Claim_160.f
  refine ebind (f := fun _ t => some (decide (t ≥ 0))) h1 (enow ?_)
  rw [List.drop_zero] at h2
  rw [Bool.eq_iff_iff, decide_eq_true_eq]
  exact h2
/-- Does the claim at place i count for hand h? -/
def counts (done bad : List S85) (h : Int) (i : Nat) (c : S85) : Bool := decide (c.f0 = h) && !(done.take i).any (sameK c.f0 c.f1 c.f2) && !bad.any (sameK c.f0 c.f1 c.f2)
def cntF (done bad : List S85) (h : Int) : Nat → Nat → Int → Int
  | 0, _, g => g
  | d + 1, i, g => match done[i]? with
    | some c => cntF done bad h d (i + 1) (if counts done bad h i c then g + 1 else g)
    | none => g
theorem cntF_in (done bad : List S85) (h : Int) : ∀ d i g, g ≤ cntF done bad h d i g ∧ cntF done bad h d i g ≤ g + d
  | 0, i, g => by simp [cntF]
  | d + 1, i, g => by
    unfold cntF
    split
    · next c _ =>
      have h1 := cntF_in done bad h d (i + 1) (g + 1)
      have h2 := cntF_in done bad h d (i + 1) g
      cases counts done bad h i c with
      | true => simp only [if_true]; omega
      | false => simp only [Bool.false_eq_true, if_false]; omega
    · omega
def tlF (f : Int) (done : List S85) (xs : List S91) : Nat → Nat → List S110
  | 0, _ => []
  | d + 1, h => ⟨(h : Int), cntF done (debF f xs (h : Int)) (h : Int) done.length 0 0, ((debF f xs (h : Int)).length : Int)⟩ :: tlF f done xs d (h + 1)
theorem tlF_len (f : Int) (done : List S85) (xs : List S91) : ∀ d h, (tlF f done xs d h).length = d
  | 0, _ => rfl
  | d + 1, h => by rw [tlF, List.length_cons, tlF_len f done xs d (h + 1)]
theorem specCnt_l (hands f : Int) (done : List S85) (xs : List S91) (out : List S110) (h : Int) (bad : List S85) (hn : done.length ≤ 1048576) (hb : bad.length ≤ 1048576) (ho : out.length ≤ 1048576) {r : List S110 × Bool} : ∀ (d i : Nat) (g : Int), i + d = done.length → 0 ≤ g → g ≤ i →
    Ev (fun k => spec_TallyOf.l1 k hands f done xs (out ++ [(⟨h, cntF done bad h d i g, (bad.length : Int)⟩ : S110)]) (wrap64 (h + 1))) r → Ev (fun k => spec_TallyOf.l2 k hands f done xs out h bad done (done.length : Int) (i : Int) h g (bad.length : Int)) r := by
  intro d
  induction d with
  | zero =>
    intro i g hi h0 h1 hr
    refine eround (fun k => by rw [spec_TallyOf.l2]) (eneg (by omega) (epos (by omega) ?_))
    exact hr
  | succ d ih =>
    intro i g hi h0 h1 hr
    have hlt : i < done.length := by omega
    refine eround (fun k => by rw [spec_TallyOf.l2]) (epos (by omega) (epos (by omega) (epos (by omega) ?_)))
    rw [show rd_T85 done (i : Int) = done[i] from getD_get done i _ hlt, w64 (x := (i : Int) + 1) (by omega) (by omega)]
    have hc : cntF done bad h (d + 1) i g = cntF done bad h d (i + 1) (if counts done bad h i done[i] then g + 1 else g) := by
      rw [cntF, List.getElem?_eq_getElem hlt]
    rw [hc] at hr
    have hno : counts done bad h i done[i] = false → Ev (fun k => spec_TallyOf.l2 k hands f done xs out h bad done (done.length : Int) ((i : Int) + 1) h g (bad.length : Int)) r := by
      intro e
      rw [e] at hr
      exact ih (i + 1) g (by omega) h0 (by omega) hr
    by_cases c0 : done[i].f0 = h
    · refine epos c0 (epos (by omega) (ebind (specHC_e _ _ _ _ (by rw [List.length_take]; omega)) ?_))
      rw [Int.toNat_natCast]
      cases c1 : (done.take i).any (sameK done[i].f0 done[i].f1 done[i].f2) with
      | true => exact epos rfl (hno (by unfold counts; rw [c1]; simp))
      | false =>
        refine eneg (by decide) (ebind (specHC_e bad _ _ _ hb) ?_)
        cases c2 : bad.any (sameK done[i].f0 done[i].f1 done[i].f2) with
        | true => exact epos rfl (hno (by unfold counts; rw [c2]; simp))
        | false =>
          refine eneg (by decide) ?_
          rw [w64 (x := g + 1) (by omega) (by omega)]
          rw [show counts done bad h i done[i] = true by unfold counts; rw [c1, c2, decide_eq_true c0]; rfl] at hr
          exact ih (i + 1) (g + 1) (by omega) (by omega) (by omega) hr
    · exact eneg c0 (hno (by unfold counts; rw [decide_eq_false c0]; rfl))
theorem implCnt_l (f : Int) (done : List S85) (xs : List S91) (out : List S110) (h m : Int) (bad : List S85) (hn : done.length ≤ 1048576) (hb : bad.length ≤ 1048576) (ho : out.length ≤ 1048576) {r : List S110 × Bool} : ∀ (d i : Nat) (g : Int), i + d = done.length → 0 ≤ g → g ≤ i →
    Ev (fun k => impl_TallyOf.l0 k f done xs (out ++ [(⟨h, cntF done bad h d i g, (bad.length : Int)⟩ : S110)]) m (wrap64 (h + 1))) r → Ev (fun k => impl_TallyOf.l1 k f done xs out h bad g m h done (done.length : Int) (i : Int)) r := by
  intro d
  induction d with
  | zero =>
    intro i g hi h0 h1 hr
    refine eround (fun k => by rw [impl_TallyOf.l1]) (eneg (by omega) (epos (by omega) ?_))
    exact hr
  | succ d ih =>
    intro i g hi h0 h1 hr
    have hlt : i < done.length := by omega
    refine eround (fun k => by rw [impl_TallyOf.l1]) (epos (by omega) (epos (by omega) (epos (by omega) ?_)))
    rw [show rd_T85 done (i : Int) = done[i] from getD_get done i _ hlt, w64 (x := (i : Int) + 1) (by omega) (by omega)]
    have hc : cntF done bad h (d + 1) i g = cntF done bad h d (i + 1) (if counts done bad h i done[i] then g + 1 else g) := by
      rw [cntF, List.getElem?_eq_getElem hlt]
    rw [hc] at hr
    have hno : counts done bad h i done[i] = false → Ev (fun k => impl_TallyOf.l1 k f done xs out h bad g m h done (done.length : Int) ((i : Int) + 1)) r := by
      intro e
      rw [e] at hr
      exact ih (i + 1) g (by omega) h0 (by omega) hr
    by_cases c0 : done[i].f0 = h
    · refine epos c0 (epos (by omega) (ebind (implHC_e _ _ _ _ (by rw [List.length_take]; omega)) ?_))
      rw [Int.toNat_natCast]
      cases c1 : (done.take i).any (sameK done[i].f0 done[i].f1 done[i].f2) with
      | true => exact epos rfl (hno (by unfold counts; rw [c1]; simp))
      | false =>
        refine eneg (by decide) (ebind (implHC_e bad _ _ _ hb) ?_)
        cases c2 : bad.any (sameK done[i].f0 done[i].f1 done[i].f2) with
        | true => exact epos rfl (hno (by unfold counts; rw [c2]; simp))
        | false =>
          refine eneg (by decide) ?_
          rw [w64 (x := g + 1) (by omega) (by omega)]
          rw [show counts done bad h i done[i] = true by unfold counts; rw [c1, c2, decide_eq_true c0]; rfl] at hr
          exact ih (i + 1) (g + 1) (by omega) (by omega) (by omega) hr
    · exact eneg c0 (hno (by unfold counts; rw [decide_eq_false c0]; rfl))
theorem specTl_l (f : Int) (done : List S85) (xs : List S91) (hn : done.length ≤ 1048576) (hx : xs.length ≤ 1048576) (hands : Nat) (hh : hands ≤ 12) : ∀ (d h : Nat) (out : List S110), h + d = hands → out.length = h → Ev (fun k => spec_TallyOf.l1 k (hands : Int) f done xs out (h : Int)) (out ++ tlF f done xs d h, true) := by
  intro d
  induction d with
  | zero =>
    intro h out hi ho
    refine eround (fun k => by rw [spec_TallyOf.l1]) (eneg (by omega) (enow ?_))
    simp [tlF]
  | succ d ih =>
    intro h out hi ho
    refine eround (fun k => by rw [spec_TallyOf.l1]) (epos (by omega) (ebind (specDeb_e f xs (h : Int) hx) ?_))
    have hb : (debF f xs (h : Int)).length ≤ 1048576 := Nat.le_trans (debF_len f xs _) hx
    refine specCnt_l (hands : Int) f done xs out (h : Int) (debF f xs (h : Int)) hn hb (by omega) done.length 0 0 (by omega) (by omega) (by omega) ?_
    rw [w64 (by omega) (by omega)]
    have := ih (h + 1) (out ++ [⟨(h : Int), cntF done (debF f xs (h : Int)) (h : Int) done.length 0 0, ((debF f xs (h : Int)).length : Int)⟩]) (by omega) (by simp [ho])
    rw [List.append_assoc, List.singleton_append] at this
    rw [tlF]
    exact this
theorem implTl_l (f : Int) (done : List S85) (xs : List S91) (hn : done.length ≤ 1048576) (hx : xs.length ≤ 1048576) (hands : Nat) (hh : hands ≤ 12) : ∀ (d h : Nat) (out : List S110), h + d = hands → out.length = h → Ev (fun k => impl_TallyOf.l0 k f done xs out (hands : Int) (h : Int)) (out ++ tlF f done xs d h, true) := by
  intro d
  induction d with
  | zero =>
    intro h out hi ho
    refine eround (fun k => by rw [impl_TallyOf.l0]) (eneg (by omega) (enow ?_))
    simp [tlF]
  | succ d ih =>
    intro h out hi ho
    refine eround (fun k => by rw [impl_TallyOf.l0]) (epos (by omega) (ebind (implDeb_e f xs (h : Int) hx) ?_))
    have hb : (debF f xs (h : Int)).length ≤ 1048576 := Nat.le_trans (debF_len f xs _) hx
    refine implCnt_l f done xs out (h : Int) (hands : Int) (debF f xs (h : Int)) hn hb (by omega) done.length 0 0 (by omega) (by omega) (by omega) ?_
    rw [w64 (by omega) (by omega)]
    have := ih (h + 1) (out ++ [⟨(h : Int), cntF done (debF f xs (h : Int)) (h : Int) done.length 0 0, ((debF f xs (h : Int)).length : Int)⟩]) (by omega) (by simp [ho])
    rw [List.append_assoc, List.singleton_append] at this
    rw [tlF]
    exact this
def goodCl (c : S85) : Bool := goodC c.f0 c.f1 c.f2
theorem badCl_eq (x : S85) : impl_TallyOf_1.f x.f0 x.f1 x.f2 = some (!goodCl x) := by
  unfold impl_TallyOf_1.f
  rw [implGC_eq]
  rfl
theorem ixCl_l (xs : List S85) (hn : xs.length ≤ 1048576) : ∀ (d i : Nat), i + d = xs.length → ∃ r : Int, Ev (fun k => slices_IndexFunc_208_at_159.l0 k xs (xs.length : Int) (i : Int)) r ∧ -1 ≤ r ∧ r < (xs.length : Int) ∧ (r ≥ 0 ↔ (xs.drop i).any (fun x => !goodCl x) = true) := by
  intro d
  induction d with
  | zero =>
    intro i hi
    refine ⟨-1, eround (fun k => by rw [slices_IndexFunc_208_at_159.l0]) (eneg (by omega) (enow rfl)), by omega, by omega, ?_⟩
    rw [List.drop_eq_nil_of_le (by omega)]; simp
  | succ d ih =>
    intro i hi
    have hlt : i < xs.length := by omega
    obtain ⟨r, h1, h2, h2', h3⟩ := ih (i + 1) (by omega)
    rw [List.drop_eq_getElem_cons hlt, List.any_cons]
    cases h : (fun x : S85 => !goodCl x) xs[i] with
    | true =>
      refine ⟨(i : Int), eround (fun k => by rw [slices_IndexFunc_208_at_159.l0]) (epos (by omega) (epos (by omega) (epos (by omega) ?_))), by omega, by omega, ⟨fun _ => by rw [show (!goodCl xs[i]) = true from h]; rfl, fun _ => by omega⟩⟩
      rw [show rd_T85 xs (i : Int) = xs[i] from getD_get xs i _ hlt]
      exact enb (badCl_eq _) (epos h (enow rfl))
    | false =>
      refine ⟨r, eround (fun k => by rw [slices_IndexFunc_208_at_159.l0]) (epos (by omega) (epos (by omega) (epos (by omega) ?_))), h2, h2', by rw [show (!goodCl xs[i]) = false from h, Bool.false_or]; exact h3⟩
      rw [show rd_T85 xs (i : Int) = xs[i] from getD_get xs i _ hlt]
      refine enb (badCl_eq _) (eneg (by rw [show (!goodCl xs[i]) = false from h]; decide) ?_)
      rw [w64 (by omega) (by omega)]
      exact h1
theorem ixCl_e (xs : List S85) (hn : xs.length ≤ 1048576) : ∃ r : Int, Ev (fun k => slices_IndexFunc_208_at_159.f k xs) r ∧ -1 ≤ r ∧ r < (xs.length : Int) ∧ (r ≥ 0 ↔ xs.any (fun x => !goodCl x) = true) := ixCl_l xs hn xs.length 0 (by omega)
def tlR (hands f : Int) (done : List S85) (xs : List S91) : List S110 × Bool := if inR 1 12 hands && (inR 0 2 f && (decide ((done.length : Int) ≤ 60) && (goodSts xs && done.all goodCl))) then (tlF f done xs hands.toNat 0, true) else ([], false)
theorem inR_12 {h : Int} (e : inR 1 12 h = true) : ∃ n : Nat, h = n ∧ n ≤ 12 := by
  unfold inR at e
  rw [Bool.and_eq_true, decide_eq_true_eq, decide_eq_true_eq] at e
  exact ⟨h.toNat, by omega, by omega⟩
theorem tlR_len (hands f : Int) (done : List S85) (xs : List S91) : (tlR hands f done xs).1.length ≤ 12 := by
  unfold tlR
  split
  · next e =>
    obtain ⟨n, rfl, hn⟩ := inR_12 (Bool.and_eq_true .. ▸ e : _ ∧ _).1
    rw [tlF_len]
    omega
  · simp
theorem specTO_g (hands f : Int) (done : List S85) (xs : List S91) (hn : done.length ≤ 1048576) {r : List S110 × Bool} : ∀ (d i : Nat), i + d = done.length → Ev (fun k => if (done.drop i).all goodCl = true then spec_TallyOf.l1 k hands f done xs [] 0 else some ([], false)) r → Ev (fun k => spec_TallyOf.l0 k hands f done xs done (done.length : Int) (i : Int)) r := by
  intro d
  induction d with
  | zero =>
    intro i hi hr
    rw [List.drop_eq_nil_of_le (by omega)] at hr
    refine eround (fun k => by rw [spec_TallyOf.l0]) (eneg (by omega) ?_)
    simpa using hr
  | succ d ih =>
    intro i hi hr
    have hlt : i < done.length := by omega
    refine eround (fun k => by rw [spec_TallyOf.l0]) (epos (by omega) (epos (by omega) (epos (by omega) ?_)))
    rw [show rd_T85 done (i : Int) = done[i] from getD_get done i _ hlt, w64 (by omega) (by omega)]
    rw [List.drop_eq_getElem_cons hlt, List.all_cons] at hr
    refine enb (specGC_eq _ _ _) ?_
    cases h : goodC done[i].f0 done[i].f1 done[i].f2 with
    | true =>
      refine epos rfl (ih (i + 1) (by omega) ?_)
      rw [show goodCl done[i] = true from h, Bool.true_and] at hr
      exact hr
    | false =>
      refine eneg (by decide) ?_
      rw [show goodCl done[i] = false from h, Bool.false_and] at hr
      simpa using hr
theorem specTO_e (hands f : Int) (done : List S85) (xs : List S91) (hn : done.length ≤ 1048576) (hx : xs.length ≤ 1048576) : Ev (fun k => spec_TallyOf.f k hands f done xs) (tlR hands f done xs) := by
  have hj : Ev (fun k => spec_TallyOf.j0 k hands f done xs true) (([], false) : List S110 × Bool) := eround (fun k => by rw [spec_TallyOf.j0]) (epos rfl (enow rfl))
  unfold spec_TallyOf.f tlR
  refine enb (l1In_eq _ _ _) ?_
  cases h0 : inR 1 12 hands with
  | false => exact eneg (by decide) (by simpa using hj)
  | true =>
    refine epos rfl (enb (l1In_eq _ _ _) ?_)
    cases h1 : inR 0 2 f with
    | false => exact eneg (by decide) (by simpa using hj)
    | true =>
      refine epos rfl ?_
      by_cases h2 : (done.length : Int) ≤ 60
      · refine eneg (by omega) (ebind (specG12_e xs hx) ?_)
        rw [decide_eq_true h2]
        cases h3 : goodSts xs with
        | false => simpa using hj
        | true =>
          refine eround (fun k => by rw [spec_TallyOf.j0]) (eneg (by decide) ?_)
          refine specTO_g hands f done xs hn done.length 0 (by omega) ?_
          rw [List.drop_zero]
          cases h4 : done.all goodCl with
          | false => exact eneg (by decide) (enow (by simp))
          | true =>
            refine epos rfl ?_
            obtain ⟨n, rfl, hn12⟩ := inR_12 h0
            have := specTl_l f done xs hn hx n hn12 n 0 [] (by omega) rfl
            simpa using this
      · refine epos (by omega) ?_
        rw [decide_eq_false h2]
        simpa using hj
theorem implTO_e (hands f : Int) (done : List S85) (xs : List S91) (hn : done.length ≤ 1048576) (hx : xs.length ≤ 1048576) : Ev (fun k => impl_TallyOf.f k hands f done xs) (tlR hands f done xs) := by
  have hj : Ev (fun k => impl_TallyOf.j0 k hands f done xs true) (([], false) : List S110 × Bool) := eround (fun k => by rw [impl_TallyOf.j0]) (epos rfl (enow rfl))
  unfold impl_TallyOf.f tlR
  refine enb (within_eq _ _ _) ?_
  cases h0 : inR 1 12 hands with
  | false => exact eneg (by decide) (by simpa using hj)
  | true =>
    refine epos rfl (enb (a := inR 0 2 f) (by unfold impl_areFaults.f; rw [within_eq]; rfl) ?_)
    cases h1 : inR 0 2 f with
    | false => exact eneg (by decide) (by simpa using hj)
    | true =>
      refine epos rfl ?_
      by_cases h2 : (done.length : Int) ≤ 60
      · refine eneg (by omega) ?_
        rw [decide_eq_true h2]
        obtain ⟨q, q1, _, _, q3⟩ := ixCl_e done hn
        refine ebind (f := fun k t => if t = true then impl_TallyOf.j0 k hands f done xs true else (impl_areStatements.f k xs).bind fun t322 => impl_TallyOf.j0 k hands f done xs (!t322)) (a := decide (q ≥ 0)) (ebind (f := fun _ t => some (decide (t ≥ 0))) q1 (enow rfl)) ?_
        by_cases hq : q ≥ 0
        · refine epos (decide_eq_true hq) ?_
          have h4 : done.all goodCl = false := by
            rw [List.all_eq_false]
            obtain ⟨x, hx1, hx2⟩ := List.any_eq_true.1 (q3.1 hq)
            exact ⟨x, hx1, by simpa using hx2⟩
          rw [h4]
          simpa using hj
        · refine eneg (by simpa using hq) (ebind (implG12_e xs hx) ?_)
          have h4 : done.all goodCl = true := by
            rw [List.all_eq_true]
            intro x hx1
            refine Decidable.byContradiction fun hx2 => hq (q3.2 (List.any_eq_true.2 ⟨x, hx1, by simpa using hx2⟩))
          rw [h4]
          cases h3 : goodSts xs with
          | false => simpa using hj
          | true =>
            refine eround (fun k => by rw [impl_TallyOf.j0]) (eneg (by decide) ?_)
            obtain ⟨n, rfl, hn12⟩ := inR_12 h0
            have := implTl_l f done xs hn hx n hn12 n 0 [] (by omega) rfl
            simpa using this
      · refine epos (by omega) ?_
        rw [decide_eq_false h2]
        simpa using hj
theorem hasS_mem (xs : List S91) (h a b c : Int) (f : Bool) : hasS xs h a b c f = true ↔ (⟨h, ⟨a, b, c⟩, f⟩ : S91) ∈ xs := by
  unfold hasS
  rw [List.any_eq_true]
  constructor
  · rintro ⟨⟨h', ⟨a', b', c'⟩, f'⟩, hx, e⟩
    simp only [Bool.and_eq_true, beq_iff_eq] at e
    obtain ⟨e1, ⟨e2, e3, e4⟩, e5⟩ := e
    rw [e1, e2, e3, e4, e5]
    exact hx
  · intro hx
    exact ⟨_, hx, by simp⟩
theorem hasS_same {xs ys : List S91} (H : ∀ z, z ∈ xs ↔ z ∈ ys) (h a b c : Int) (f : Bool) : hasS xs h a b c f = hasS ys h a b c f := by
  rw [Bool.eq_iff_iff, hasS_mem, hasS_mem]
  exact H _
theorem refF_same {xs ys : List S91} (H : ∀ z, z ∈ xs ↔ z ∈ ys) (a b c : Int) : ∀ d i, refF xs a b c d i = refF ys a b c d i
  | 0, _ => rfl
  | d + 1, i => by
    simp only [refF]
    rw [hasS_same H, hasS_same H, refF_same H a b c d (i + 1)]
theorem clsC_same {xs ys : List S91} (H : ∀ z, z ∈ xs ↔ z ∈ ys) : clsC xs = clsC ys := by
  obtain ⟨h1, h2, _⟩ := clsC_in xs
  obtain ⟨k1, k2, _⟩ := clsC_in ys
  refine inC_one _ _ h1 k1 fun z => ?_
  rw [h2, k2]
  exact ⟨fun ⟨s, hs, e⟩ => ⟨s, (H s).1 hs, e⟩, fun ⟨s, hs, e⟩ => ⟨s, (H s).2 hs, e⟩⟩
theorem clsC_good {xs : List S91} (g : goodSts xs = true) {z : S85} (hz : z ∈ clsC xs) : goodC z.f0 z.f1 z.f2 = true := by
  obtain ⟨s, hs, rfl⟩ := ((clsC_in xs).2.1 z).1 hz
  unfold goodSts at g
  rw [Bool.and_eq_true, List.all_eq_true] at g
  have := g.1 s hs
  unfold goodSt at this
  rw [Bool.and_eq_true] at this
  exact this.2
theorem goodSts_same {xs ys : List S91} (H : ∀ z, z ∈ xs ↔ z ∈ ys) (hl : ys.length ≤ 60) (g : goodSts xs = true) : goodSts ys = true := by
  unfold goodSts at *
  rw [Bool.and_eq_true, List.all_eq_true] at *
  exact ⟨fun z hz => g.1 z ((H z).2 hz), decide_eq_true (by omega)⟩
theorem goodSts_len {xs : List S91} (g : goodSts xs = true) : xs.length ≤ 60 := by
  unfold goodSts at g
  rw [Bool.and_eq_true, decide_eq_true_eq] at g
  omega
/-- all elements, each with its place, from place i on -/
def allI {α : Type} (p : Nat → α → Bool) : Nat → List α → Bool
  | _, [] => true
  | i, x :: xs => p i x && allI p (i + 1) xs
theorem allI_congr {α : Type} {p q : Nat → α → Bool} : ∀ (xs : List α) (i : Nat), (∀ j x, i ≤ j → j < i + xs.length → p j x = q j x) → allI p i xs = allI q i xs
  | [], _, _ => rfl
  | x :: xs, i, h => by
    simp only [allI]
    rw [h i x (Nat.le_refl _) (by simp), allI_congr xs (i + 1) (fun j y h1 h2 => h j y (by omega) (by simp only [List.length_cons]; omega))]
def tallyAt (i : Nat) (x : S110) : Bool := decide (x.f0 = (i : Int)) && (inR 0 100 x.f1 && inR 0 100 x.f2)
def tallyAt' (i : Nat) (x : S110) : Bool := (inR 0 11 x.f0 && (inR 0 100 x.f1 && inR 0 100 x.f2)) && decide (x.f0 = (i : Int))
def goodT (xs : List S110) : Bool := allI tallyAt 0 xs && inR 1 12 (xs.length : Int)
theorem l14Tally_eq (x : S110) (i : Nat) : spec_l14Tally.f x.f0 x.f1 x.f2 (i : Int) = some (tallyAt i x) := by
  unfold spec_l14Tally.f tallyAt
  rw [l1In_eq, l1In_eq]
  by_cases h : x.f0 = (i : Int) <;> cases h1 : inR 0 100 x.f1 <;> simp [h]
theorem isTally_eq (x : S110) : impl_isTally.f x.f0 x.f1 x.f2 = some (inR 0 11 x.f0 && (inR 0 100 x.f1 && inR 0 100 x.f2)) := by
  unfold impl_isTally.f
  rw [within_eq, within_eq, within_eq]
  cases h : inR 0 11 x.f0 <;> cases h1 : inR 0 100 x.f1 <;> simp
theorem specGT_l (xs : List S110) (hn : xs.length ≤ 1048576) : ∀ (d i : Nat), i + d = xs.length → Ev (fun k => spec_GoodTallies.l0 k xs xs (xs.length : Int) (i : Int)) (allI tallyAt i (xs.drop i) && inR 1 12 (xs.length : Int)) := by
  intro d
  induction d with
  | zero =>
    intro i hi
    refine eround (fun k => by rw [spec_GoodTallies.l0]) (eneg (by omega) (enb (l1In_eq _ _ _) (enow ?_)))
    rw [List.drop_eq_nil_of_le (by omega)]; rfl
  | succ d ih =>
    intro i hi
    have hlt : i < xs.length := by omega
    refine eround (fun k => by rw [spec_GoodTallies.l0]) (epos (by omega) (epos (by omega) (epos (by omega) ?_)))
    rw [show rd_T110 xs (i : Int) = xs[i] from getD_get xs i _ hlt, List.drop_eq_getElem_cons hlt]
    refine enb (l14Tally_eq _ _) ?_
    simp only [allI]
    cases h : tallyAt i xs[i] with
    | true =>
      refine epos rfl ?_
      rw [w64 (by omega) (by omega), Bool.true_and]
      exact ih (i + 1) (by omega)
    | false => exact eneg (by simp) (enow (by simp))
theorem implGT_l (xs : List S110) (hn : xs.length ≤ 1048576) : ∀ (d i : Nat), i + d = xs.length → Ev (fun k => impl_GoodTallies.l0 k xs xs (xs.length : Int) (i : Int)) (allI tallyAt' i (xs.drop i) && inR 1 12 (xs.length : Int)) := by
  intro d
  induction d with
  | zero =>
    intro i hi
    refine eround (fun k => by rw [impl_GoodTallies.l0]) (eneg (by omega) (enb (within_eq _ _ _) (enow ?_)))
    rw [List.drop_eq_nil_of_le (by omega)]; rfl
  | succ d ih =>
    intro i hi
    have hlt : i < xs.length := by omega
    refine eround (fun k => by rw [impl_GoodTallies.l0]) (epos (by omega) (epos (by omega) (epos (by omega) ?_)))
    rw [show rd_T110 xs (i : Int) = xs[i] from getD_get xs i _ hlt, List.drop_eq_getElem_cons hlt]
    refine enb (isTally_eq _) ?_
    simp only [allI, tallyAt']
    cases h : inR 0 11 xs[i].f0 && (inR 0 100 xs[i].f1 && inR 0 100 xs[i].f2) with
    | true =>
      refine epos rfl ?_
      by_cases h2 : xs[i].f0 = (i : Int)
      · refine epos h2 ?_
        rw [w64 (by omega) (by omega)]
        simp only [h2, decide_true, Bool.true_and]
        exact ih (i + 1) (by omega)
      · exact eneg h2 (enow (by simp [h2]))
    | false => exact eneg (by simp) (enow (by simp))
theorem specGT_e (xs : List S110) (hn : xs.length ≤ 1048576) : Ev (fun k => spec_GoodTallies.f k xs) (goodT xs) := specGT_l xs hn xs.length 0 (by omega)
theorem implGT_e (xs : List S110) (hn : xs.length ≤ 1048576) : Ev (fun k => impl_GoodTallies.f k xs) (goodT xs) := by
  have h := implGT_l xs hn xs.length 0 (by omega)
  have e : goodT xs = (allI tallyAt' 0 (xs.drop 0) && inR 1 12 (xs.length : Int)) := by
    unfold goodT
    cases hl : inR 1 12 (xs.length : Int) with
    | false => simp
    | true =>
      rw [inR_iff] at hl
      rw [Bool.and_true, Bool.and_true, List.drop_zero]
      refine allI_congr xs 0 (fun j x h1 h2 => ?_)
      unfold tallyAt tallyAt'
      by_cases h3 : x.f0 = (j : Int)
      · have : inR 0 11 x.f0 = true := by rw [inR_iff]; omega
        simp [h3] at this ⊢
        simp [this]
      · simp [h3]
  rw [e]
  exact h
def canC (l : List S85) : List S85 := l.foldl insC []
theorem canC_fold : ∀ (l out : List S85), out.Pairwise ltC → (l.foldl insC out).Pairwise ltC ∧ ∀ z, z ∈ l.foldl insC out ↔ z ∈ out ∨ z ∈ l
  | [], out, h => ⟨h, fun z => by simp⟩
  | c :: l, out, h => by
    obtain ⟨h1, h2⟩ := canC_fold l (insC out c) (insC_order c out h)
    refine ⟨h1, fun z => ?_⟩
    rw [List.foldl_cons, h2 z, insC_mem, List.mem_cons]
    constructor
    · rintro ((h | h) | h) <;> simp [h]
    · rintro (h | h | h) <;> simp [h]
theorem canC_in (l : List S85) : (canC l).Pairwise ltC ∧ ∀ z, z ∈ canC l ↔ z ∈ l := by
  obtain ⟨h1, h2⟩ := canC_fold l [] List.Pairwise.nil
  exact ⟨h1, fun z => by rw [canC, h2 z]; simp⟩
theorem insC_has (c : S85) : ∀ l : List S85, l.Pairwise ltC → c ∈ l → insC l c = l
  | [], _, h => by cases h
  | x :: r, hp, h => by
    obtain ⟨h1, h2⟩ := List.pairwise_cons.1 hp
    unfold insC
    rcases List.mem_cons.1 h with rfl | h
    · rw [if_neg (ltC_irr c), if_pos rfl]
    · rw [if_pos (h1 c h), insC_has c r h2 h]
theorem insC_cnt (P : S85 → Bool) (c : S85) : ∀ l : List S85, c ∉ l → ((insC l c).filter P).length = (l.filter P).length + if P c = true then 1 else 0
  | [], _ => by
    unfold insC
    rw [List.filter_cons]
    split <;> simp_all
  | x :: r, h => by
    have hx : x ≠ c := fun e => h (by rw [e]; exact List.mem_cons_self)
    have hr : c ∉ r := fun e => h (List.mem_cons_of_mem _ e)
    have ih := insC_cnt P c r hr
    unfold insC
    split
    · rw [List.filter_cons, List.filter_cons]
      split
      · rw [List.length_cons, List.length_cons, ih]; omega
      · exact ih
    · have e : (c :: x :: r).filter P = if P c = true then c :: (x :: r).filter P else (x :: r).filter P := List.filter_cons
      rw [e]
      split
      · rw [List.length_cons]
      · omega
theorem sameK_iff (c x : S85) : sameK c.f0 c.f1 c.f2 x = true ↔ x = c := by
  unfold sameK
  simp only [Bool.and_eq_true, beq_iff_eq]
  constructor
  · intro ⟨e0, e1, e2⟩
    cases x
    cases c
    simp_all
  · intro e
    rw [e]
    exact ⟨rfl, rfl, rfl⟩
theorem anyK_iff (c : S85) (l : List S85) : l.any (sameK c.f0 c.f1 c.f2) = true ↔ c ∈ l := by
  rw [List.any_eq_true]
  constructor
  · rintro ⟨x, hx, e⟩
    rw [sameK_iff] at e
    rwa [← e]
  · intro h
    exact ⟨c, h, (sameK_iff c c).2 rfl⟩
def forH (bad : List S85) (h : Int) (c : S85) : Bool := decide (c.f0 = h) && !bad.any (sameK c.f0 c.f1 c.f2)
theorem cntF_can (done bad : List S85) (h : Int) : ∀ (d i : Nat) (g : Int), i + d = done.length → cntF done bad h d i g + (((canC (done.take i)).filter (forH bad h)).length : Int) = g + (((canC done).filter (forH bad h)).length : Int) := by
  intro d
  induction d with
  | zero =>
    intro i g hi
    rw [List.take_of_length_le (by omega), cntF]
  | succ d ih =>
    intro i g hi
    have hlt : i < done.length := by omega
    have hT : canC (done.take (i + 1)) = insC (canC (done.take i)) done[i] := by
      unfold canC
      rw [List.take_succ_eq_append_getElem hlt, List.foldl_append]
      rfl
    have hm := (canC_in (done.take i)).2 done[i]
    rw [cntF, List.getElem?_eq_getElem hlt]
    dsimp only
    have := ih (i + 1) (if counts done bad h i done[i] then g + 1 else g) (by omega)
    rw [hT] at this
    by_cases hin : done[i] ∈ done.take i
    · rw [insC_has _ _ (canC_in _).1 (hm.2 hin)] at this
      have : counts done bad h i done[i] = false := by
        unfold counts
        rw [(anyK_iff _ _).2 hin]
        simp
      simp_all
    · rw [insC_cnt _ _ _ (fun e => hin (hm.1 e))] at this
      have e : counts done bad h i done[i] = forH bad h done[i] := by
        unfold counts forH
        rw [Bool.eq_false_iff.2 (fun e => hin ((anyK_iff _ _).1 e))]
        simp
      rw [e] at this ⊢
      cases hf : forH bad h done[i] with
      | true => rw [hf] at this; simp only [if_true] at this ⊢; omega
      | false => rw [hf] at this; simp only [Bool.false_eq_true, if_false] at this ⊢; omega
theorem cntF_eq (done bad : List S85) (h : Int) : cntF done bad h done.length 0 0 = (((canC done).filter (forH bad h)).length : Int) := by
  have := cntF_can done bad h done.length 0 0 (by omega)
  rw [List.take_zero] at this
  simpa [canC] using this
theorem canC_same {a b : List S85} (H : ∀ z, z ∈ a ↔ z ∈ b) : canC a = canC b := by
  obtain ⟨h1, h2⟩ := canC_in a
  obtain ⟨k1, k2⟩ := canC_in b
  exact inC_one _ _ h1 k1 fun z => by rw [h2, k2]; exact H z
theorem debF_same {xs ys : List S91} (H : ∀ z, z ∈ xs ↔ z ∈ ys) (f h : Int) : debF f xs h = debF f ys h := by
  unfold debF
  rw [clsC_same H]
  congr 1
  funext c
  unfold owes
  rw [refF_same H]
theorem tlF_same {xs ys : List S91} {a b : List S85} (H : ∀ z, z ∈ xs ↔ z ∈ ys) (K : ∀ z, z ∈ a ↔ z ∈ b) (f : Int) : ∀ d h, tlF f a xs d h = tlF f b ys d h
  | 0, _ => rfl
  | d + 1, h => by
    rw [tlF, tlF, tlF_same H K f d (h + 1), cntF_eq, cntF_eq, canC_same K, debF_same H]
theorem tlR_rev (hands f : Int) (done : List S85) (xs : List S91) : tlR hands f done.reverse xs.reverse = tlR hands f done xs := by
  unfold tlR
  rw [tlF_same (xs := xs.reverse) (ys := xs) (a := done.reverse) (b := done) (fun z => List.mem_reverse) (fun z => List.mem_reverse)]
  have e : goodSts xs.reverse = goodSts xs := by
    unfold goodSts
    rw [List.all_reverse, List.length_reverse]
  rw [e, List.all_reverse, List.length_reverse]
theorem tlF_at (f : Int) (done : List S85) (xs : List S91) : ∀ d h i (hi : i < (tlF f done xs d h).length), (tlF f done xs d h)[i] = ⟨((h + i : Nat) : Int), cntF done (debF f xs ((h + i : Nat) : Int)) ((h + i : Nat) : Int) done.length 0 0, ((debF f xs ((h + i : Nat) : Int)).length : Int)⟩
  | 0, h, i, hi => by simp [tlF] at hi
  | d + 1, h, 0, hi => by simp [tlF]
  | d + 1, h, i + 1, hi => by
    have e := tlF_at f done xs d (h + 1) i (by simpa [tlF] using hi)
    simp only [tlF, List.getElem_cons_succ]
    rw [e, show h + 1 + i = h + (i + 1) by omega]
theorem tlF_good (f : Int) (done : List S85) (xs : List S91) (hd : done.length ≤ 60) (hx : xs.length ≤ 60) : ∀ d h, allI tallyAt h (tlF f done xs d h) = true
  | 0, _ => rfl
  | d + 1, h => by
    rw [tlF, allI, tlF_good f done xs hd hx d (h + 1), Bool.and_true]
    have h1 := cntF_in done (debF f xs (h : Int)) (h : Int) done.length 0 0
    have h2 := debF_len f xs (h : Int)
    unfold tallyAt
    rw [Bool.and_eq_true, Bool.and_eq_true, decide_eq_true_eq, inR_iff, inR_iff]
    refine ⟨rfl, ?_, ?_⟩
    · dsimp only; omega
    · dsimp only; omega
def dfR (f : Int) (xs : List S91) (h : Int) : List S85 × Bool := if inR 0 2 f && goodSts xs && inR 0 20 h then (debF f xs h, true) else ([], false)
theorem dfR_len (f : Int) (xs : List S91) (h : Int) : (dfR f xs h).1.length ≤ xs.length := by
  unfold dfR
  split
  · exact debF_len f xs h
  · simp
theorem specDF_e (f : Int) (xs : List S91) (h : Int) (hn : xs.length ≤ 1048576) : Ev (fun k => spec_DebitsFor.f k f xs h) (dfR f xs h) := by
  unfold spec_DebitsFor.f dfR
  refine enb (l1In_eq _ _ _) ?_
  cases h0 : inR 0 2 f with
  | false => exact eneg (by decide) (enow (by simp))
  | true =>
    refine epos rfl (ebind (specG12_e xs hn) ?_)
    cases h1 : goodSts xs with
    | false => exact eneg (by decide) (enow (by simp))
    | true =>
      refine epos rfl (enb (l1In_eq _ _ _) ?_)
      cases h2 : inR 0 20 h with
      | false => exact eneg (by decide) (enow (by simp))
      | true => exact epos rfl (ebind (specDeb_e f xs h hn) (enow (by simp)))
theorem implDF_e (f : Int) (xs : List S91) (h : Int) (hn : xs.length ≤ 1048576) : Ev (fun k => impl_DebitsFor.f k f xs h) (dfR f xs h) := by
  unfold impl_DebitsFor.f dfR
  refine enb (a := inR 0 2 f) (by unfold impl_areFaults.f; rw [within_eq]; rfl) ?_
  cases h0 : inR 0 2 f with
  | false => exact eneg (by decide) (enow (by simp))
  | true =>
    refine epos rfl (ebind (implG12_e xs hn) ?_)
    cases h1 : goodSts xs with
    | false => exact eneg (by decide) (enow (by simp))
    | true =>
      refine epos rfl (enb (within_eq _ _ _) ?_)
      cases h2 : inR 0 20 h with
      | false => exact eneg (by decide) (enow (by simp))
      | true => exact epos rfl (ebind (implDeb_e f xs h hn) (enow (by simp)))
def provR (fa : Int) (xs : List S91) (a b c : Int) : Bool × Bool := if goodSts xs && goodC a b c && inR 0 2 fa then (decide (((refF xs a b c 7 0).length : Int) > fa), true) else (false, false)
theorem implP_e (fa : Int) (xs : List S91) (a b c : Int) (hn : xs.length ≤ 1048576) : Ev (fun k => impl_IsProved.f k fa xs a b c) (provR fa xs a b c) := by
  unfold impl_IsProved.f provR
  refine enb (a := inR 0 2 fa) (by unfold impl_areFaults.f; rw [within_eq]; rfl) ?_
  cases h3 : inR 0 2 fa with
  | false => exact eneg (by decide) (enow (by simp))
  | true =>
    refine epos rfl (ebind (implG12_e xs hn) ?_)
    cases h1 : goodSts xs with
    | false => exact eneg (by decide) (enow (by simp))
    | true =>
      refine epos rfl (enb (implGC_eq _ _ _) ?_)
      cases h2 : goodC a b c with
      | false => exact eneg (by decide) (enow (by simp))
      | true => exact epos rfl (ebind (implRef_e xs a b c hn) (enow (by simp)))
def addF : Nat → List S110 → List S110 → List S110
  | i, x :: xs, y :: ys => ⟨(i : Int), wrap64 (x.f1 + y.f1), wrap64 (x.f2 + y.f2)⟩ :: addF (i + 1) xs ys
  | _, _, _ => []
def finT (o : List S110) : List S110 × Bool := if goodT o = true then (o, true) else ([], false)
def addT (xs ys : List S110) : List S110 × Bool := if goodT xs = true ∧ goodT ys = true ∧ xs.length = ys.length then finT (addF 0 xs ys) else ([], false)
theorem addF_len : ∀ (xs ys : List S110) (i : Nat), (addF i xs ys).length ≤ xs.length
  | [], _, _ => by simp [addF]
  | _ :: _, [], _ => by simp [addF]
  | x :: xs, y :: ys, i => by simp only [addF, List.length_cons]; have := addF_len xs ys (i + 1); omega
theorem addT_len (xs ys : List S110) : (addT xs ys).1.length ≤ xs.length := by
  unfold addT finT
  split
  · split
    · exact addF_len xs ys 0
    · simp
  · simp
theorem specAT_l (xs ys : List S110) (hl : xs.length = ys.length) (hn : xs.length ≤ 1048576) : ∀ (d i : Nat) (out : List S110), i + d = xs.length → out.length = i → Ev (fun k => spec_AddTallies.l0 k ys out xs (xs.length : Int) (i : Int)) (finT (out ++ addF i (xs.drop i) (ys.drop i))) := by
  intro d
  induction d with
  | zero =>
    intro i out hi ho
    refine eround (fun k => by rw [spec_AddTallies.l0]) (eneg (by omega) ?_)
    rw [List.drop_eq_nil_of_le (show xs.length ≤ i by omega), List.drop_eq_nil_of_le (show ys.length ≤ i by omega)]
    simp only [addF, List.append_nil]
    refine ebind (specGT_e out (by omega)) ?_
    unfold finT
    cases h : goodT out with
    | true => exact epos rfl (enow rfl)
    | false => exact eneg (by simp) (enow rfl)
  | succ d ih =>
    intro i out hi ho
    have hlt : i < xs.length := by omega
    have hlt' : i < ys.length := by omega
    refine eround (fun k => by rw [spec_AddTallies.l0]) (epos (by omega) (epos (by omega) (epos (by omega) (epos (by omega) (epos (by omega) ?_)))))
    rw [show rd_T110 xs (i : Int) = xs[i] from getD_get xs i _ hlt, show rd_T110 ys (i : Int) = ys[i] from getD_get ys i _ hlt', List.drop_eq_getElem_cons hlt, List.drop_eq_getElem_cons hlt', w64 (x := (i : Int) + 1) (by omega) (by omega)]
    simp only [addF]
    have := ih (i + 1) (out ++ [(⟨(i : Int), wrap64 (xs[i].f1 + ys[i].f1), wrap64 (xs[i].f2 + ys[i].f2)⟩ : S110)]) (by omega) (by simp [ho])
    rw [List.append_assoc, List.singleton_append] at this
    exact this
theorem specAT_e (xs ys : List S110) (hn : xs.length ≤ 1048576) (hm : ys.length ≤ 1048576) : Ev (fun k => spec_AddTallies.f k xs ys) (addT xs ys) := by
  unfold spec_AddTallies.f addT
  refine ebind (specGT_e xs hn) ?_
  cases h1 : goodT xs with
  | false => exact eneg (by simp) (eround (fun k => by rw [spec_AddTallies.j0]) (epos rfl (enow (by simp))))
  | true =>
    refine epos rfl (ebind (specGT_e ys hm) ?_)
    cases h2 : goodT ys with
    | false => exact eneg (by simp) (eround (fun k => by rw [spec_AddTallies.j0]) (epos rfl (enow (by simp))))
    | true =>
      refine epos rfl (eround (fun k => by rw [spec_AddTallies.j0]) ?_)
      by_cases h3 : xs.length = ys.length
      · refine eneg (by simp [h3]) ?_
        rw [if_pos ⟨rfl, rfl, h3⟩]
        exact specAT_l xs ys h3 hn xs.length 0 [] (by omega) rfl
      · refine epos (by simp; omega) (enow (by simp [h3]))
theorem implAT_l (xs ys : List S110) (hl : xs.length = ys.length) (hn : xs.length ≤ 1048576) : ∀ (d i : Nat) (out : List S110), i + d = xs.length → out.length = i → Ev (fun k => impl_AddTallies.l0 k ys out xs (xs.length : Int) (i : Int)) (finT (out ++ addF i (xs.drop i) (ys.drop i))) := by
  intro d
  induction d with
  | zero =>
    intro i out hi ho
    refine eround (fun k => by rw [impl_AddTallies.l0]) (eneg (by omega) ?_)
    rw [List.drop_eq_nil_of_le (show xs.length ≤ i by omega), List.drop_eq_nil_of_le (show ys.length ≤ i by omega)]
    simp only [addF, List.append_nil]
    refine ebind (implGT_e out (by omega)) ?_
    unfold finT
    cases h : goodT out with
    | true => exact epos rfl (enow rfl)
    | false => exact eneg (by simp) (enow rfl)
  | succ d ih =>
    intro i out hi ho
    have hlt : i < xs.length := by omega
    have hlt' : i < ys.length := by omega
    refine eround (fun k => by rw [impl_AddTallies.l0]) (epos (by omega) (epos (by omega) (epos (by omega) (epos (by omega) (epos (by omega) ?_)))))
    rw [show rd_T110 xs (i : Int) = xs[i] from getD_get xs i _ hlt, show rd_T110 ys (i : Int) = ys[i] from getD_get ys i _ hlt', List.drop_eq_getElem_cons hlt, List.drop_eq_getElem_cons hlt', w64 (x := (i : Int) + 1) (by omega) (by omega)]
    simp only [addF]
    have := ih (i + 1) (out ++ [(⟨(i : Int), wrap64 (xs[i].f1 + ys[i].f1), wrap64 (xs[i].f2 + ys[i].f2)⟩ : S110)]) (by omega) (by simp [ho])
    rw [List.append_assoc, List.singleton_append] at this
    exact this
theorem implAT_e (xs ys : List S110) (hn : xs.length ≤ 1048576) (hm : ys.length ≤ 1048576) : Ev (fun k => impl_AddTallies.f k xs ys) (addT xs ys) := by
  unfold impl_AddTallies.f addT
  refine ebind (implGT_e xs hn) ?_
  cases h1 : goodT xs with
  | false => exact eneg (by simp) (eround (fun k => by rw [impl_AddTallies.j0]) (epos rfl (enow (by simp))))
  | true =>
    refine epos rfl (ebind (implGT_e ys hm) ?_)
    cases h2 : goodT ys with
    | false => exact eneg (by simp) (eround (fun k => by rw [impl_AddTallies.j0]) (epos rfl (enow (by simp))))
    | true =>
      refine epos rfl (eround (fun k => by rw [impl_AddTallies.j0]) ?_)
      by_cases h3 : xs.length = ys.length
      · refine eneg (by simp [h3]) ?_
        rw [if_pos ⟨rfl, rfl, h3⟩]
        exact implAT_l xs ys h3 hn xs.length 0 [] (by omega) rfl
      · refine epos (by simp; omega) (enow (by simp [h3]))
/-! the cursor of what is drawn -/
def bytes (s : List Int) : Prop := ∀ x ∈ s, 0 ≤ x ∧ x ≤ 255
theorem bytes_of {s : List Int} (h : ∀ x ∈ s, (Lit.int .u8 x).wf = true) : bytes s := by
  intro x hx
  have := h x hx
  simp [Lit.wf, IntKind.min, IntKind.max, IntKind.bits, IntKind.signed] at this
  omega
theorem u64_range (y : Int) : 0 ≤ IntKind.u64.wrap y ∧ IntKind.u64.wrap y < 18446744073709551616 := by
  simp only [IntKind.wrap, IntKind.bits, IntKind.signed]
  constructor
  · simp; omega
  · simp; omega
theorem wraps_u64 (n : Int) (h0 : 0 ≤ n) (h1 : n < 2 ^ 62) : IntKind.u64.wrap n = n := by
  have : (2 : Int) ^ 62 = 4611686018427387904 := by decide
  exact u64_wrap_small n h0 (by omega)
theorem and255 (x : Int) (h0 : 0 ≤ x) (h1 : x < 4611686018427387904) : 0 ≤ Go.bits .and .u64 x 255 ∧ Go.bits .and .u64 x 255 ≤ 255 := by
  obtain ⟨a, rfl⟩ := Int.eq_ofNat_of_zero_le h0
  have ha : a < 2 ^ 62 := by have : (2 : Nat) ^ 62 = 4611686018427387904 := by decide
                             omega
  have := (bits_nat .u64 62 (by decide) wraps_u64 a 255 ha (by decide)).1
  rw [show ((255 : Nat) : Int) = 255 from rfl] at this
  rw [this]
  have : a &&& 255 ≤ 255 := Nat.and_le_right
  omega
theorem and_u64 (y : Int) : 0 ≤ wrap64 (Go.bits .and .u64 (IntKind.u64.wrap y / 1099511627776) 255) ∧ wrap64 (Go.bits .and .u64 (IntKind.u64.wrap y / 1099511627776) 255) ≤ 255 := by
  have r := u64_range y
  have := and255 (IntKind.u64.wrap y / 1099511627776) (by omega) (by omega)
  rw [w64 (by omega) (by omega)]
  exact this
theorem bytes_rd {s : List Int} (hb : bytes s) (p : Int) (h0 : 0 ≤ p) (h1 : p < s.length) : 0 ≤ rd s p ∧ rd s p ≤ 255 := by
  obtain ⟨i, rfl⟩ := Int.eq_ofNat_of_zero_le h0
  rw [rd_get s i (by omega)]
  exact hb _ (List.getElem_mem _)
theorem next_e (s : List Int) (hb : bytes s) (p x : Int) (h0 : 0 ≤ p) (h1 : p ≤ 1152921504606846976) : ∃ v x', spec_l1Cur_next.f s p x = some (v, p + 1, x') ∧ 0 ≤ v ∧ v ≤ 255 := by
  unfold spec_l1Cur_next.f
  rw [w64 (x := p + 1) (by omega) (by omega)]
  by_cases h : p < (s.length : Int)
  · have := bytes_rd hb p h0 h
    rw [w64 (x := rd s p) (by omega) (by omega), if_pos h, if_pos h0, if_pos (by omega)]
    exact ⟨_, _, rfl, this⟩
  · rw [if_neg h, if_neg (by omega)]
    exact ⟨_, _, rfl, and_u64 _⟩
theorem tmod_range (v n : Int) (h0 : 0 ≤ v) (h : 1 < n) : 0 ≤ Int.tmod v n ∧ Int.tmod v n < n := by
  rw [Int.tmod_eq_emod_of_nonneg h0]
  exact ⟨Int.emod_nonneg _ (by omega), Int.emod_lt_of_pos _ (by omega)⟩
theorem pick_e (s : List Int) (hb : bytes s) (p x n : Int) (h0 : 0 ≤ p) (h1 : p ≤ 1152921504606846900) : ∃ r p' x', spec_l1Cur_pick.f s p x n = some (r, p', x') ∧ (0 ≤ r ∧ (n ≤ 1 → r = 0) ∧ (1 < n → r < n)) ∧ p ≤ p' ∧ p' ≤ p + 2 := by
  unfold spec_l1Cur_pick.f
  by_cases hn : n ≤ 1
  · exact ⟨0, p, x, by rw [if_pos hn], ⟨by omega, fun _ => rfl, fun h => by omega⟩, by omega, by omega⟩
  · rw [if_neg hn]
    obtain ⟨v, x', e, v0, v1⟩ := next_e s hb p x h0 (by omega)
    rw [e, Option.bind_some]
    by_cases h2 : n > 200
    · obtain ⟨u, x'', e', u0, u1⟩ := next_e s hb (p + 1) x' (by omega) (by omega)
      rw [if_pos h2]
      simp only [e', Option.bind_some]
      rw [if_neg (by omega), w64 (x := v * 256) (by omega) (by omega), w64 (by omega) (by omega)]
      have := tmod_range (v * 256 + u) n (by omega) (by omega)
      exact ⟨_, _, _, rfl, ⟨this.1, fun h => by omega, fun _ => this.2⟩, by omega, by omega⟩
    · rw [if_neg h2, if_neg (by omega)]
      have := tmod_range v n v0 (by omega)
      exact ⟨_, p + 1, x', rfl, ⟨this.1, fun h => by omega, fun _ => this.2⟩, by omega, by omega⟩
theorem one_e (s : List Int) (hb : bytes s) (p x n : Int) (h0 : 0 ≤ p) (h1 : p ≤ 1152921504606846900) : ∃ b p' x', spec_l1Cur_one.f s p x n = some (b, p', x') ∧ p ≤ p' ∧ p' ≤ p + 2 := by
  obtain ⟨r, p', x', e, _, h2, h3⟩ := pick_e s hb p x n h0 h1
  exact ⟨r == 0, p', x', by unfold spec_l1Cur_one.f; simp only [e, Option.bind_some], h2, h3⟩
theorem among_e (s : List Int) (hb : bytes s) (p x : Int) (l : List Int) (hl : 1 ≤ l.length) (h0 : 0 ≤ p) (h1 : p ≤ 1152921504606846900) : ∃ v p' x', spec_l1Cur_among.f s p x l = some (v, p', x') ∧ v ∈ l ∧ p ≤ p' ∧ p' ≤ p + 2 := by
  obtain ⟨r, p', x', e, ⟨r0, r1, r2⟩, h2, h3⟩ := pick_e s hb p x (l.length : Int) h0 h1
  have hr : r < (l.length : Int) := by
    by_cases h : 1 < (l.length : Int)
    · exact r2 h
    · have := r1 (by omega); omega
  refine ⟨rd l r, p', x', ?_, ?_, h2, h3⟩
  · unfold spec_l1Cur_among.f
    simp only [e, Option.bind_some]
    rw [if_pos r0, if_pos hr]
  · obtain ⟨i, rfl⟩ := Int.eq_ofNat_of_zero_le r0
    rw [rd_get l i (by omega)]
    exact List.getElem_mem _
theorem claim_e (s : List Int) (hb : bytes s) (p x : Int) (h0 : 0 ≤ p) (h1 : p ≤ 1152921504606846000) : ∃ a b c p' x', spec_l1Cur_claim.f s p x = some (a, b, c, p', x') ∧ (a ≤ 21 ∧ b ≤ 1001 ∧ c ≤ 101 ∧ -1 ≤ a ∧ 0 ≤ b ∧ 0 ≤ c) ∧ p ≤ p' ∧ p' ≤ p + 8 := by
  unfold spec_l1Cur_claim.f
  obtain ⟨b, p1, x1, e1, g1, g2⟩ := one_e s hb p x 30 h0 (by omega)
  simp only [e1, Option.bind_some]
  cases b with
  | true =>
    obtain ⟨v2, p2, x2, e2, m2, g3, g4⟩ := among_e s hb p1 x1 [(-1), 20, 21] (by simp) (by omega) (by omega)
    obtain ⟨v3, p3, x3, e3, m3, g5, g6⟩ := among_e s hb p2 x2 [0, 1000, 1001] (by simp) (by omega) (by omega)
    obtain ⟨v4, p4, x4, e4, m4, g7, g8⟩ := among_e s hb p3 x3 [0, 100, 101] (by simp) (by omega) (by omega)
    simp only [if_true, e2, e3, e4, Option.bind_some]
    simp only [List.mem_cons, List.not_mem_nil, or_false] at m2 m3 m4
    exact ⟨_, _, _, _, _, rfl, ⟨by omega, by omega, by omega, by omega, by omega, by omega⟩, by omega, by omega⟩
  | false =>
    obtain ⟨v2, p2, x2, e2, m2, g3, g4⟩ := pick_e s hb p1 x1 3 (by omega) (by omega)
    obtain ⟨v3, p3, x3, e3, m3, g5, g6⟩ := pick_e s hb p2 x2 3 (by omega) (by omega)
    obtain ⟨v4, p4, x4, e4, m4, g7, g8⟩ := pick_e s hb p3 x3 2 (by omega) (by omega)
    simp only [Bool.false_eq_true, if_false, e2, e3, e4, Option.bind_some]
    exact ⟨_, _, _, _, _, rfl, ⟨by omega, by omega, by omega, by omega, by omega, by omega⟩, by omega, by omega⟩
theorem sts_j2 (s : List Int) (hb : bytes s) (out : List S91) (b : Bool) (p x : Int) (hb' : b = true → 1 ≤ out.length) (h0 : 0 ≤ p) (h1 : p ≤ 1152921504606840000) : ∃ l p' x', Ev (fun k => spec_l1Cur_statements.j2 k out b s p x) (l, p', x') ∧ l.length = out.length ∧ p ≤ p' ∧ p' ≤ p + 10 := by
  cases b with
  | false => exact ⟨_, _, _, eround (fun k => by rw [spec_l1Cur_statements.j2]) (eneg (by decide) (enow rfl)), rfl, by omega, by omega⟩
  | true =>
    obtain ⟨v2, p2, x2, e2, m2, g3, g4⟩ := among_e s hb p x [(-1), 6, 7] (by simp) (by omega) (by omega)
    obtain ⟨a, b, c, p3, x3, e3, _, g5, g6⟩ := claim_e s hb p2 x2 (by omega) (by omega)
    have := hb' rfl
    refine ⟨out.set 0 (⟨v2, (⟨a, b, c⟩ : S85), false⟩ : S91), p3, x3, ?_, by simp, by omega, by omega⟩
    refine eround (fun k => by rw [spec_l1Cur_statements.j2]) (epos rfl ?_)
    refine enb e2 ?_
    refine enb e3 ?_
    exact epos (by omega) (enow rfl)
theorem sts_l (s : List Int) (hb : bytes s) : ∀ (d : Nat) (out : List S91) (p x : Int), out.length + d ≤ 1000 → 0 ≤ p → p + 8 * d ≤ 1152921504606800000 → ∃ l p' x', Ev (fun k => spec_l1Cur_statements.l0 k out (d : Int) s p x) (l, p', x') ∧ l.length = out.length + d ∧ p ≤ p' ∧ p' ≤ p + 8 * d + 12 := by
  intro d
  induction d with
  | zero =>
    intro out p x hl h0 h1
    by_cases ho : (out.length : Int) > 0
    · obtain ⟨b, p1, x1, e, g1, g2⟩ := one_e s hb p x 20 h0 (by omega)
      obtain ⟨l, p2, x2, E, hl2, g3, g4⟩ := sts_j2 s hb out b p1 x1 (fun _ => by omega) (by omega) (by omega)
      exact ⟨l, p2, x2, eround (fun k => by rw [spec_l1Cur_statements.l0]) (eneg (by omega) (epos ho (enb e E))), by omega, by omega, by omega⟩
    · obtain ⟨l, p2, x2, E, hl2, g3, g4⟩ := sts_j2 s hb out false p x (fun h => by simp at h) h0 (by omega)
      exact ⟨l, p2, x2, eround (fun k => by rw [spec_l1Cur_statements.l0]) (eneg (by omega) (eneg ho E)), by omega, by omega, by omega⟩
  | succ d ih =>
    intro out p x hl h0 h1
    obtain ⟨v1, p1, x1, e1, _, g1, g2⟩ := pick_e s hb p x 7 h0 (by omega)
    obtain ⟨v2, p2, x2, e2, _, g3, g4⟩ := pick_e s hb p1 x1 2 (by omega) (by omega)
    obtain ⟨v3, p3, x3, e3, _, g5, g6⟩ := pick_e s hb p2 x2 2 (by omega) (by omega)
    obtain ⟨v4, p4, x4, e4, g7, g8⟩ := one_e s hb p3 x3 3 (by omega) (by omega)
    obtain ⟨l, p5, x5, E, hl5, g9, g10⟩ := ih (out ++ [(⟨v1, (⟨v2, v3, 0⟩ : S85), !v4⟩ : S91)]) p4 x4 (by simp; omega) (by omega) (by push_cast at h1; omega)
    refine ⟨l, p5, x5, ?_, by rw [hl5]; simp; omega, by omega, by push_cast; omega⟩
    refine eround (fun k => by rw [spec_l1Cur_statements.l0]) (epos (by omega) ?_)
    refine enb e1 ?_
    refine enb e2 ?_
    refine enb e3 ?_
    refine enb e4 ?_
    refine epos (by omega) ?_
    rw [w64 (by omega) (by omega), show ((d + 1 : Nat) : Int) - 1 = (d : Int) by omega]
    exact E
theorem sts_e (s : List Int) (hb : bytes s) (p x : Int) (h0 : 0 ≤ p) (h1 : p ≤ 1152921504606000000) : ∃ l p' x', Ev (fun k => spec_l1Cur_statements.f k s p x) (l, p', x') ∧ l.length ≤ 61 ∧ p ≤ p' ∧ p' ≤ p + 600 := by
  obtain ⟨n, p1, x1, e1, ⟨n0, _, n1⟩, g1, g2⟩ := pick_e s hb p x 14 h0 (by omega)
  obtain ⟨b, p2, x2, e2, g3, g4⟩ := one_e s hb p1 x1 20 (by omega) (by omega)
  cases b with
  | true =>
    obtain ⟨m, p3, x3, e3, ⟨m0, _, m1⟩, g5, g6⟩ := pick_e s hb p2 x2 2 (by omega) (by omega)
    obtain ⟨l, p4, x4, E, hl, g7, g8⟩ := sts_l s hb (60 + m).toNat [] p3 x3 (by simp; omega) (by omega) (by omega)
    refine ⟨l, p4, x4, ?_, by simp at hl; omega, by omega, by omega⟩
    unfold spec_l1Cur_statements.f
    refine enb e1 ?_
    refine enb e2 ?_
    refine epos rfl ?_
    refine enb e3 ?_
    refine eround (fun k => by rw [spec_l1Cur_statements.j0]) ?_
    rw [w64 (by omega) (by omega), show 60 + m = (((60 + m).toNat : Nat) : Int) by omega]
    exact E
  | false =>
    obtain ⟨l, p4, x4, E, hl, g7, g8⟩ := sts_l s hb n.toNat [] p2 x2 (by simp; omega) (by omega) (by omega)
    refine ⟨l, p4, x4, ?_, by simp at hl; omega, by omega, by omega⟩
    unfold spec_l1Cur_statements.f
    refine enb e1 ?_
    refine enb e2 ?_
    refine eneg (by simp) ?_
    refine eround (fun k => by rw [spec_l1Cur_statements.j0]) ?_
    rw [show ((n.toNat : Nat) : Int) = n by omega] at E
    exact E
theorem clm_l (s : List Int) (hb : bytes s) : ∀ (d : Nat) (out : List S85) (p x : Int), out.length + d ≤ 1000 → 0 ≤ p → p + 8 * d ≤ 1152921504606800000 → ∃ l p' x', Ev (fun k => spec_l1Cur_claims.l0 k out (d : Int) s p x) (l, p', x') ∧ l.length = out.length + d ∧ p ≤ p' ∧ p' ≤ p + 8 * d + 12 := by
  intro d
  induction d with
  | zero =>
    intro out p x hl h0 h1
    by_cases ho : (out.length : Int) > 0
    · obtain ⟨b, p1, x1, e, g1, g2⟩ := one_e s hb p x 30 h0 (by omega)
      cases b with
      | false =>
        refine ⟨out, p1, x1, ?_, by omega, by omega, by omega⟩
        refine eround (fun k => by rw [spec_l1Cur_claims.l0]) (eneg (by omega) (epos ho ?_))
        refine enb e ?_
        refine eneg (by simp) ?_
        exact enow rfl
      | true =>
        obtain ⟨a, b, c, p3, x3, e3, _, g5, g6⟩ := claim_e s hb p1 x1 (by omega) (by omega)
        refine ⟨out.set 0 (⟨a, b, c⟩ : S85), p3, x3, ?_, by simp, by omega, by omega⟩
        refine eround (fun k => by rw [spec_l1Cur_claims.l0]) (eneg (by omega) (epos ho ?_))
        refine enb e ?_
        refine epos rfl ?_
        refine enb e3 ?_
        refine epos (by omega) ?_
        exact enow rfl
    · exact ⟨out, p, x, eround (fun k => by rw [spec_l1Cur_claims.l0]) (eneg (by omega) (eneg ho (enow rfl))), by omega, by omega, by omega⟩
  | succ d ih =>
    intro out p x hl h0 h1
    obtain ⟨v1, p1, x1, e1, _, g1, g2⟩ := pick_e s hb p x 3 h0 (by omega)
    obtain ⟨v2, p2, x2, e2, _, g3, g4⟩ := pick_e s hb p1 x1 3 (by omega) (by omega)
    obtain ⟨v3, p3, x3, e3, _, g5, g6⟩ := pick_e s hb p2 x2 2 (by omega) (by omega)
    obtain ⟨l, p5, x5, E, hl5, g9, g10⟩ := ih (out ++ [(⟨v1, v2, v3⟩ : S85)]) p3 x3 (by simp; omega) (by omega) (by push_cast at h1; omega)
    refine ⟨l, p5, x5, ?_, by rw [hl5]; simp; omega, by omega, by push_cast; omega⟩
    refine eround (fun k => by rw [spec_l1Cur_claims.l0]) (epos (by omega) ?_)
    refine enb e1 ?_
    refine enb e2 ?_
    refine enb e3 ?_
    refine epos (by omega) ?_
    rw [w64 (by omega) (by omega), show ((d + 1 : Nat) : Int) - 1 = (d : Int) by omega]
    exact E
theorem clm_e (s : List Int) (hb : bytes s) (p x : Int) (h0 : 0 ≤ p) (h1 : p ≤ 1152921504606000000) : ∃ l p' x', Ev (fun k => spec_l1Cur_claims.f k s p x) (l, p', x') ∧ l.length ≤ 61 ∧ p ≤ p' ∧ p' ≤ p + 600 := by
  obtain ⟨n, p1, x1, e1, ⟨n0, _, n1⟩, g1, g2⟩ := pick_e s hb p x 9 h0 (by omega)
  obtain ⟨b, p2, x2, e2, g3, g4⟩ := one_e s hb p1 x1 20 (by omega) (by omega)
  cases b with
  | true =>
    obtain ⟨m, p3, x3, e3, ⟨m0, _, m1⟩, g5, g6⟩ := pick_e s hb p2 x2 2 (by omega) (by omega)
    obtain ⟨l, p4, x4, E, hl, g7, g8⟩ := clm_l s hb (60 + m).toNat [] p3 x3 (by simp; omega) (by omega) (by omega)
    refine ⟨l, p4, x4, ?_, by simp at hl; omega, by omega, by omega⟩
    unfold spec_l1Cur_claims.f
    refine enb e1 ?_
    refine enb e2 ?_
    refine epos rfl ?_
    refine enb e3 ?_
    refine eround (fun k => by rw [spec_l1Cur_claims.j0]) ?_
    rw [w64 (by omega) (by omega), show 60 + m = (((60 + m).toNat : Nat) : Int) by omega]
    exact E
  | false =>
    obtain ⟨l, p4, x4, E, hl, g7, g8⟩ := clm_l s hb n.toNat [] p2 x2 (by simp; omega) (by omega) (by omega)
    refine ⟨l, p4, x4, ?_, by simp at hl; omega, by omega, by omega⟩
    unfold spec_l1Cur_claims.f
    refine enb e1 ?_
    refine enb e2 ?_
    refine eneg (by simp) ?_
    refine eround (fun k => by rw [spec_l1Cur_claims.j0]) ?_
    rw [show ((n.toNat : Nat) : Int) = n by omega] at E
    exact E
theorem tall_j2 (s : List Int) (hb : bytes s) (T : List S110) (b : Bool) (p x : Int) (hT : b = true → 0 < T.length) (h0 : 0 ≤ p) (h1 : p ≤ 1152921504606000000) : ∃ T' p' x', Ev (fun k => spec_l1Cur_tallies.j2 k T b s p x) (T', p', x') ∧ T'.length = T.length ∧ p ≤ p' ∧ p' ≤ p + 6 := by
  cases b with
  | false => exact ⟨T, p, x, eround (fun k => by rw [spec_l1Cur_tallies.j2]) (eneg (by decide) (enow rfl)), rfl, by omega, by omega⟩
  | true =>
    obtain ⟨a, p1, x1, e1, _, g1, g2⟩ := pick_e s hb p x 2 h0 (by omega)
    obtain ⟨b, p2, x2, e2, _, g3, g4⟩ := among_e s hb p1 x1 [0, 100, 101] (by simp) (by omega) (by omega)
    obtain ⟨c, p3, x3, e3, _, g5, g6⟩ := among_e s hb p2 x2 [-1, 0, 100] (by simp) (by omega) (by omega)
    have hT' := hT rfl
    refine ⟨T.set 0 ⟨a, b, c⟩, p3, x3, eround (fun k => by rw [spec_l1Cur_tallies.j2]) (epos rfl ?_), by simp, by omega, by omega⟩
    refine enb e1 ?_
    refine enb e2 ?_
    refine enb e3 ?_
    exact epos (by omega) (enow rfl)
theorem tall_l0 (s : List Int) (hb : bytes s) (n : Int) (hn : n ≤ 13) : ∀ (d i : Nat) (T : List S110) (p x : Int), (n ≤ i ∧ d = 0 ∨ (i : Int) + d = n) → T.length = i → 0 ≤ p → p + 4 * d ≤ 1152921504605000100 → ∃ T' p' x', Ev (fun k => spec_l1Cur_tallies.l0 k T n (i : Int) s p x) (T', p', x') ∧ T'.length = i + d ∧ p ≤ p' ∧ p' ≤ p + 4 * d + 8 := by
  intro d
  induction d with
  | zero =>
    intro i T p x hi hT h0 h1
    have hlt : ¬ (i : Int) < n := by omega
    by_cases c : (T.length : Int) > 0
    · obtain ⟨b, p1, x1, e1, g1, g2⟩ := one_e s hb p x 20 h0 (by omega)
      obtain ⟨T', p', x', e2, g3, g4, g5⟩ := tall_j2 s hb T b p1 x1 (fun _ => by omega) (by omega) (by omega)
      exact ⟨T', p', x', eround (fun k => by rw [spec_l1Cur_tallies.l0]) (eneg hlt (epos c (enb e1 e2))), by omega, by omega, by omega⟩
    · obtain ⟨T', p', x', e2, g3, g4, g5⟩ := tall_j2 s hb T false p x (fun h => by simp at h) (by omega) (by omega)
      exact ⟨T', p', x', eround (fun k => by rw [spec_l1Cur_tallies.l0]) (eneg hlt (eneg c e2)), by omega, by omega, by omega⟩
  | succ d ih =>
    intro i T p x hi hT h0 h1
    obtain ⟨a, p1, x1, e1, _, g1, g2⟩ := pick_e s hb p x 9 h0 (by omega)
    obtain ⟨b, p2, x2, e2, _, g3, g4⟩ := pick_e s hb p1 x1 4 (by omega) (by omega)
    have hi' : (i : Int) + (d + 1 : Nat) = n := by omega
    obtain ⟨T', p', x', e3, g5, g6, g7⟩ := ih (i + 1) (T ++ [⟨(i : Int), a, b⟩]) p2 x2 (Or.inr (by push_cast at hi' ⊢; omega)) (by simp [hT]) (by omega) (by push_cast at h1; omega)
    refine ⟨T', p', x', eround (fun k => by rw [spec_l1Cur_tallies.l0]) (epos (by omega) ?_), by omega, by omega, by push_cast; omega⟩
    refine enb e1 ?_
    refine enb e2 ?_
    refine epos (by omega) ?_
    rw [w64 (by omega) (by omega)]
    exact e3
theorem tall_j0 (s : List Int) (hb : bytes s) (n : Int) (hn : n ≤ 13) (p x : Int) (h0 : 0 ≤ p) (h1 : p ≤ 1152921504605000000) : ∃ T p' x', Ev (fun k => spec_l1Cur_tallies.j0 k ([] : List S110) n s p x) (T, p', x') ∧ T.length ≤ 13 ∧ p ≤ p' ∧ p' ≤ p + 70 := by
  by_cases c : n ≤ 0
  · obtain ⟨T, p', x', e, g1, g2, g3⟩ := tall_l0 s hb n hn 0 0 [] p x (Or.inl ⟨by omega, rfl⟩) rfl h0 (by omega)
    exact ⟨T, p', x', eround (fun k => by rw [spec_l1Cur_tallies.j0]; rfl) e, by omega, g2, by omega⟩
  · obtain ⟨T, p', x', e, g1, g2, g3⟩ := tall_l0 s hb n hn n.toNat 0 [] p x (Or.inr (by omega)) rfl h0 (by omega)
    exact ⟨T, p', x', eround (fun k => by rw [spec_l1Cur_tallies.j0]; rfl) e, by omega, g2, by omega⟩
theorem tall_e (s : List Int) (hb : bytes s) (p x : Int) (h0 : 0 ≤ p) (h1 : p ≤ 1152921504604000000) : ∃ T p' x', Ev (fun k => spec_l1Cur_tallies.f k s p x) (T, p', x') ∧ T.length ≤ 13 ∧ p ≤ p' ∧ p' ≤ p + 100 := by
  obtain ⟨a, p1, x1, e1, ⟨a0, _, a2⟩, g1, g2⟩ := pick_e s hb p x 8 h0 (by omega)
  obtain ⟨b, p2, x2, e2, g3, g4⟩ := one_e s hb p1 x1 20 (by omega) (by omega)
  have := a2 (by omega)
  unfold spec_l1Cur_tallies.f
  cases b with
  | true =>
    obtain ⟨n, p3, x3, e3, hn, g5, g6⟩ := among_e s hb p2 x2 [0, 12, 13] (by simp) (by omega) (by omega)
    obtain ⟨T, p', x', e4, g7, g8, g9⟩ := tall_j0 s hb n (by simp at hn; omega) p3 x3 (by omega) (by omega)
    exact ⟨T, p', x', enb e1 (enb e2 (epos rfl (enb e3 e4))), g7, by omega, by omega⟩
  | false =>
    obtain ⟨T, p', x', e4, g7, g8, g9⟩ := tall_j0 s hb (wrap64 (1 + a)) (by rw [w64 (by omega) (by omega)]; omega) p2 x2 (by omega) (by omega)
    exact ⟨T, p', x', enb e1 (enb e2 (eneg (by simp) e4)), g7, by omega, by omega⟩
theorem sameT_l (xs : List S110) (hs : xs.length ≤ 1048576) : ∀ (d i : Nat), i + d = xs.length → Ev (fun k => laws_sameTallies.l0 k xs xs (xs.length : Int) (i : Int)) true := by
  intro d
  induction d with
  | zero =>
    intro i hi
    exact eround (fun k => by rw [laws_sameTallies.l0]) (eneg (by omega) (enow rfl))
  | succ d ih =>
    intro i hi
    refine eround (fun k => by rw [laws_sameTallies.l0]) (epos (by omega) (epos (by omega) (epos (by omega) (epos (by omega) (eneg (by simp) ?_)))))
    rw [w64 (by omega) (by omega)]
    exact ih (i + 1) (by omega)
theorem sameT_r (xs : List S110) (hs : xs.length ≤ 1048576) : Ev (fun k => laws_sameTallies.f k xs xs) true := by
  unfold laws_sameTallies.f
  exact epos rfl (sameT_l xs hs xs.length 0 (by omega))
theorem drawTO_e (s : List Int) (hb : bytes s) : ∃ h f cs xs, Ev (fun k => spec_DrawTallyOf.f k s) (h, f, cs, xs) ∧ cs.length ≤ 61 ∧ xs.length ≤ 61 := by
  obtain ⟨h, p1, x1, e1, _, g1, g2⟩ := pick_e s hb 0 0 14 (by omega) (by omega)
  obtain ⟨f, p2, x2, e2, _, g3, g4⟩ := pick_e s hb p1 x1 5 (by omega) (by omega)
  obtain ⟨cs, p3, x3, e3, hc, g5, g6⟩ := clm_e s hb p2 x2 (by omega) (by omega)
  obtain ⟨xs, p4, x4, e4, hx, g7, g8⟩ := sts_e s hb p3 x3 (by omega) (by omega)
  refine ⟨h, wrap64 (f - 1), cs, xs, ?_, hc, hx⟩
  unfold spec_DrawTallyOf.f
  refine enb e1 ?_
  refine enb e2 ?_
  refine ebind e3 ?_
  refine ebind e4 ?_
  exact enow rfl
theorem drawDF_e (s : List Int) (hb : bytes s) : ∃ f xs h, Ev (fun k => spec_DrawDebitsFor.f k s) (f, xs, h) ∧ xs.length ≤ 61 := by
  obtain ⟨f, p1, x1, e1, _, g1, g2⟩ := pick_e s hb 0 0 4 (by omega) (by omega)
  obtain ⟨xs, p2, x2, e2, hx, g3, g4⟩ := sts_e s hb p1 x1 (by omega) (by omega)
  obtain ⟨h, p3, x3, e3, _, g5, g6⟩ := among_e s hb p2 x2 [(-1), 0, 0, 1, 20, 21] (by simp) (by omega) (by omega)
  refine ⟨f, xs, h, ?_, hx⟩
  unfold spec_DrawDebitsFor.f
  refine enb e1 ?_
  refine ebind e2 ?_
  refine enb e3 ?_
  exact enow rfl
theorem drawAT_l (s : List Int) (hb : bytes s) (a : List S110) (ha : a.length ≤ 13) : ∀ (d i : Nat) (b : List S110) (p x : Int), i + d = b.length → b.length ≤ 13 → 0 ≤ p → p + 4 * d ≤ 1152921504603000000 → ∃ o, Ev (fun k => spec_DrawAddTallies.l0 k a b (b.length : Int) (i : Int) s p x) (a, o) ∧ o.length ≤ 13 := by
  intro d
  induction d with
  | zero =>
    intro i b p x hi hl h0 h1
    obtain ⟨v, p1, x1, e1, g1, g2⟩ := one_e s hb p x 12 h0 (by omega)
    cases v with
    | false =>
      refine ⟨b, ?_, hl⟩
      refine eround (fun k => by rw [spec_DrawAddTallies.l0]) (eneg (by omega) ?_)
      refine enb e1 ?_
      refine eneg (by simp) ?_
      exact enow rfl
    | true =>
      obtain ⟨T, p2, x2, e2, hT, _, _⟩ := tall_e s hb p1 x1 (by omega) (by omega)
      refine ⟨T, ?_, hT⟩
      refine eround (fun k => by rw [spec_DrawAddTallies.l0]) (eneg (by omega) ?_)
      refine enb e1 ?_
      refine epos rfl ?_
      refine ebind e2 ?_
      exact enow rfl
  | succ d ih =>
    intro i b p x hi hl h0 h1
    obtain ⟨v, p1, x1, e1, _, g1, g2⟩ := pick_e s hb p x 5 h0 (by omega)
    obtain ⟨o, E, ho⟩ := ih (i + 1) (b.set i (⟨(rd_T110 b (i : Int)).f0, v, (rd_T110 b (i : Int)).f2⟩ : S110)) p1 x1 (by simp; omega) (by simpa using hl) (by omega) (by push_cast at h1; omega)
    refine ⟨o, ?_, ho⟩
    refine eround (fun k => by rw [spec_DrawAddTallies.l0]) (epos (by omega) ?_)
    refine enb e1 ?_
    refine epos (by omega) (epos (by omega) ?_)
    rw [w64 (by omega) (by omega), Int.toNat_natCast]
    rw [List.length_set] at E
    exact E
theorem drawAT_e (s : List Int) (hb : bytes s) : ∃ a b, Ev (fun k => spec_DrawAddTallies.f k s) (a, b) ∧ a.length ≤ 13 ∧ b.length ≤ 13 := by
  obtain ⟨T, p1, x1, e1, hT, g1, g2⟩ := tall_e s hb 0 0 (by omega) (by omega)
  obtain ⟨o, E, ho⟩ := drawAT_l s hb T hT T.length 0 T p1 x1 (by omega) hT (by omega) (by omega)
  refine ⟨T, o, ?_, hT, ho⟩
  unfold spec_DrawAddTallies.f
  refine ebind e1 ?_
  refine enb rfl (epos (by simp; omega) (enb rfl ?_))
  simpa using E
theorem sc_l4 (cs : List S85) (hc : cs.length ≤ 1048576) : ∀ (d i : Nat), i + d = cs.length → Ev (fun k => laws_FnScores.l4 k cs cs (cs.length : Int) (i : Int)) true := by
  intro d
  induction d with
  | zero =>
    intro i hi
    exact eround (fun k => by rw [laws_FnScores.l4]) (eneg (by omega) (enow rfl))
  | succ d ih =>
    intro i hi
    refine eround (fun k => by rw [laws_FnScores.l4]) (epos (by omega) (epos (by omega) (epos (by omega) (epos (by omega) (eneg (by simp) ?_)))))
    rw [w64 (by omega) (by omega)]
    exact ih (i + 1) (by omega)
theorem sc_j7 (s : List Int) (hb : bytes s) : Ev (fun k => laws_FnScores.j7 k s) true := by
  obtain ⟨a, b, e1, ha, hb2⟩ := drawAT_e s hb
  obtain ⟨f, xs, h, e2, hx⟩ := drawDF_e s hb
  refine eround (fun k => by rw [laws_FnScores.j7]) ?_
  refine ebind e1 (ebind (implAT_e a b (by omega) (by omega)) (ebind (specAT_e a b (by omega) (by omega)) ?_))
  refine ebind e2 (ebind (implDF_e f xs h (by omega)) (ebind (specDF_e f xs h (by omega)) ?_))
  have h1 := addT_len a b
  have h2 := dfR_len f xs h
  refine eneg (by simp) (ebind (sameT_r _ (by omega)) (epos rfl (eneg (by simp) ?_)))
  refine eround (fun k => by rw [laws_FnScores.j8]) (eneg (by simp) ?_)
  exact sc_l4 _ (by omega) (dfR f xs h).1.length 0 (by omega)
theorem sc_l3 (s : List Int) (f : Int) (xs : List S91) (T : List S110) (h n : Int) (ds : List S85) (hx : xs.length ≤ 60) (hd : ds.length ≤ 60) (gx : goodSts xs = true) (gf : inR 0 2 f = true) (hz : ∀ z ∈ ds, z.f0 = h ∧ goodC z.f0 z.f1 z.f2 = true ∧ ((refF xs z.f0 z.f1 z.f2 7 0).length : Int) > f)
    (H : Ev (fun k => laws_FnScores.l2 k s f xs T n (wrap64 (h + 1))) true) : ∀ (d i : Nat), i + d = ds.length → Ev (fun k => laws_FnScores.l3 k s f xs T h ds n h (ds.length : Int) (i : Int)) true := by
  intro d
  induction d with
  | zero =>
    intro i hi
    exact eround (fun k => by rw [laws_FnScores.l3]) (eneg (by omega) H)
  | succ d ih =>
    intro i hi
    have hlt : i < ds.length := by omega
    obtain ⟨z1, z2, z3⟩ := hz ds[i] (List.getElem_mem hlt)
    have nx := ih (i + 1) (by omega)
    refine eround (fun k => by rw [laws_FnScores.l3]) (epos (by omega) (epos (by omega) (epos (by omega) ?_)))
    rw [show rd_T85 ds (i : Int) = ds[i] from getD_get ds i _ hlt, w64 (by omega) (by omega)]
    have e := implP_e f xs ds[i].f0 ds[i].f1 ds[i].f2 (by omega)
    have r : provR f xs ds[i].f0 ds[i].f1 ds[i].f2 = (true, true) := by
      unfold provR
      rw [gx, z2, gf, decide_eq_true z3]
      rfl
    rw [r] at e
    exact ebind e (epos rfl (epos rfl (epos z1 nx)))
theorem sc_l2 (s : List Int) (hb : bytes s) (f : Int) (done : List S85) (xs : List S91) (n : Nat) (hn : n ≤ 12) (hx : xs.length ≤ 60) (gx : goodSts xs = true) (gf : inR 0 2 f = true) : ∀ (d i : Nat), i + d = n → Ev (fun k => laws_FnScores.l2 k s f xs (tlF f done xs n 0) (n : Int) (i : Int)) true := by
  intro d
  induction d with
  | zero =>
    intro i hi
    exact eround (fun k => by rw [laws_FnScores.l2]) (eneg (by omega) (sc_j7 s hb))
  | succ d ih =>
    intro i hi
    have hl := tlF_len f done xs n 0
    have hlt : i < (tlF f done xs n 0).length := by omega
    refine eround (fun k => by rw [laws_FnScores.l2]) (epos (by omega) (epos (by omega) (epos (by omega) ?_)))
    rw [show rd_T110 (tlF f done xs n 0) (i : Int) = (tlF f done xs n 0)[i] from getD_get _ i _ hlt, tlF_at f done xs n 0 i hlt, Nat.zero_add]
    have e := implDF_e f xs (i : Int) (by omega)
    have r : dfR f xs (i : Int) = (debF f xs (i : Int), true) := by
      unfold dfR
      have : inR 0 20 (i : Int) = true := by rw [inR_iff]; omega
      rw [gx, gf, this]
      rfl
    rw [r] at e
    refine ebind e (epos rfl ?_)
    refine eround (fun k => by rw [laws_FnScores.j5]) (eneg (by simp) ?_)
    have hd := debF_len f xs (i : Int)
    refine sc_l3 s f xs _ (i : Int) (n : Int) (debF f xs (i : Int)) hx (by omega) gx gf (fun z hz => ?_) ?_ (debF f xs (i : Int)).length 0 (by omega)
    · unfold debF at hz
      obtain ⟨z1, z2⟩ := List.mem_filter.1 hz
      unfold owes at z2
      rw [Bool.and_eq_true, decide_eq_true_eq, decide_eq_true_eq] at z2
      exact ⟨z2.1, clsC_good gx z1, z2.2⟩
    · rw [w64 (by omega) (by omega)]
      exact ih (i + 1) (by omega)
theorem sc_l1 (s : List Int) (hands f : Int) (xs : List S91) (T : List S110) (ds : List S85) (hx : xs.length ≤ 61)
    (H : Ev (fun k => (impl_TallyOf.f k hands f ds xs.reverse).bind fun bt588 => (if bt588.2 = true then ((laws_sameTallies.f k bt588.1 T).bind fun t592 => (if t592 = true then (if (T.length : Int) = hands then ((impl_GoodTallies.f k T).bind fun t593 => (laws_FnScores.j3 k s f xs T (!t593))) else (laws_FnScores.j3 k s f xs T true)) else (laws_FnScores.j3 k s f xs T true))) else (laws_FnScores.j3 k s f xs T true))) true) : ∀ i : Nat, i ≤ xs.length → Ev (fun k => laws_FnScores.l1 k s hands f xs T ds ((xs.drop i).reverse) ((i : Int) - 1)) true := by
  intro i
  induction i with
  | zero =>
    intro hi
    rw [List.drop_zero]
    exact eround (fun k => by rw [laws_FnScores.l1]) (eneg (by omega) H)
  | succ i ih =>
    intro hi
    have hlt : i < xs.length := by omega
    have nx := ih (by omega)
    rw [List.drop_eq_getElem_cons hlt, List.reverse_cons] at nx
    rw [show ((i + 1 : Nat) : Int) - 1 = (i : Int) by omega]
    refine eround (fun k => by rw [laws_FnScores.l1]) (epos (by omega) (epos (by omega) (epos (by omega) (epos (by rw [List.length_reverse, List.length_drop]; omega) ?_))))
    rw [show rd_T91 xs (i : Int) = xs[i] from getD_get xs i _ hlt, w64 (by omega) (by omega)]
    exact nx
theorem sc_l0 (s : List Int) (hands f : Int) (done : List S85) (xs : List S91) (T : List S110) (hd : done.length ≤ 61)
    (H : Ev (fun k => laws_FnScores.l1 k s hands f xs T done.reverse [] (wrap64 ((xs.length : Int) - 1))) true) : ∀ i : Nat, i ≤ done.length → Ev (fun k => laws_FnScores.l0 k s hands f done xs T ((done.drop i).reverse) ((i : Int) - 1)) true := by
  intro i
  induction i with
  | zero =>
    intro hi
    rw [List.drop_zero]
    exact eround (fun k => by rw [laws_FnScores.l0]) (eneg (by omega) H)
  | succ i ih =>
    intro hi
    have hlt : i < done.length := by omega
    have nx := ih (by omega)
    rw [List.drop_eq_getElem_cons hlt, List.reverse_cons] at nx
    rw [show ((i + 1 : Nat) : Int) - 1 = (i : Int) by omega]
    refine eround (fun k => by rw [laws_FnScores.l0]) (epos (by omega) (epos (by omega) (epos (by omega) (epos (by rw [List.length_reverse, List.length_drop]; omega) ?_))))
    rw [show rd_T85 done (i : Int) = done[i] from getD_get done i _ hlt, w64 (by omega) (by omega)]
    exact nx
theorem FnScores : laws_FnScores.Pure := by
  intro s t _ _ hs _ _ ht
  have hbs := bytes_of hs
  have hbt := bytes_of ht
  apply Ev.rounds
  unfold laws_FnScores.f
  by_cases hbig : (wrap64 ((s.length : Int) + (t.length : Int))) > 1048576
  · exact epos hbig (enow rfl)
  refine eneg hbig ?_
  obtain ⟨hands, f, done, xs, e1, hd, hx⟩ := drawTO_e s hbs
  refine ebind e1 (ebind (implTO_e hands f done xs (by omega) (by omega)) (ebind (specTO_e hands f done xs (by omega) (by omega)) ?_))
  have hR := tlR_len hands f done xs
  refine eneg (by simp) (ebind (sameT_r _ (by omega)) ?_)
  refine eround (fun k => by rw [laws_FnScores.j0]) (eneg (by simp) ?_)
  by_cases hok : (tlR hands f done xs).2 = true
  · refine epos hok ?_
    have hrev := implTO_e hands f done.reverse xs.reverse (by rw [List.length_reverse]; omega) (by rw [List.length_reverse]; omega)
    rw [tlR_rev] at hrev
    unfold tlR at hok hrev ⊢
    split at hok
    · next c =>
      rw [if_pos c] at hrev
      rw [if_pos c]
      simp only [Bool.and_eq_true, decide_eq_true_eq] at c
      obtain ⟨c1, c2, c3, c4, c5⟩ := c
      have c1' := inR_iff.1 c1
      obtain ⟨n, rfl, hn⟩ := inR_12 c1
      rw [Int.toNat_natCast] at hrev ⊢
      have hl := tlF_len f done xs n 0
      have hx60 := goodSts_len c4
      have key := sc_l0 t (n : Int) f done xs (tlF f done xs n 0) hd ?_ done.length (Nat.le_refl _)
      · rw [List.drop_length] at key
        rw [w64 (x := (done.length : Int) - 1) (by omega) (by omega)]
        exact key
      · have k1 := sc_l1 t (n : Int) f xs (tlF f done xs n 0) done.reverse hx ?_ xs.length (Nat.le_refl _)
        · rw [List.drop_length] at k1
          rw [w64 (x := (xs.length : Int) - 1) (by omega) (by omega)]
          exact k1
        · refine ebind hrev (epos rfl (ebind (sameT_r (tlF f done xs n 0) (by omega)) (epos rfl (epos (by omega) (ebind (implGT_e (tlF f done xs n 0) (by omega)) ?_)))))
          have hg : goodT (tlF f done xs n 0) = true := by
            unfold goodT
            rw [tlF_good f done xs (by omega) hx60 n 0, hl, Bool.true_and, inR_iff]
            omega
          rw [hg]
          refine eround (fun k => by rw [laws_FnScores.j3]) (eneg (by simp) ?_)
          rw [hl]
          exact sc_l2 t hbt f done xs n hn hx60 c4 c2 n 0 (by omega)
    · simp at hok
  · exact eneg hok (sc_j7 t hbt)

end Go.Proofs.Ytkgogglnipdcfaa.Pure
