/- The law FnStated, told over lists: merged either way round, statements have the same members, and what they prove hangs on the members alone; ClaimsIn, MergeStatements and StateFor answer alike on both sides for what is drawn. No condition. -/
import Derived.Test.YtkgogglnipdcfaaQFnStatedx7
import Derived.Test.YtkgogglnipdcfaaPk
namespace Go.Proofs.Ytkgogglnipdcfaa.Pure
open Go.RowKit Go.Proofs.Ytkgogglnipdcfaa.QFnStated Go.Proofs.YtkgogglnipdcfaaW.PrintWords Go.Proofs.YtkgogglnipdcfaaW.PrintLast Go.Proofs.YtkgogglnipdcfaaW.PrintMore Go.Proofs.Ytkgogglnipdcfaa
set_option linter.unusedVariables false
set_option linter.unusedSimpArgs false

open Pk

def inR (lo hi x : Int) : Bool := decide (x ≥ lo) && decide (x ≤ hi)
theorem inR_iff {lo hi x : Int} : inR lo hi x = true ↔ lo ≤ x ∧ x ≤ hi := by simp [inR]
theorem l1In_eq (a lo hi : Int) : spec_l1In.f a lo hi = some (inR lo hi a) := by
  unfold spec_l1In.f inR
  by_cases h : a ≥ lo <;> simp [h]
theorem within_eq (a lo hi : Int) : impl_within.f a lo hi = some (inR lo hi a) := by
  unfold impl_within.f inR
  by_cases h : a ≥ lo <;> simp [h]
def goodC (a b c : Int) : Bool := inR 0 20 a && (inR 0 1000 b && inR 0 100 c)
theorem specGC_eq (a b c : Int) : spec_GoodClaim.f a b c = some (goodC a b c) := by
  unfold spec_GoodClaim.f goodC
  rw [l1In_eq, l1In_eq, l1In_eq]
  cases h : inR 0 20 a <;> cases h1 : inR 0 1000 b <;> simp
theorem implGC_eq (a b c : Int) : impl_GoodClaim.f a b c = some (goodC a b c) := by
  unfold impl_GoodClaim.f impl_isLetterNumber.f goodC
  rw [within_eq, within_eq, within_eq]
  cases h : inR 0 20 a <;> cases h1 : inR 0 1000 b <;> simp
def goodSt (x : S91) : Bool := inR 0 6 x.f0 && goodC x.f1.f0 x.f1.f1 x.f1.f2
def goodSts (xs : List S91) : Bool := xs.all goodSt && decide ((xs.length : Int) ≤ 60)
theorem l12W_eq (a : Int) : spec_l12Witness.f a = some (inR 0 6 a) := by
  unfold spec_l12Witness.f
  rw [l1In_eq]; rfl
theorem specG12_l (xs : List S91) (hn : xs.length ≤ 1048576) : ∀ (d i : Nat), i + d = xs.length → Ev (fun k => spec_l12Good.l0 k xs xs (xs.length : Int) (i : Int)) ((xs.drop i).all goodSt && decide ((xs.length : Int) ≤ 60)) := by
  intro d
  induction d with
  | zero =>
    intro i hi
    refine eround (fun k => by rw [spec_l12Good.l0]) (eneg (by omega) (enow ?_))
    rw [List.drop_eq_nil_of_le (by omega)]; rfl
  | succ d ih =>
    intro i hi
    have hlt : i < xs.length := by omega
    refine eround (fun k => by rw [spec_l12Good.l0]) (epos (by omega) (epos (by omega) (epos (by omega) ?_)))
    rw [show rd_T91 xs (i : Int) = xs[i] from getD_get xs i _ hlt, List.drop_eq_getElem_cons hlt, List.all_cons]
    refine enb (l12W_eq _) ?_
    have hg : goodSt xs[i] = (inR 0 6 xs[i].f0 && goodC xs[i].f1.f0 xs[i].f1.f1 xs[i].f1.f2) := rfl
    cases h : inR 0 6 xs[i].f0 with
    | false => exact eneg (by simp) (enow (by simp [hg, h]))
    | true =>
      refine epos rfl (enb (specGC_eq _ _ _) ?_)
      cases h2 : goodC xs[i].f1.f0 xs[i].f1.f1 xs[i].f1.f2 with
      | false => exact eneg (by simp) (enow (by simp [hg, h2]))
      | true =>
        refine epos rfl ?_
        rw [w64 (by omega) (by omega), hg, h, h2]
        exact ih (i + 1) (by omega)
theorem specG12_e (xs : List S91) (hn : xs.length ≤ 1048576) : Ev (fun k => spec_l12Good.f k xs) (goodSts xs) := specG12_l xs hn xs.length 0 (by omega)
theorem isSt_eq (a b c d : Int) (e : Bool) : impl_isStatement.f a b c d e = some (inR 0 6 a && goodC b c d) := by
  unfold impl_isStatement.f
  rw [within_eq, implGC_eq]
  cases h : inR 0 6 a <;> simp
theorem areSt1_eq (x : S91) : impl_areStatements_1.f x.f0 x.f1.f0 x.f1.f1 x.f1.f2 x.f2 = some (!goodSt x) := by
  unfold impl_areStatements_1.f
  rw [isSt_eq]; rfl
theorem ixSt_l (xs : List S91) (hn : xs.length ≤ 1048576) : ∀ (d i : Nat), i + d = xs.length → ∃ r : Int, Ev (fun k => slices_IndexFunc_228_at_200.l0 k xs (xs.length : Int) (i : Int)) r ∧ -1 ≤ r ∧ r < (xs.length : Int) ∧ (r ≥ 0 ↔ (xs.drop i).any (fun x => !goodSt x) = true) := by
  intro d
  induction d with
  | zero =>
    intro i hi
    refine ⟨-1, eround (fun k => by rw [slices_IndexFunc_228_at_200.l0]) (eneg (by omega) (enow rfl)), by omega, by omega, ?_⟩
    rw [List.drop_eq_nil_of_le (by omega)]; simp
  | succ d ih =>
    intro i hi
    have hlt : i < xs.length := by omega
    obtain ⟨r, h1, h2, h2', h3⟩ := ih (i + 1) (by omega)
    rw [List.drop_eq_getElem_cons hlt, List.any_cons]
    cases h : (fun x : S91 => !goodSt x) xs[i] with
    | true =>
      refine ⟨(i : Int), eround (fun k => by rw [slices_IndexFunc_228_at_200.l0]) (epos (by omega) (epos (by omega) (epos (by omega) ?_))), by omega, by omega, ⟨fun _ => by rw [show (!goodSt xs[i]) = true from h]; rfl, fun _ => by omega⟩⟩
      rw [show rd_T91 xs (i : Int) = xs[i] from getD_get xs i _ hlt]
      exact enb (areSt1_eq _) (epos h (enow rfl))
    | false =>
      refine ⟨r, eround (fun k => by rw [slices_IndexFunc_228_at_200.l0]) (epos (by omega) (epos (by omega) (epos (by omega) ?_))), h2, h2', by rw [show (!goodSt xs[i]) = false from h, Bool.false_or]; exact h3⟩
      rw [show rd_T91 xs (i : Int) = xs[i] from getD_get xs i _ hlt]
      refine enb (areSt1_eq _) (eneg (by rw [show (!goodSt xs[i]) = false from h]; decide) ?_)
      rw [w64 (by omega) (by omega)]
      exact h1
theorem ixSt_e (xs : List S91) (hn : xs.length ≤ 1048576) : ∃ r : Int, Ev (fun k => slices_IndexFunc_228_at_200.f k xs) r ∧ -1 ≤ r ∧ r < (xs.length : Int) ∧ (r ≥ 0 ↔ xs.any (fun x => !goodSt x) = true) := ixSt_l xs hn xs.length 0 (by omega)
theorem implG12_e (xs : List S91) (hn : xs.length ≤ 1048576) : Ev (fun k => impl_areStatements.f k xs) (goodSts xs) := by
  unfold impl_areStatements.f goodSts
  by_cases h : (xs.length : Int) ≤ 60
  · obtain ⟨r, h1, _, _, h3⟩ := ixSt_e xs hn
    refine epos h (ebind (f := fun _ t => some (!t)) (a := decide (r ≥ 0)) ?_ (enow ?_))
    · exact ebind (f := fun _ t => some (decide (t ≥ 0))) h1 (enow rfl)
    · rw [decide_eq_true h, Bool.and_true]
      cases ha : xs.all goodSt with
      | true =>
        have : ¬ r ≥ 0 := by
          rw [h3, List.any_eq_true]
          rintro ⟨x, hx, hx'⟩
          have := List.all_eq_true.1 ha x hx
          simp [this] at hx'
        simp [this]
      | false =>
        have : r ≥ 0 := by
          rw [h3, List.any_eq_true]
          rw [List.all_eq_false] at ha
          obtain ⟨x, hx, hx'⟩ := ha
          exact ⟨x, hx, by simpa using hx'⟩
        simp [this]
  · exact eneg h (enow (by simp [h]))
def hasS (xs : List S91) (h a b c : Int) (f : Bool) : Bool := xs.any (fun x => h == x.f0 && ((a == x.f1.f0 && (b == x.f1.f1 && (c == x.f1.f2))) && (f == x.f2)))
theorem ixS_l (xs : List S91) (h a b c : Int) (f : Bool) (hn : xs.length ≤ 4194304) : ∀ (d i : Nat), i + d = xs.length → ∃ r : Int, Ev (fun k => impl_Statement_204.l0 k xs (xs.length : Int) (i : Int) h a b c f) r ∧ (r ≥ 0 ↔ hasS (xs.drop i) h a b c f = true) := by
  intro d
  induction d with
  | zero =>
    intro i hi
    refine ⟨-1, eround (fun k => by rw [impl_Statement_204.l0]) (eneg (by omega) (enow rfl)), ?_⟩
    rw [List.drop_eq_nil_of_le (by omega)]; simp [hasS]
  | succ d ih =>
    intro i hi
    have hlt : i < xs.length := by omega
    obtain ⟨r, h1, h3⟩ := ih (i + 1) (by omega)
    unfold hasS at h3 ⊢
    rw [List.drop_eq_getElem_cons hlt, List.any_cons]
    cases e : (h == xs[i].f0 && ((a == xs[i].f1.f0 && (b == xs[i].f1.f1 && (c == xs[i].f1.f2))) && (f == xs[i].f2))) with
    | true =>
      refine ⟨(i : Int), eround (fun k => by rw [impl_Statement_204.l0]) (epos (by omega) (epos (by omega) (epos (by omega) ?_))), by simp⟩
      rw [show rd_T91 xs (i : Int) = xs[i] from getD_get xs i _ hlt]
      exact epos e (enow rfl)
    | false =>
      refine ⟨r, eround (fun k => by rw [impl_Statement_204.l0]) (epos (by omega) (epos (by omega) (epos (by omega) ?_))), by rw [Bool.false_or]; exact h3⟩
      rw [show rd_T91 xs (i : Int) = xs[i] from getD_get xs i _ hlt]
      refine eneg (by rw [e]; decide) ?_
      rw [w64 (by omega) (by omega)]
      exact h1
theorem coS_e' (xs : List S91) (h a b c : Int) (f : Bool) (hn : xs.length ≤ 4194304) : Ev (fun k => impl_Statement_144.f k xs h a b c f) (hasS xs h a b c f) := by
  obtain ⟨r, h1, h3⟩ := ixS_l xs h a b c f hn xs.length 0 (by omega)
  refine ebind (f := fun _ t => some (decide (t ≥ 0))) h1 (enow ?_)
  rw [List.drop_zero] at h3
  cases e : hasS xs h a b c f with
  | true => rw [e] at h3; simpa using h3
  | false => rw [e] at h3; simpa using h3
theorem coS_e (xs : List S91) (h a b c : Int) (f : Bool) (hn : xs.length ≤ 1048576) : Ev (fun k => impl_Statement_144.f k xs h a b c f) (hasS xs h a b c f) := coS_e' xs h a b c f (by omega)
theorem hasS_cons (x : S91) (xs : List S91) (h a b c : Int) (f : Bool) : hasS (x :: xs) h a b c f = ((h == x.f0 && ((a == x.f1.f0 && (b == x.f1.f1 && (c == x.f1.f2))) && (f == x.f2))) || hasS xs h a b c f) := rfl
def refF (xs : List S91) (a b c : Int) : Nat → Nat → List Int
  | 0, _ => []
  | d + 1, i => (if hasS xs (i : Int) a b c true = true ∧ hasS xs (i : Int) a b c false = false then [(i : Int)] else []) ++ refF xs a b c d (i + 1)
theorem refF_len (xs : List S91) (a b c : Int) : ∀ d i, (refF xs a b c d i).length ≤ d
  | 0, _ => Nat.le_refl _
  | d + 1, i => by
    have := refF_len xs a b c d (i + 1)
    simp only [refF, List.length_append]
    split <;> simp <;> omega
theorem implRef_l (xs : List S91) (a b c : Int) (hn : xs.length ≤ 1048576) : ∀ (d i : Nat) (out : List Int), i + d = 7 → out.length ≤ i → Ev (fun k => impl_refusedBy.l0 k xs out (i : Int) a b c) (out ++ refF xs a b c d i) := by
  intro d
  induction d with
  | zero =>
    intro i out hi ho
    exact eround (fun k => by rw [impl_refusedBy.l0]) (eneg (by omega) (enow (by simp [refF])))
  | succ d ih =>
    intro i out hi ho
    refine eround (fun k => by rw [impl_refusedBy.l0]) (epos (by omega) (ebind (coS_e _ _ _ _ _ _ hn) ?_))
    rw [w64 (by omega) (by omega)]
    simp only [refF]
    cases h1 : hasS xs (i : Int) a b c true with
    | false =>
      refine eneg (by decide) ?_
      simpa using ih (i + 1) out (by omega) (by omega)
    | true =>
      refine epos rfl (ebind (coS_e _ _ _ _ _ _ hn) ?_)
      cases h2 : hasS xs (i : Int) a b c false with
      | true =>
        refine epos rfl ?_
        simpa using ih (i + 1) out (by omega) (by omega)
      | false =>
        refine eneg (by decide) (epos (by omega) ?_)
        have := ih (i + 1) (out ++ [(i : Int)]) (by omega) (by simp; omega)
        rw [List.append_assoc] at this
        simpa using this
theorem implRef_e (xs : List S91) (a b c : Int) (hn : xs.length ≤ 1048576) : Ev (fun k => impl_refusedBy.f k xs a b c) (refF xs a b c 7 0) := implRef_l xs a b c hn 7 0 [] (by omega) (by simp)
def ltC (x y : S85) : Prop := x.f0 < y.f0 ∨ x.f0 = y.f0 ∧ (x.f1 < y.f1 ∨ x.f1 = y.f1 ∧ x.f2 < y.f2)
instance (x y : S85) : Decidable (ltC x y) := by unfold ltC; infer_instance
theorem ltC_irr (x : S85) : ¬ ltC x x := by unfold ltC; omega
theorem ltC_tr {x y z : S85} (h : ltC x y) (k : ltC y z) : ltC x z := by unfold ltC at *; omega
theorem ltC_tot {x y : S85} (h : ¬ ltC x y) (k : ¬ ltC y x) : x = y := by
  cases x
  cases y
  unfold ltC at h k
  dsimp only at h k
  simp only [S85.mk.injEq]
  omega
/-- Two lists in order with the same members are one. -/
theorem inC_one : ∀ (a b : List S85), a.Pairwise ltC → b.Pairwise ltC → (∀ x, x ∈ a ↔ x ∈ b) → a = b
  | [], [], _, _, _ => rfl
  | [], y :: b, _, _, h => by have := (h y).2 List.mem_cons_self; cases this
  | x :: a, [], _, _, h => by have := (h x).1 List.mem_cons_self; cases this
  | x :: a, y :: b, ha, hb, h => by
    obtain ⟨ha1, ha2⟩ := List.pairwise_cons.1 ha
    obtain ⟨hb1, hb2⟩ := List.pairwise_cons.1 hb
    have e : x = y := by
      rcases List.mem_cons.1 ((h x).1 List.mem_cons_self) with e | hx
      · exact e
      · rcases List.mem_cons.1 ((h y).2 List.mem_cons_self) with e | hy
        · exact e.symm
        · exact absurd (ltC_tr (ha1 y hy) (hb1 x hx)) (ltC_irr x)
    subst e
    congr 1
    refine inC_one a b ha2 hb2 fun z => ⟨fun hz => ?_, fun hz => ?_⟩
    · rcases List.mem_cons.1 ((h z).1 (List.mem_cons_of_mem _ hz)) with e | h2
      · exact absurd (e ▸ ha1 z hz) (ltC_irr x)
      · exact h2
    · rcases List.mem_cons.1 ((h z).2 (List.mem_cons_of_mem _ hz)) with e | h2
      · exact absurd (e ▸ hb1 z hz) (ltC_irr x)
      · exact h2
/-- A claim comes to its place, once. -/
def insC : List S85 → S85 → List S85
  | [], c => [c]
  | x :: r, c => if ltC x c then x :: insC r c else if x = c then x :: r else c :: x :: r
theorem insC_mem (c z : S85) : ∀ l, z ∈ insC l c ↔ z = c ∨ z ∈ l
  | [] => by simp [insC]
  | x :: r => by
    unfold insC
    split
    · rw [List.mem_cons, insC_mem c z r, List.mem_cons]
      constructor
      · rintro (h | h | h) <;> simp [h]
      · rintro (h | h | h) <;> simp [h]
    · split
      · next e => subst e; simp
      · simp
theorem insC_order (c : S85) : ∀ l : List S85, l.Pairwise ltC → (insC l c).Pairwise ltC
  | [], _ => by simp [insC]
  | x :: r, h => by
    obtain ⟨h1, h2⟩ := List.pairwise_cons.1 h
    unfold insC
    split
    · next hl =>
      refine List.pairwise_cons.2 ⟨fun z hz => ?_, insC_order c r h2⟩
      rcases (insC_mem c z r).1 hz with rfl | hz
      · exact hl
      · exact h1 z hz
    · next hl =>
      split
      · exact h
      · next hne =>
        have hcx : ltC c x := Decidable.byContradiction fun hn => hne (ltC_tot hl hn)
        refine List.pairwise_cons.2 ⟨fun z hz => ?_, h⟩
        rcases List.mem_cons.1 hz with rfl | hz
        · exact hcx
        · exact ltC_tr hcx (h1 z hz)
theorem insC_len (c : S85) : ∀ l, (insC l c).length ≤ l.length + 1
  | [] => by simp [insC]
  | x :: r => by
    have := insC_len c r
    unfold insC
    split
    · simpa using this
    · split <;> simp
def clsC (l : List S91) : List S85 := l.foldl (fun out s => insC out s.f1) []
theorem clsC_fold : ∀ (l : List S91) (out : List S85), out.Pairwise ltC → (l.foldl (fun out s => insC out s.f1) out).Pairwise ltC ∧ (∀ z, z ∈ l.foldl (fun out s => insC out s.f1) out ↔ z ∈ out ∨ ∃ s ∈ l, s.f1 = z) ∧ (l.foldl (fun out s => insC out s.f1) out).length ≤ out.length + l.length
  | [], out, h => ⟨h, fun z => by simp, by simp⟩
  | s :: l, out, h => by
    obtain ⟨h1, h2, h3⟩ := clsC_fold l (insC out s.f1) (insC_order s.f1 out h)
    refine ⟨h1, fun z => ?_, ?_⟩
    · rw [List.foldl_cons, h2 z, insC_mem]
      constructor
      · rintro ((h | h) | ⟨t, ht, h⟩)
        · exact .inr ⟨s, List.mem_cons_self, h.symm⟩
        · exact .inl h
        · exact .inr ⟨t, List.mem_cons_of_mem _ ht, h⟩
      · rintro (h | ⟨t, ht, h⟩)
        · exact .inl (.inr h)
        · rcases List.mem_cons.1 ht with rfl | ht
          · exact .inl (.inl h.symm)
          · exact .inr ⟨t, ht, h⟩
    · have := insC_len s.f1 out
      rw [List.foldl_cons, List.length_cons]
      omega
theorem clsC_in (l : List S91) : (clsC l).Pairwise ltC ∧ (∀ z, z ∈ clsC l ↔ ∃ s ∈ l, s.f1 = z) ∧ (clsC l).length ≤ l.length := by
  obtain ⟨h1, h2, h3⟩ := clsC_fold l [] List.Pairwise.nil
  exact ⟨h1, fun z => by rw [clsC, h2 z]; simp, by rw [clsC]; simpa using h3⟩
/-! the reference's -/
theorem l12Less_eq (x y : S85) : spec_l12Less.f x.f0 x.f1 x.f2 y.f0 y.f1 y.f2 = some (decide (ltC x y)) := by
  have e : ∀ (p : Prop) [Decidable p], (p ↔ ltC x y) → some (decide p) = some (decide (ltC x y)) := fun p _ hp => congrArg some (decide_eq_decide.2 hp)
  unfold spec_l12Less.f
  by_cases h0 : x.f0 = y.f0
  · rw [if_pos h0]
    by_cases h1 : x.f1 = y.f1
    · rw [if_pos h1]
      exact e _ (by unfold ltC; omega)
    · rw [if_neg h1]
      exact e _ (by unfold ltC; omega)
  · rw [if_neg h0]
    exact e _ (by unfold ltC; omega)
theorem specIns_l (out : List S85) (xs : List S91) (n j a : Int) (c : S85) (e : Bool) (hn : out.length ≤ 2097152) {r : List S85} : ∀ (d i : Nat), i + d = out.length →
    Ev (fun k => spec_l12Claims.l0 k (out.take i ++ insC (out.drop i) c) xs n (wrap64 (j + 1))) r → Ev (fun k => spec_l12Claims.l1 k out (i : Int) xs n j a c.f0 c.f1 c.f2 e) r := by
  intro d
  induction d with
  | zero =>
    intro i hi h
    rw [List.drop_eq_nil_of_le (by omega), List.take_of_length_le (by omega)] at h
    refine eround (fun k => by rw [spec_l12Claims.l1]) (eneg (by omega) ?_)
    refine enb rfl (epos (by omega) (epos (by omega) (enb rfl (epos ?_ (enb rfl (epos ?_ (enb rfl (enb rfl (epos ?_ ?_)))))))))
    · simp; omega
    · simp; omega
    · simp; omega
    · have e1 : ([] ++ List.take ((i : Int)).toNat out ++ [(⟨c.f0, c.f1, c.f2⟩ : S85)] ++ List.drop ((i : Int)).toNat out) = out ++ insC [] c := by
        rw [Int.toNat_natCast, List.drop_eq_nil_of_le (by omega), List.take_of_length_le (by omega)]
        simp [insC]
      rw [e1]
      exact h
  | succ d ih =>
    intro i hi h
    have hlt : i < out.length := by omega
    refine eround (fun k => by rw [spec_l12Claims.l1]) (epos (by omega) (epos (by omega) ?_))
    rw [show rd_T85 out (i : Int) = out[i] from getD_get out i _ hlt]
    refine enb (l12Less_eq out[i] c) ?_
    rw [List.drop_eq_getElem_cons hlt] at h
    by_cases hc : ltC out[i] c
    · refine epos (by simpa using hc) ?_
      rw [w64 (by omega) (by omega)]
      refine ih (i + 1) (by omega) ?_
      rw [List.take_succ_eq_append_getElem hlt, List.append_assoc]
      simp only [insC, if_pos hc] at h
      exact h
    · refine eneg (by simpa using hc) ?_
      by_cases he : out[i] = c
      · refine epos (by simp [he]) ?_
        simp only [insC, if_neg hc, if_pos he] at h
        rwa [← List.drop_eq_getElem_cons hlt, List.take_append_drop] at h
      · refine eneg (by simp only [Bool.and_eq_true, beq_iff_eq]; intro hh; exact he (by cases hq : out[i]; cases c; rw [hq] at hh; simp only [S85.mk.injEq]; exact hh)) ?_
        simp only [insC, if_neg hc, if_neg he] at h
        refine enb rfl (epos (by omega) (enb rfl (epos ?_ (enb rfl (epos ?_ (enb rfl (enb rfl (epos ?_ ?_))))))))
        · simp; omega
        · simp; omega
        · simp; omega
        · have e1 : ([] ++ List.take ((i : Int)).toNat out ++ [(⟨c.f0, c.f1, c.f2⟩ : S85)] ++ List.drop ((i : Int)).toNat out) = out.take i ++ c :: out[i] :: out.drop (i + 1) := by
            rw [Int.toNat_natCast, List.drop_eq_getElem_cons hlt]
            simp
          rw [e1]
          exact h
theorem specCls_l (xs : List S91) (hn : xs.length ≤ 1048576) : ∀ (d i : Nat) (out : List S85), i + d = xs.length → out.length ≤ i → Ev (fun k => spec_l12Claims.l0 k out xs (xs.length : Int) (i : Int)) ((xs.drop i).foldl (fun out s => insC out s.f1) out) := by
  intro d
  induction d with
  | zero =>
    intro i out hi ho
    refine eround (fun k => by rw [spec_l12Claims.l0]) (eneg (by omega) (enow ?_))
    rw [List.drop_eq_nil_of_le (by omega)]
    rfl
  | succ d ih =>
    intro i out hi ho
    have hlt : i < xs.length := by omega
    refine eround (fun k => by rw [spec_l12Claims.l0]) (epos (by omega) (epos (by omega) (epos (by omega) ?_)))
    rw [show rd_T91 xs (i : Int) = xs[i] from getD_get xs i _ hlt, List.drop_eq_getElem_cons hlt, List.foldl_cons]
    refine specIns_l out xs (xs.length : Int) (i : Int) xs[i].f0 xs[i].f1 xs[i].f2 (by omega) out.length 0 (by omega) ?_
    rw [List.take_zero, List.drop_zero, List.nil_append, w64 (by omega) (by omega)]
    exact ih (i + 1) (insC out xs[i].f1) (by omega) (by have := insC_len xs[i].f1 out; omega)
theorem specCls_e (xs : List S91) (hn : xs.length ≤ 1048576) : Ev (fun k => spec_l12Claims.f k xs) (clsC xs) := specCls_l xs hn xs.length 0 [] (by omega) (by simp)
/-! the program's -/
theorem ltC_lt (x y : S85) : Go.Proofs.ltOf impl_compareClaims.cf x y = decide (ltC x y) := by
  rw [impl_compareClaims.ltcf]
  exact decide_eq_decide.2 Iff.rfl
def leC (x y : S85) : Prop := ¬ ltC y x
instance (x y : S85) : Decidable (leC x y) := by unfold leC; infer_instance
theorem leC_tr {x y z : S85} (h : leC x y) (k : leC y z) : leC x z := by unfold leC ltC at *; omega
/-- What compacting keeps of a list in order. -/
theorem compC_in (d : List S85) (hd : d.Pairwise leC) : (Lib.compactUpTo d.toArray d.length).Pairwise ltC ∧ ∀ x, x ∈ Lib.compactUpTo d.toArray d.length ↔ x ∈ d := by
  have hg : ∀ i (h : i < d.length), d.toArray[i]! = d[i] := fun i h => by rw [getElem!_pos d.toArray i (by simpa using h)]; simp
  have hle : ∀ i j (h : i < j) (hj : j < d.length), leC d[i] d[j] := fun i j h hj => List.pairwise_iff_getElem.1 hd i j (by omega) hj h
  constructor
  · unfold Lib.compactUpTo
    rw [List.pairwise_map, List.pairwise_filter]
    refine (List.pairwise_lt_range).imp_of_mem ?_
    intro i j hi hj hij ki kj
    rw [List.mem_range] at hi hj
    rw [hg i hi, hg j hj]
    have k2 : d[j] ≠ d[j - 1] := by
      unfold Lib.keeps at kj
      rw [decide_eq_true_eq] at kj
      rcases kj with h | h
      · omega
      · rwa [hg j hj, hg (j - 1) (by omega)] at h
    refine Decidable.byContradiction fun hn => k2 ?_
    have h1 : leC d[j - 1] d[j] := hle (j - 1) j (by omega) hj
    refine ltC_tot ?_ ?_
    · exact h1
    · intro hlt
      have h2 : leC d[i] d[j - 1] := by
        rcases Nat.lt_or_ge i (j - 1) with h | h
        · exact hle i (j - 1) h (by omega)
        · have : i = j - 1 := by omega
          subst this
          exact ltC_irr _
      unfold leC at h2
      unfold ltC at hn hlt h2
      omega
  · intro x
    unfold Lib.compactUpTo
    rw [List.mem_map]
    constructor
    · rintro ⟨i, hi, rfl⟩
      have hi2 := List.mem_range.1 (List.mem_filter.1 hi).1
      rw [hg i hi2]
      exact List.getElem_mem hi2
    · intro hx
      obtain ⟨i, hi, rfl⟩ := List.getElem_of_mem hx
      have key : ∀ n (hn : n < d.length), ∃ j, j ∈ (List.range d.length).filter (Lib.keeps d.toArray) ∧ d.toArray[j]! = d[n] := by
        intro n
        induction n with
        | zero => exact fun hn => ⟨0, List.mem_filter.2 ⟨List.mem_range.2 hn, by simp [Lib.keeps]⟩, hg 0 hn⟩
        | succ n ih =>
          intro hn
          by_cases he : d[n + 1] = d[n]
          · obtain ⟨j, h1, h2⟩ := ih (by omega)
            exact ⟨j, h1, h2.trans he.symm⟩
          · refine ⟨n + 1, List.mem_filter.2 ⟨List.mem_range.2 hn, ?_⟩, hg _ hn⟩
            unfold Lib.keeps
            rw [decide_eq_true_eq, hg _ hn, show n + 1 - 1 = n from rfl, hg n (by omega)]
            exact .inr he
      exact key i hi
theorem sortC_in (d : List S85) : (d.mergeSort slices_SortFunc_201_at_202.le).Pairwise leC := by
  have hle : ∀ x y, slices_SortFunc_201_at_202.le x y = decide (leC x y) := by
    intro x y
    unfold slices_SortFunc_201_at_202.le
    rw [ltC_lt, ← decide_not]
    exact decide_eq_decide.2 Iff.rfl
  have h := List.pairwise_mergeSort (le := slices_SortFunc_201_at_202.le) (fun a b c h1 h2 => by
    rw [hle] at *
    rw [decide_eq_true_eq] at *
    exact leC_tr h1 h2) (fun a b => by
    rw [hle, hle, Bool.or_eq_true, decide_eq_true_eq, decide_eq_true_eq]
    unfold leC ltC
    omega) d
  exact h.imp (fun h => by rw [hle, decide_eq_true_eq] at h; exact h)
theorem sameC (xs : List S91) : Lib.compactUpTo ((xs.map (·.f1)).mergeSort slices_SortFunc_201_at_202.le).toArray ((xs.map (·.f1)).mergeSort slices_SortFunc_201_at_202.le).length = clsC xs := by
  obtain ⟨h1, h2⟩ := compC_in _ (sortC_in (xs.map (·.f1)))
  obtain ⟨g1, g2, _⟩ := clsC_in xs
  refine inC_one _ _ h1 g1 fun x => ?_
  rw [h2, g2, List.mem_mergeSort, List.mem_map]
theorem implCls_l (xs : List S91) (hn : xs.length ≤ 1048576) : ∀ (d i : Nat), i + d = xs.length → Ev (fun k => impl_claimsIn.l0 k ((xs.take i).map (·.f1)) xs (xs.length : Int) (i : Int)) (clsC xs) := by
  intro d
  induction d with
  | zero =>
    intro i hi
    refine eround (fun k => by rw [impl_claimsIn.l0]) (eneg (by omega) ?_)
    rw [List.take_of_length_le (by omega)]
    have e1 : slices_SortFunc_201_at_202.f (xs.map (·.f1)) = some ((xs.map (·.f1)).mergeSort slices_SortFunc_201_at_202.le) := by
      unfold slices_SortFunc_201_at_202.f
      rw [if_pos (by simp; omega)]
    refine enb e1 (enb (a := clsC xs) ?_ (enow rfl))
    unfold impl_Claim_203.f
    rw [sameC]
  | succ d ih =>
    intro i hi
    have hlt : i < xs.length := by omega
    refine eround (fun k => by rw [impl_claimsIn.l0]) (epos (by omega) (epos (by omega) (epos (by omega) (epos (by simp; omega) ?_))))
    rw [show rd_T91 xs (i : Int) = xs[i] from getD_get xs i _ hlt, w64 (by omega) (by omega)]
    have e1 : (xs.take i).map (·.f1) ++ [(⟨xs[i].f1.f0, xs[i].f1.f1, xs[i].f1.f2⟩ : S85)] = (xs.take (i + 1)).map (·.f1) := by
      rw [List.take_succ_eq_append_getElem hlt, List.map_append]
      rfl
    rw [e1]
    exact ih (i + 1) (by omega)
theorem implCls_e (xs : List S91) (hn : xs.length ≤ 1048576) : Ev (fun k => impl_claimsIn.f k xs) (clsC xs) := implCls_l xs hn xs.length 0 (by omega)
theorem hasS_mem (xs : List S91) (h a b c : Int) (f : Bool) : hasS xs h a b c f = true ↔ (⟨h, ⟨a, b, c⟩, f⟩ : S91) ∈ xs := by
  unfold hasS
  rw [List.any_eq_true]
  constructor
  · rintro ⟨⟨h', ⟨a', b', c'⟩, f'⟩, hx, e⟩
    simp only [Bool.and_eq_true, beq_iff_eq] at e
    obtain ⟨e1, ⟨e2, e3, e4⟩, e5⟩ := e
    rw [e1, e2, e3, e4, e5]
    exact hx
  · intro hx
    exact ⟨_, hx, by simp⟩
theorem hasS_same {xs ys : List S91} (H : ∀ z, z ∈ xs ↔ z ∈ ys) (h a b c : Int) (f : Bool) : hasS xs h a b c f = hasS ys h a b c f := by
  rw [Bool.eq_iff_iff, hasS_mem, hasS_mem]
  exact H _
theorem refF_same {xs ys : List S91} (H : ∀ z, z ∈ xs ↔ z ∈ ys) (a b c : Int) : ∀ d i, refF xs a b c d i = refF ys a b c d i
  | 0, _ => rfl
  | d + 1, i => by
    simp only [refF]
    rw [hasS_same H, hasS_same H, refF_same H a b c d (i + 1)]
theorem clsC_same {xs ys : List S91} (H : ∀ z, z ∈ xs ↔ z ∈ ys) : clsC xs = clsC ys := by
  obtain ⟨h1, h2, _⟩ := clsC_in xs
  obtain ⟨k1, k2, _⟩ := clsC_in ys
  refine inC_one _ _ h1 k1 fun z => ?_
  rw [h2, k2]
  exact ⟨fun ⟨s, hs, e⟩ => ⟨s, (H s).1 hs, e⟩, fun ⟨s, hs, e⟩ => ⟨s, (H s).2 hs, e⟩⟩
theorem clsC_good {xs : List S91} (g : goodSts xs = true) {z : S85} (hz : z ∈ clsC xs) : goodC z.f0 z.f1 z.f2 = true := by
  obtain ⟨s, hs, rfl⟩ := ((clsC_in xs).2.1 z).1 hz
  unfold goodSts at g
  rw [Bool.and_eq_true, List.all_eq_true] at g
  have := g.1 s hs
  unfold goodSt at this
  rw [Bool.and_eq_true] at this
  exact this.2
theorem goodSts_same {xs ys : List S91} (H : ∀ z, z ∈ xs ↔ z ∈ ys) (hl : ys.length ≤ 60) (g : goodSts xs = true) : goodSts ys = true := by
  unfold goodSts at *
  rw [Bool.and_eq_true, List.all_eq_true] at *
  exact ⟨fun z hz => g.1 z ((H z).2 hz), decide_eq_true (by omega)⟩
theorem goodSts_len {xs : List S91} (g : goodSts xs = true) : xs.length ≤ 60 := by
  unfold goodSts at g
  rw [Bool.and_eq_true, decide_eq_true_eq] at g
  omega
def fin60 (l : List S91) : List S91 × Bool := if (l.length : Int) > 60 then ([], false) else (l, true)
def mgF (xs : List S91) : List S91 → List S91
  | [] => xs
  | y :: ys => mgF (if hasS xs y.f0 y.f1.f0 y.f1.f1 y.f1.f2 y.f2 = true then xs else xs ++ [y]) ys
theorem mgF_len : ∀ (ys xs : List S91), (mgF xs ys).length ≤ xs.length + ys.length
  | [], _ => by simp [mgF]
  | y :: ys, xs => by
    have := mgF_len ys (if hasS xs y.f0 y.f1.f0 y.f1.f1 y.f1.f2 y.f2 = true then xs else xs ++ [y])
    simp only [mgF, List.length_cons]
    split at this <;> simp_all <;> omega
def mgR (xs ys : List S91) : List S91 × Bool := if goodSts xs && goodSts ys then fin60 (mgF xs ys) else ([], false)
theorem mgR_len (xs ys : List S91) : (mgR xs ys).1.length ≤ 60 := by
  unfold mgR
  split
  · unfold fin60; split <;> simp <;> omega
  · simp
theorem flip (x : S91) (h a b c : Int) (f : Bool) : (x.f0 == h && ((x.f1.f0 == a && (x.f1.f1 == b && (x.f1.f2 == c))) && (x.f2 == f))) = (h == x.f0 && ((a == x.f1.f0 && (b == x.f1.f1 && (c == x.f1.f2))) && (f == x.f2))) := by
  rw [BEq.comm (a := x.f0), BEq.comm (a := x.f1.f0), BEq.comm (a := x.f1.f1), BEq.comm (a := x.f1.f2), BEq.comm (a := x.f2)]
theorem specM_l1 (ys : List S91) (hm : ys.length ≤ 1048576) (xs : List S91) (hn : xs.length ≤ 4194304) (j : Nat) (h a b c : Int) (f : Bool) (R : List S91 × Bool)
    (H : Ev (fun k => spec_MergeStatements.l0 k (if hasS xs h a b c f = true then xs else xs ++ [(⟨h, ⟨a, b, c⟩, f⟩ : S91)]) ys (ys.length : Int) (wrap64 ((j : Int) + 1))) R) :
    ∀ (d i : Nat) (y : Bool), i + d = xs.length → (y || hasS (xs.drop i) h a b c f) = hasS xs h a b c f → Ev (fun k => spec_MergeStatements.l1 k xs y ys (ys.length : Int) (j : Int) (xs.length : Int) (i : Int) h a b c f) R := by
  intro d
  induction d with
  | zero =>
    intro i y hi hy
    rw [List.drop_eq_nil_of_le (by omega)] at hy
    have hy' : y = hasS xs h a b c f := by simpa [hasS] using hy
    refine eround (fun k => by rw [spec_MergeStatements.l1]) (eneg (by omega) ?_)
    rw [hy']
    cases h1 : hasS xs h a b c f with
    | true => refine epos rfl ?_; simpa [h1] using H
    | false => refine eneg (by decide) (epos (by omega) ?_); simpa [h1] using H
  | succ d ih =>
    intro i y hi hy
    have hlt : i < xs.length := by omega
    rw [List.drop_eq_getElem_cons hlt, hasS_cons] at hy
    refine eround (fun k => by rw [spec_MergeStatements.l1]) (epos (by omega) (epos (by omega) (epos (by omega) ?_)))
    rw [show rd_T91 xs (i : Int) = xs[i] from getD_get xs i _ hlt, w64 (x := (i : Int) + 1) (by omega) (by omega), flip]
    cases y with
    | true => exact epos rfl (ih (i + 1) true (by omega) (by simpa using hy))
    | false => exact eneg (by decide) (ih (i + 1) _ (by omega) (by simpa using hy))
theorem mg_step {c : Prop} [Decidable c] (xs : List S91) (y : S91) {j : Nat} (h : xs.length ≤ 1048576 + j) (_ : Nat) : (if c then xs else xs ++ [y]).length ≤ 1048576 + (j + 1) := by
  split
  · omega
  · simp; omega
theorem specM_l (ys : List S91) (hm : ys.length ≤ 1048576) : ∀ (d j : Nat) (xs : List S91), j + d = ys.length → xs.length ≤ 1048576 + j → Ev (fun k => spec_MergeStatements.l0 k xs ys (ys.length : Int) (j : Int)) (fin60 (mgF xs (ys.drop j))) := by
  intro d
  induction d with
  | zero =>
    intro j xs hj hx
    refine eround (fun k => by rw [spec_MergeStatements.l0]) (eneg (by omega) ?_)
    rw [List.drop_eq_nil_of_le (by omega)]
    rw [show mgF xs [] = xs from rfl]
    unfold fin60
    by_cases h : (xs.length : Int) > 60
    · exact epos h (enow (by simp [h]))
    · exact eneg h (enow (by simp [h]))
  | succ d ih =>
    intro j xs hj hx
    have hlt : j < ys.length := by omega
    refine eround (fun k => by rw [spec_MergeStatements.l0]) (epos (by omega) (epos (by omega) (epos (by omega) ?_)))
    rw [show rd_T91 ys (j : Int) = ys[j] from getD_get ys j _ hlt, List.drop_eq_getElem_cons hlt]
    refine specM_l1 ys hm xs (by omega) j _ _ _ _ _ _ ?_ xs.length 0 false (by omega) (by simp)
    rw [w64 (by omega) (by omega)]
    rw [mgF]
    have := ih (j + 1) (if hasS xs ys[j].f0 ys[j].f1.f0 ys[j].f1.f1 ys[j].f1.f2 ys[j].f2 = true then xs else xs ++ [ys[j]]) (by omega) (mg_step _ _ hx j)
    exact this
theorem implM_l (ys : List S91) (hm : ys.length ≤ 1048576) : ∀ (d j : Nat) (xs : List S91), j + d = ys.length → xs.length ≤ 1048576 + j → Ev (fun k => impl_MergeStatements.l0 k xs ys (ys.length : Int) (j : Int)) (fin60 (mgF xs (ys.drop j))) := by
  intro d
  induction d with
  | zero =>
    intro j xs hj hx
    refine eround (fun k => by rw [impl_MergeStatements.l0]) (eneg (by omega) ?_)
    rw [List.drop_eq_nil_of_le (by omega)]
    rw [show mgF xs [] = xs from rfl]
    unfold fin60
    by_cases h : (xs.length : Int) > 60
    · exact epos h (enow (by simp [h]))
    · exact eneg h (enow (by simp [h]))
  | succ d ih =>
    intro j xs hj hx
    have hlt : j < ys.length := by omega
    refine eround (fun k => by rw [impl_MergeStatements.l0]) (epos (by omega) (epos (by omega) (epos (by omega) ?_)))
    rw [show rd_T91 ys (j : Int) = ys[j] from getD_get ys j _ hlt, List.drop_eq_getElem_cons hlt]
    refine ebind (coS_e' xs _ _ _ _ _ (by omega)) ?_
    rw [w64 (by omega) (by omega)]
    rw [mgF]
    have := ih (j + 1) (if hasS xs ys[j].f0 ys[j].f1.f0 ys[j].f1.f1 ys[j].f1.f2 ys[j].f2 = true then xs else xs ++ [ys[j]]) (by omega) (mg_step _ _ hx j)
    cases h : hasS xs ys[j].f0 ys[j].f1.f0 ys[j].f1.f1 ys[j].f1.f2 ys[j].f2 with
    | true => refine epos rfl ?_; simpa [h] using this
    | false => refine eneg (by decide) (epos (by omega) ?_); simpa [h] using this
theorem specM_e (xs ys : List S91) (hn : xs.length ≤ 1048576) (hm : ys.length ≤ 1048576) : Ev (fun k => spec_MergeStatements.f k xs ys) (mgR xs ys) := by
  unfold spec_MergeStatements.f mgR
  refine ebind (specG12_e xs hn) ?_
  cases h1 : goodSts xs with
  | false => exact eneg (by decide) (eround (fun k => by rw [spec_MergeStatements.j0]) (epos rfl (enow (by simp))))
  | true =>
    refine epos rfl (ebind (specG12_e ys hm) (eround (fun k => by rw [spec_MergeStatements.j0]) ?_))
    cases h2 : goodSts ys with
    | false => exact epos rfl (enow (by simp))
    | true =>
      refine eneg (by decide) (enb rfl ?_)
      simp only [List.nil_append, List.length_nil, Nat.zero_add]
      exact epos (by omega) (by simpa using specM_l ys hm ys.length 0 xs (by omega) (by omega))
theorem implM_e (xs ys : List S91) (hn : xs.length ≤ 1048576) (hm : ys.length ≤ 1048576) : Ev (fun k => impl_MergeStatements.f k xs ys) (mgR xs ys) := by
  unfold impl_MergeStatements.f mgR
  refine ebind (implG12_e xs hn) ?_
  cases h1 : goodSts xs with
  | false => exact eneg (by decide) (eround (fun k => by rw [impl_MergeStatements.j0]) (epos rfl (enow (by simp))))
  | true =>
    refine epos rfl (ebind (implG12_e ys hm) (eround (fun k => by rw [impl_MergeStatements.j0]) ?_))
    cases h2 : goodSts ys with
    | false => exact epos rfl (enow (by simp))
    | true =>
      refine eneg (by decide) (enb (a := xs) ?_ ?_)
      · unfold impl_Statement_143.f
        simp only [List.nil_append, List.length_nil, Nat.zero_add, Option.bind_some]
        rw [if_pos (by omega)]
      · simpa using implM_l ys hm ys.length 0 xs (by omega) (by omega)
def ciR (xs : List S91) : List S85 × Bool := if goodSts xs then (clsC xs, true) else ([], false)
theorem ciR_len (xs : List S91) : (ciR xs).1.length ≤ xs.length := by
  unfold ciR
  split
  · exact (clsC_in xs).2.2
  · simp
theorem specCI_e (xs : List S91) (hn : xs.length ≤ 1048576) : Ev (fun k => spec_ClaimsIn.f k xs) (ciR xs) := by
  unfold spec_ClaimsIn.f ciR
  refine ebind (specG12_e xs hn) ?_
  cases h1 : goodSts xs with
  | false => exact eneg (by decide) (enow (by simp))
  | true => exact epos rfl (ebind (specCls_e xs hn) (enow (by simp)))
theorem implCI_e (xs : List S91) (hn : xs.length ≤ 1048576) : Ev (fun k => impl_ClaimsIn.f k xs) (ciR xs) := by
  unfold impl_ClaimsIn.f ciR
  refine ebind (implG12_e xs hn) ?_
  cases h1 : goodSts xs with
  | false => exact eneg (by decide) (enow (by simp))
  | true => exact epos rfl (ebind (implCls_e xs hn) (enow (by simp)))
def rbR (xs : List S91) (a b c : Int) : List Int × Bool := if goodSts xs && goodC a b c then (refF xs a b c 7 0, true) else ([], false)
theorem implRB_e (xs : List S91) (a b c : Int) (hn : xs.length ≤ 1048576) : Ev (fun k => impl_RefusedBy.f k xs a b c) (rbR xs a b c) := by
  unfold impl_RefusedBy.f rbR
  refine ebind (implG12_e xs hn) ?_
  cases h1 : goodSts xs with
  | false => exact eneg (by decide) (enow (by simp))
  | true =>
    refine epos rfl (enb (implGC_eq _ _ _) ?_)
    cases h2 : goodC a b c with
    | false => exact eneg (by decide) (enow (by simp))
    | true => exact epos rfl (ebind (implRef_e xs a b c hn) (enow (by simp)))
theorem rbR_len (xs : List S91) (a b c : Int) : (rbR xs a b c).1.length ≤ 7 := by
  unfold rbR; split
  · exact refF_len xs a b c 7 0
  · simp
/-! the cursor of what is drawn -/
def bytes (s : List Int) : Prop := ∀ x ∈ s, 0 ≤ x ∧ x ≤ 255
theorem bytes_of {s : List Int} (h : ∀ x ∈ s, (Lit.int .u8 x).wf = true) : bytes s := by
  intro x hx
  have := h x hx
  simp [Lit.wf, IntKind.min, IntKind.max, IntKind.bits, IntKind.signed] at this
  omega
theorem u64_range (y : Int) : 0 ≤ IntKind.u64.wrap y ∧ IntKind.u64.wrap y < 18446744073709551616 := by
  simp only [IntKind.wrap, IntKind.bits, IntKind.signed]
  constructor
  · simp; omega
  · simp; omega
theorem wraps_u64 (n : Int) (h0 : 0 ≤ n) (h1 : n < 2 ^ 62) : IntKind.u64.wrap n = n := by
  have : (2 : Int) ^ 62 = 4611686018427387904 := by decide
  exact u64_wrap_small n h0 (by omega)
theorem and255 (x : Int) (h0 : 0 ≤ x) (h1 : x < 4611686018427387904) : 0 ≤ Go.bits .and .u64 x 255 ∧ Go.bits .and .u64 x 255 ≤ 255 := by
  obtain ⟨a, rfl⟩ := Int.eq_ofNat_of_zero_le h0
  have ha : a < 2 ^ 62 := by have : (2 : Nat) ^ 62 = 4611686018427387904 := by decide
                             omega
  have := (bits_nat .u64 62 (by decide) wraps_u64 a 255 ha (by decide)).1
  rw [show ((255 : Nat) : Int) = 255 from rfl] at this
  rw [this]
  have : a &&& 255 ≤ 255 := Nat.and_le_right
  omega
theorem and_u64 (y : Int) : 0 ≤ wrap64 (Go.bits .and .u64 (IntKind.u64.wrap y / 1099511627776) 255) ∧ wrap64 (Go.bits .and .u64 (IntKind.u64.wrap y / 1099511627776) 255) ≤ 255 := by
  have r := u64_range y
  have := and255 (IntKind.u64.wrap y / 1099511627776) (by omega) (by omega)
  rw [w64 (by omega) (by omega)]
  exact this
theorem bytes_rd {s : List Int} (hb : bytes s) (p : Int) (h0 : 0 ≤ p) (h1 : p < s.length) : 0 ≤ rd s p ∧ rd s p ≤ 255 := by
  obtain ⟨i, rfl⟩ := Int.eq_ofNat_of_zero_le h0
  rw [rd_get s i (by omega)]
  exact hb _ (List.getElem_mem _)
theorem next_e (s : List Int) (hb : bytes s) (p x : Int) (h0 : 0 ≤ p) (h1 : p ≤ 1152921504606846976) : ∃ v x', spec_l1Cur_next.f s p x = some (v, p + 1, x') ∧ 0 ≤ v ∧ v ≤ 255 := by
  unfold spec_l1Cur_next.f
  rw [w64 (x := p + 1) (by omega) (by omega)]
  by_cases h : p < (s.length : Int)
  · have := bytes_rd hb p h0 h
    rw [w64 (x := rd s p) (by omega) (by omega), if_pos h, if_pos h0, if_pos (by omega)]
    exact ⟨_, _, rfl, this⟩
  · rw [if_neg h, if_neg (by omega)]
    exact ⟨_, _, rfl, and_u64 _⟩
theorem tmod_range (v n : Int) (h0 : 0 ≤ v) (h : 1 < n) : 0 ≤ Int.tmod v n ∧ Int.tmod v n < n := by
  rw [Int.tmod_eq_emod_of_nonneg h0]
  exact ⟨Int.emod_nonneg _ (by omega), Int.emod_lt_of_pos _ (by omega)⟩
theorem pick_e (s : List Int) (hb : bytes s) (p x n : Int) (h0 : 0 ≤ p) (h1 : p ≤ 1152921504606846900) : ∃ r p' x', spec_l1Cur_pick.f s p x n = some (r, p', x') ∧ (0 ≤ r ∧ (n ≤ 1 → r = 0) ∧ (1 < n → r < n)) ∧ p ≤ p' ∧ p' ≤ p + 2 := by
  unfold spec_l1Cur_pick.f
  by_cases hn : n ≤ 1
  · exact ⟨0, p, x, by rw [if_pos hn], ⟨by omega, fun _ => rfl, fun h => by omega⟩, by omega, by omega⟩
  · rw [if_neg hn]
    obtain ⟨v, x', e, v0, v1⟩ := next_e s hb p x h0 (by omega)
    rw [e, Option.bind_some]
    by_cases h2 : n > 200
    · obtain ⟨u, x'', e', u0, u1⟩ := next_e s hb (p + 1) x' (by omega) (by omega)
      rw [if_pos h2]
      simp only [e', Option.bind_some]
      rw [if_neg (by omega), w64 (x := v * 256) (by omega) (by omega), w64 (by omega) (by omega)]
      have := tmod_range (v * 256 + u) n (by omega) (by omega)
      exact ⟨_, _, _, rfl, ⟨this.1, fun h => by omega, fun _ => this.2⟩, by omega, by omega⟩
    · rw [if_neg h2, if_neg (by omega)]
      have := tmod_range v n v0 (by omega)
      exact ⟨_, p + 1, x', rfl, ⟨this.1, fun h => by omega, fun _ => this.2⟩, by omega, by omega⟩
theorem one_e (s : List Int) (hb : bytes s) (p x n : Int) (h0 : 0 ≤ p) (h1 : p ≤ 1152921504606846900) : ∃ b p' x', spec_l1Cur_one.f s p x n = some (b, p', x') ∧ p ≤ p' ∧ p' ≤ p + 2 := by
  obtain ⟨r, p', x', e, _, h2, h3⟩ := pick_e s hb p x n h0 h1
  exact ⟨r == 0, p', x', by unfold spec_l1Cur_one.f; simp only [e, Option.bind_some], h2, h3⟩
theorem among_e (s : List Int) (hb : bytes s) (p x : Int) (l : List Int) (hl : 1 ≤ l.length) (h0 : 0 ≤ p) (h1 : p ≤ 1152921504606846900) : ∃ v p' x', spec_l1Cur_among.f s p x l = some (v, p', x') ∧ v ∈ l ∧ p ≤ p' ∧ p' ≤ p + 2 := by
  obtain ⟨r, p', x', e, ⟨r0, r1, r2⟩, h2, h3⟩ := pick_e s hb p x (l.length : Int) h0 h1
  have hr : r < (l.length : Int) := by
    by_cases h : 1 < (l.length : Int)
    · exact r2 h
    · have := r1 (by omega); omega
  refine ⟨rd l r, p', x', ?_, ?_, h2, h3⟩
  · unfold spec_l1Cur_among.f
    simp only [e, Option.bind_some]
    rw [if_pos r0, if_pos hr]
  · obtain ⟨i, rfl⟩ := Int.eq_ofNat_of_zero_le r0
    rw [rd_get l i (by omega)]
    exact List.getElem_mem _
theorem claim_e (s : List Int) (hb : bytes s) (p x : Int) (h0 : 0 ≤ p) (h1 : p ≤ 1152921504606846000) : ∃ a b c p' x', spec_l1Cur_claim.f s p x = some (a, b, c, p', x') ∧ (a ≤ 21 ∧ b ≤ 1001 ∧ c ≤ 101 ∧ -1 ≤ a ∧ 0 ≤ b ∧ 0 ≤ c) ∧ p ≤ p' ∧ p' ≤ p + 8 := by
  unfold spec_l1Cur_claim.f
  obtain ⟨b, p1, x1, e1, g1, g2⟩ := one_e s hb p x 30 h0 (by omega)
  simp only [e1, Option.bind_some]
  cases b with
  | true =>
    obtain ⟨v2, p2, x2, e2, m2, g3, g4⟩ := among_e s hb p1 x1 [(-1), 20, 21] (by simp) (by omega) (by omega)
    obtain ⟨v3, p3, x3, e3, m3, g5, g6⟩ := among_e s hb p2 x2 [0, 1000, 1001] (by simp) (by omega) (by omega)
    obtain ⟨v4, p4, x4, e4, m4, g7, g8⟩ := among_e s hb p3 x3 [0, 100, 101] (by simp) (by omega) (by omega)
    simp only [if_true, e2, e3, e4, Option.bind_some]
    simp only [List.mem_cons, List.not_mem_nil, or_false] at m2 m3 m4
    exact ⟨_, _, _, _, _, rfl, ⟨by omega, by omega, by omega, by omega, by omega, by omega⟩, by omega, by omega⟩
  | false =>
    obtain ⟨v2, p2, x2, e2, m2, g3, g4⟩ := pick_e s hb p1 x1 3 (by omega) (by omega)
    obtain ⟨v3, p3, x3, e3, m3, g5, g6⟩ := pick_e s hb p2 x2 3 (by omega) (by omega)
    obtain ⟨v4, p4, x4, e4, m4, g7, g8⟩ := pick_e s hb p3 x3 2 (by omega) (by omega)
    simp only [Bool.false_eq_true, if_false, e2, e3, e4, Option.bind_some]
    exact ⟨_, _, _, _, _, rfl, ⟨by omega, by omega, by omega, by omega, by omega, by omega⟩, by omega, by omega⟩
theorem sts_j2 (s : List Int) (hb : bytes s) (out : List S91) (b : Bool) (p x : Int) (hb' : b = true → 1 ≤ out.length) (h0 : 0 ≤ p) (h1 : p ≤ 1152921504606840000) : ∃ l p' x', Ev (fun k => spec_l1Cur_statements.j2 k out b s p x) (l, p', x') ∧ l.length = out.length ∧ p ≤ p' ∧ p' ≤ p + 10 := by
  cases b with
  | false => exact ⟨_, _, _, eround (fun k => by rw [spec_l1Cur_statements.j2]) (eneg (by decide) (enow rfl)), rfl, by omega, by omega⟩
  | true =>
    obtain ⟨v2, p2, x2, e2, m2, g3, g4⟩ := among_e s hb p x [(-1), 6, 7] (by simp) (by omega) (by omega)
    obtain ⟨a, b, c, p3, x3, e3, _, g5, g6⟩ := claim_e s hb p2 x2 (by omega) (by omega)
    have := hb' rfl
    refine ⟨out.set 0 (⟨v2, (⟨a, b, c⟩ : S85), false⟩ : S91), p3, x3, ?_, by simp, by omega, by omega⟩
    refine eround (fun k => by rw [spec_l1Cur_statements.j2]) (epos rfl ?_)
    refine enb e2 ?_
    refine enb e3 ?_
    exact epos (by omega) (enow rfl)
theorem sts_l (s : List Int) (hb : bytes s) : ∀ (d : Nat) (out : List S91) (p x : Int), out.length + d ≤ 1000 → 0 ≤ p → p + 8 * d ≤ 1152921504606800000 → ∃ l p' x', Ev (fun k => spec_l1Cur_statements.l0 k out (d : Int) s p x) (l, p', x') ∧ l.length = out.length + d ∧ p ≤ p' ∧ p' ≤ p + 8 * d + 12 := by
  intro d
  induction d with
  | zero =>
    intro out p x hl h0 h1
    by_cases ho : (out.length : Int) > 0
    · obtain ⟨b, p1, x1, e, g1, g2⟩ := one_e s hb p x 20 h0 (by omega)
      obtain ⟨l, p2, x2, E, hl2, g3, g4⟩ := sts_j2 s hb out b p1 x1 (fun _ => by omega) (by omega) (by omega)
      exact ⟨l, p2, x2, eround (fun k => by rw [spec_l1Cur_statements.l0]) (eneg (by omega) (epos ho (enb e E))), by omega, by omega, by omega⟩
    · obtain ⟨l, p2, x2, E, hl2, g3, g4⟩ := sts_j2 s hb out false p x (fun h => by simp at h) h0 (by omega)
      exact ⟨l, p2, x2, eround (fun k => by rw [spec_l1Cur_statements.l0]) (eneg (by omega) (eneg ho E)), by omega, by omega, by omega⟩
  | succ d ih =>
    intro out p x hl h0 h1
    obtain ⟨v1, p1, x1, e1, _, g1, g2⟩ := pick_e s hb p x 7 h0 (by omega)
    obtain ⟨v2, p2, x2, e2, _, g3, g4⟩ := pick_e s hb p1 x1 2 (by omega) (by omega)
    obtain ⟨v3, p3, x3, e3, _, g5, g6⟩ := pick_e s hb p2 x2 2 (by omega) (by omega)
    obtain ⟨v4, p4, x4, e4, g7, g8⟩ := one_e s hb p3 x3 3 (by omega) (by omega)
    obtain ⟨l, p5, x5, E, hl5, g9, g10⟩ := ih (out ++ [(⟨v1, (⟨v2, v3, 0⟩ : S85), !v4⟩ : S91)]) p4 x4 (by simp; omega) (by omega) (by push_cast at h1; omega)
    refine ⟨l, p5, x5, ?_, by rw [hl5]; simp; omega, by omega, by push_cast; omega⟩
    refine eround (fun k => by rw [spec_l1Cur_statements.l0]) (epos (by omega) ?_)
    refine enb e1 ?_
    refine enb e2 ?_
    refine enb e3 ?_
    refine enb e4 ?_
    refine epos (by omega) ?_
    rw [w64 (by omega) (by omega), show ((d + 1 : Nat) : Int) - 1 = (d : Int) by omega]
    exact E
theorem sts_e (s : List Int) (hb : bytes s) (p x : Int) (h0 : 0 ≤ p) (h1 : p ≤ 1152921504606000000) : ∃ l p' x', Ev (fun k => spec_l1Cur_statements.f k s p x) (l, p', x') ∧ l.length ≤ 61 ∧ p ≤ p' ∧ p' ≤ p + 600 := by
  obtain ⟨n, p1, x1, e1, ⟨n0, _, n1⟩, g1, g2⟩ := pick_e s hb p x 14 h0 (by omega)
  obtain ⟨b, p2, x2, e2, g3, g4⟩ := one_e s hb p1 x1 20 (by omega) (by omega)
  cases b with
  | true =>
    obtain ⟨m, p3, x3, e3, ⟨m0, _, m1⟩, g5, g6⟩ := pick_e s hb p2 x2 2 (by omega) (by omega)
    obtain ⟨l, p4, x4, E, hl, g7, g8⟩ := sts_l s hb (60 + m).toNat [] p3 x3 (by simp; omega) (by omega) (by omega)
    refine ⟨l, p4, x4, ?_, by simp at hl; omega, by omega, by omega⟩
    unfold spec_l1Cur_statements.f
    refine enb e1 ?_
    refine enb e2 ?_
    refine epos rfl ?_
    refine enb e3 ?_
    refine eround (fun k => by rw [spec_l1Cur_statements.j0]) ?_
    rw [w64 (by omega) (by omega), show 60 + m = (((60 + m).toNat : Nat) : Int) by omega]
    exact E
  | false =>
    obtain ⟨l, p4, x4, E, hl, g7, g8⟩ := sts_l s hb n.toNat [] p2 x2 (by simp; omega) (by omega) (by omega)
    refine ⟨l, p4, x4, ?_, by simp at hl; omega, by omega, by omega⟩
    unfold spec_l1Cur_statements.f
    refine enb e1 ?_
    refine enb e2 ?_
    refine eneg (by simp) ?_
    refine eround (fun k => by rw [spec_l1Cur_statements.j0]) ?_
    rw [show ((n.toNat : Nat) : Int) = n by omega] at E
    exact E
theorem sameSt_l (xs : List S91) (hs : xs.length ≤ 1048576) : ∀ (d i : Nat), i + d = xs.length → Ev (fun k => laws_sameStatements.l0 k xs xs (xs.length : Int) (i : Int)) true := by
  intro d
  induction d with
  | zero =>
    intro i hi
    exact eround (fun k => by rw [laws_sameStatements.l0]) (eneg (by omega) (enow rfl))
  | succ d ih =>
    intro i hi
    have hlt : i < xs.length := by omega
    refine eround (fun k => by rw [laws_sameStatements.l0]) (epos (by omega) (epos (by omega) (epos (by omega) (epos (by omega) (eneg (by simp) ?_)))))
    rw [w64 (by omega) (by omega)]
    exact ih (i + 1) (by omega)
theorem sameSt_r (xs : List S91) (hs : xs.length ≤ 1048576) : Ev (fun k => laws_sameStatements.f k xs xs) true := by
  unfold laws_sameStatements.f
  exact epos rfl (sameSt_l xs hs xs.length 0 (by omega))
theorem sameI_l (xs ys : List Int) (hl : xs.length = ys.length) (hn : xs.length ≤ 9223372036854775807) : ∀ (d i : Nat), i + d = xs.length → Ev (fun k => laws_sameInts.l0 k xs ys (xs.length : Int) (i : Int)) (decide (xs.drop i = ys.drop i)) := by
  intro d
  induction d with
  | zero =>
    intro i hi
    refine eround (fun k => by rw [laws_sameInts.l0]) (eneg (by omega) (enow ?_))
    rw [List.drop_eq_nil_of_le (show xs.length ≤ i by omega), List.drop_eq_nil_of_le (show ys.length ≤ i by omega)]; rfl
  | succ d ih =>
    intro i hi
    have hlt : i < xs.length := by omega
    have hlt' : i < ys.length := by omega
    refine eround (fun k => by rw [laws_sameInts.l0]) (epos (by omega) (epos (by omega) (epos (by omega) (epos (by omega) ?_))))
    rw [rd_get xs i hlt, rd_get ys i hlt', List.drop_eq_getElem_cons hlt, List.drop_eq_getElem_cons hlt']
    by_cases h : xs[i] = ys[i]
    · refine epos h ?_
      rw [w64 (by omega) (by omega)]
      simp only [h, List.cons.injEq, true_and]
      exact ih (i + 1) (by omega)
    · exact eneg h (enow (by simp only [List.cons.injEq, h, false_and, decide_false]))
theorem sameI_e (xs ys : List Int) (hn : xs.length ≤ 9223372036854775807) : Ev (fun k => laws_sameInts.f k xs ys) (decide (xs = ys)) := by
  unfold laws_sameInts.f
  by_cases hl : xs.length = ys.length
  · exact epos (by omega) (sameI_l xs ys hl hn xs.length 0 (by omega))
  · refine eneg (by omega) (enow ?_)
    have : xs ≠ ys := fun h => hl (by rw [h])
    simp [this]
theorem mgF_mem : ∀ (ys xs : List S91) (z : S91), z ∈ mgF xs ys ↔ z ∈ xs ∨ z ∈ ys
  | [], xs, z => by simp [mgF]
  | y :: ys, xs, z => by
    rw [mgF, mgF_mem ys, List.mem_cons]
    split
    · next h =>
      rw [hasS_mem] at h
      constructor
      · rintro (h | h) <;> simp [h]
      · rintro (h1 | rfl | h1)
        · exact .inl h1
        · exact .inl h
        · exact .inr h1
    · rw [List.mem_append, List.mem_singleton]
      constructor
      · rintro ((h | h) | h) <;> simp [h]
      · rintro (h | h | h) <;> simp [h]
theorem mgR_ok {xs ys : List S91} (h : (mgR xs ys).2 = true) : (mgR xs ys).1 = mgF xs ys ∧ (mgF xs ys).length ≤ 60 ∧ goodSts xs = true ∧ goodSts ys = true := by
  unfold mgR at *
  split at h
  · next e =>
    rw [if_pos e]
    rw [Bool.and_eq_true] at e
    unfold fin60 at *
    split at h
    · simp at h
    · next e2 => rw [if_neg e2]; exact ⟨rfl, by omega, e.1, e.2⟩
  · simp at h
theorem mgR_good {xs ys : List S91} (h : (mgR xs ys).2 = true) : goodSts (mgR xs ys).1 = true ∧ ∀ z, z ∈ (mgR xs ys).1 ↔ z ∈ xs ∨ z ∈ ys := by
  obtain ⟨e, h1, h2, h3⟩ := mgR_ok h
  rw [e]
  refine ⟨?_, fun z => mgF_mem ys xs z⟩
  unfold goodSts at *
  rw [Bool.and_eq_true, List.all_eq_true] at *
  refine ⟨fun z hz => ?_, decide_eq_true (by omega)⟩
  rcases (mgF_mem ys xs z).1 hz with hz | hz
  · exact h2.1 z hz
  · exact h3.1 z hz
theorem drawM_e (s : List Int) (hb : bytes s) : ∃ xs ys, Ev (fun k => spec_DrawMergeStatements.f k s) (xs, ys) ∧ xs.length ≤ 61 ∧ ys.length ≤ 61 := by
  obtain ⟨l, p2, x2, e2, hl, g3, g4⟩ := sts_e s hb 0 0 (by omega) (by omega)
  obtain ⟨m, p3, x3, e3, hm, g5, g6⟩ := sts_e s hb p2 x2 (by omega) (by omega)
  refine ⟨l, m, ?_, hl, hm⟩
  unfold spec_DrawMergeStatements.f
  refine ebind e2 ?_
  refine ebind e3 ?_
  exact enow rfl
theorem drawCI_e (s : List Int) (hb : bytes s) : ∃ xs, Ev (fun k => spec_DrawClaimsIn.f k s) xs ∧ xs.length ≤ 61 := by
  obtain ⟨l, p2, x2, e2, hl, g3, g4⟩ := sts_e s hb 0 0 (by omega) (by omega)
  refine ⟨l, ?_, hl⟩
  unfold spec_DrawClaimsIn.f
  refine ebind e2 ?_
  exact enow rfl
theorem drawSF_e (s : List Int) (hb : bytes s) : ∃ w a b c r, spec_DrawStateFor.f s = some (w, a, b, c, r) := by
  obtain ⟨n, p1, x1, e1, _, g1, g2⟩ := pick_e s hb 0 0 9 (by omega) (by omega)
  obtain ⟨a, b, c, p3, x3, e3, _, g3, g4⟩ := claim_e s hb p1 x1 (by omega) (by omega)
  obtain ⟨r, p4, x4, e4, _, _⟩ := one_e s hb p3 x3 2 (by omega) (by omega)
  refine ⟨wrap64 (n - 1), a, b, c, r, ?_⟩
  unfold spec_DrawStateFor.f
  simp only [e1, Option.bind_some, e3, e4]
theorem stFor_e (w a b c : Int) (r : Bool) : ∃ o, impl_StateFor.f w a b c r = some o ∧ spec_StateFor.f w a b c r = some o := by
  unfold impl_StateFor.f spec_StateFor.f
  rw [isSt_eq, l12W_eq]
  simp only [Option.bind_some]
  rw [specGC_eq]
  cases inR 0 6 w <;> cases goodC a b c <;> exact ⟨_, rfl, rfl⟩
theorem fs_l1 (s : List Int) (hb : bytes s) (cs : List S85) (hc : cs.length ≤ 1048576) : ∀ (d i : Nat), i + d = cs.length → Ev (fun k => laws_FnStated.l1 k s cs cs (cs.length : Int) (i : Int)) true := by
  intro d
  induction d with
  | zero =>
    intro i hi
    obtain ⟨w, a, b, c, r, e1⟩ := drawSF_e s hb
    obtain ⟨o, e2, e3⟩ := stFor_e w a b c r
    refine eround (fun k => by rw [laws_FnStated.l1]) (eneg (by omega) ?_)
    refine enb e1 ?_
    refine enb e2 ?_
    refine enb e3 ?_
    refine epos (by simp) ?_
    exact enow (by simp)
  | succ d ih =>
    intro i hi
    refine eround (fun k => by rw [laws_FnStated.l1]) (epos (by omega) (epos (by omega) (epos (by omega) (epos (by omega) (eneg (by simp) ?_)))))
    rw [w64 (by omega) (by omega)]
    exact ih (i + 1) (by omega)
theorem fs_j3 (s : List Int) (hb : bytes s) : Ev (fun k => laws_FnStated.j3 k s) true := by
  obtain ⟨xs, e1, hl⟩ := drawCI_e s hb
  refine eround (fun k => by rw [laws_FnStated.j3]) ?_
  refine ebind e1 (ebind (implCI_e xs (by omega)) (ebind (specCI_e xs (by omega)) ?_))
  refine eneg (by simp) (eround (fun k => by rw [laws_FnStated.j4]) (eneg (by simp) ?_))
  have := ciR_len xs
  exact fs_l1 s hb _ (by omega) (ciR xs).1.length 0 (by omega)
theorem fs_l0 (s : List Int) (hb : bytes s) (m n : List S91) (one : Bool) (hm : m.length ≤ 60) (hn : n.length ≤ 60) (gm : goodSts m = true) (gn : one = true → goodSts n = true ∧ ∀ z, z ∈ m ↔ z ∈ n) (cs : List S85) (hc : cs.length ≤ 60) (gc : ∀ z ∈ cs, goodC z.f0 z.f1 z.f2 = true) : ∀ (d i : Nat), i + d = cs.length → Ev (fun k => laws_FnStated.l0 k s m n one cs (cs.length : Int) (i : Int)) true := by
  intro d
  induction d with
  | zero =>
    intro i hi
    exact eround (fun k => by rw [laws_FnStated.l0]) (eneg (by omega) (fs_j3 s hb))
  | succ d ih =>
    intro i hi
    have hlt : i < cs.length := by omega
    have nx := ih (i + 1) (by omega)
    refine eround (fun k => by rw [laws_FnStated.l0]) (epos (by omega) (epos (by omega) (epos (by omega) ?_)))
    rw [show rd_T85 cs (i : Int) = cs[i] from getD_get cs i _ hlt, w64 (by omega) (by omega)]
    have g := gc cs[i] (List.getElem_mem hlt)
    have e1 := implRB_e m cs[i].f0 cs[i].f1 cs[i].f2 (by omega)
    have e2 := implRB_e n cs[i].f0 cs[i].f1 cs[i].f2 (by omega)
    refine ebind e1 (ebind e2 ?_)
    have r1 : rbR m cs[i].f0 cs[i].f1 cs[i].f2 = (refF m cs[i].f0 cs[i].f1 cs[i].f2 7 0, true) := by unfold rbR; rw [gm, g]; rfl
    rw [r1]
    refine epos rfl ?_
    cases one with
    | false => exact eneg (by decide) nx
    | true =>
      obtain ⟨g2, H⟩ := gn rfl
      have r2 : rbR n cs[i].f0 cs[i].f1 cs[i].f2 = (refF n cs[i].f0 cs[i].f1 cs[i].f2 7 0, true) := by unfold rbR; rw [g2, g]; rfl
      rw [r2]
      refine epos rfl (epos rfl ?_)
      refine ebind (sameI_e _ _ (by have := refF_len m cs[i].f0 cs[i].f1 cs[i].f2 7 0; dsimp only; omega)) (epos ?_ nx)
      dsimp only
      rw [refF_same H]
      simp
theorem FnStated : laws_FnStated.Pure := by
  intro s t _ _ hs _ _ ht
  have hbs := bytes_of hs
  have hbt := bytes_of ht
  apply Ev.rounds
  unfold laws_FnStated.f
  by_cases hbig : (wrap64 ((s.length : Int) + (t.length : Int))) > 1048576
  · exact epos hbig (enow rfl)
  refine eneg hbig ?_
  obtain ⟨xs, ys, e1, hx, hy⟩ := drawM_e s hbs
  refine ebind e1 (ebind (implM_e xs ys (by omega) (by omega)) (ebind (specM_e xs ys (by omega) (by omega)) ?_))
  have hR := mgR_len xs ys
  have hR2 := mgR_len ys xs
  refine eneg (by simp) (ebind (sameSt_r _ (by omega)) ?_)
  refine eround (fun k => by rw [laws_FnStated.j0]) (eneg (by simp) ?_)
  by_cases hok : (mgR xs ys).2 = true
  · obtain ⟨gm, hmem⟩ := mgR_good hok
    refine epos hok (ebind (implM_e ys xs (by omega) (by omega)) (ebind (implCI_e _ (by omega)) ?_))
    have hci : ciR (mgR xs ys).1 = (clsC (mgR xs ys).1, true) := by unfold ciR; rw [gm]; rfl
    rw [hci]
    have hcl := (clsC_in (mgR xs ys).1).2.2
    refine epos rfl (eround (fun k => by rw [laws_FnStated.j1]) (eneg (by simp; omega) ?_))
    refine fs_l0 t hbt _ _ _ hR hR2 gm (fun h => ?_) _ (by omega) (fun z hz => clsC_good gm hz) (clsC (mgR xs ys).1).length 0 (by omega)
    obtain ⟨gn, hmem2⟩ := mgR_good h
    refine ⟨gn, fun z => ?_⟩
    rw [hmem, hmem2]
    exact Or.comm
  · exact eneg hok (fs_j3 t hbt)

end Go.Proofs.Ytkgogglnipdcfaa.Pure
