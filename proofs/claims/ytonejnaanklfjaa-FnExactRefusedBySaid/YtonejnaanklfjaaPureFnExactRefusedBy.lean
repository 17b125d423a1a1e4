/- The law FnExactRefusedBy, told over lists: the program's RefusedBy and the reference's answer alike; nothing is written into an argument. No condition. -/
import Derived.Test.YtonejnaanklfjaaQFnExactRefusedByx7
import Derived.Test.YtonejnaanklfjaaPk
namespace Go.Proofs.Ytonejnaanklfjaa.Pure
open Go.RowKit Go.Proofs.Ytonejnaanklfjaa.QFnExactRefusedBy Go.Proofs.YtonejnaanklfjaaW.PrintWords Go.Proofs.YtonejnaanklfjaaW.PrintLast Go.Proofs.YtonejnaanklfjaaW.PrintMore Go.Proofs.Ytonejnaanklfjaa
set_option linter.unusedVariables false
set_option linter.unusedSimpArgs false

open Pk
/-! laws_szStatementS -/
theorem laws_szStatementS_z (xs : List S127) (m : Int) (h0 : 0 ≤ m) (h1 : m ≤ 1048576) (hw : xs.length ≤ 9223372036854775807) : ∃ r, r ≤ m ∧ laws_szStatementS.f xs m = some r ∧ (0 ≤ r → xs.length ≤ 1048576) := by
  unfold laws_szStatementS.f
  rw [w64 (by omega) (by omega)]
  by_cases h : m - (xs.length : Int) < 0
  · exact ⟨-1, by omega, if_pos h, fun h => by omega⟩
  · exact ⟨_, by omega, if_neg h, fun _ => by omega⟩
/-! laws_toClaim -/
theorem laws_toClaim_e (a0_0 : Int) (a0_1 : Int) (a0_2 : Int) : laws_toClaim.f a0_0 a0_1 a0_2 = some (a0_0, a0_1, a0_2) := rfl
/-! laws_toStatement -/
theorem laws_toStatement_e (a0_0 : Int) (a0_1 : Int) (a0_2 : Int) (a0_3 : Int) (a0_4 : Bool) : laws_toStatement.f a0_0 a0_1 a0_2 a0_3 a0_4 = some (a0_0, a0_1, a0_2, a0_3, a0_4) := rfl
/-! laws_toStatementS -/
theorem laws_toStatementS_l (xs : List S127) (hs : xs.length ≤ 1048576) : ∀ (d i : Nat) (acc : List S124), i + d = xs.length → acc.length = xs.length → acc.take i = (xs.map fun x => (⟨x.f0, (⟨x.f1.f0, x.f1.f1, x.f1.f2⟩ : S30), x.f2⟩ : S124)).take i → Ev (fun k => laws_toStatementS.l0 k xs acc (i : Int)) (xs.map fun x => (⟨x.f0, (⟨x.f1.f0, x.f1.f1, x.f1.f2⟩ : S30), x.f2⟩ : S124)) := by
  have hn := hs
  intro d
  induction d with
  | zero =>
    intro i acc hi hl ht
    refine eround (fun k => by rw [laws_toStatementS.l0]) (eneg (by omega) (enow ?_))
    rwa [List.take_of_length_le (by omega), List.take_of_length_le (by first | omega | (simp; omega))] at ht
  | succ d ih =>
    intro i acc hi hl ht
    have hlt : i < xs.length := by omega
    refine eround (fun k => by rw [laws_toStatementS.l0]) (epos (by omega) (epos (by omega) ?_))
    refine enb rfl (epos (by omega) ?_)
    rw [w64 (by omega) (by omega)]
    refine ih (i + 1) _ (by omega) (by simpa using hl) ?_
    exact take_set_succ _ _ rfl (by first | exact hlt | (simp; omega)) (by first | exact hl | simpa using hl) ht (by first | exact (getD_get xs i _ hlt).symm | (simp only [List.getElem_map]; rw [← getD_get xs i _ hlt]; rfl))
theorem laws_toStatementS_e (xs : List S127) (hs : xs.length ≤ 1048576) : Ev (fun k => laws_toStatementS.f k xs) (xs.map fun x => (⟨x.f0, (⟨x.f1.f0, x.f1.f1, x.f1.f2⟩ : S30), x.f2⟩ : S124)) := by
  have hn := hs
  unfold laws_toStatementS.f
  exact epos (by omega) (epos (by omega) (laws_toStatementS_l xs hs xs.length 0 _ (by omega) (by simp) (by simp)))
/-! laws_eqClaim -/
theorem laws_eqClaim_r (a0_0 : Int) (a0_1 : Int) (a0_2 : Int) : laws_eqClaim.f a0_0 a0_1 a0_2 a0_0 a0_1 a0_2 = some true := by
  unfold laws_eqClaim.f
  simp
/-! laws_eqStatement -/
theorem laws_eqStatement_r (a0_0 : Int) (a0_1 : Int) (a0_2 : Int) (a0_3 : Int) (a0_4 : Bool) : laws_eqStatement.f a0_0 a0_1 a0_2 a0_3 a0_4 a0_0 a0_1 a0_2 a0_3 a0_4 = some true := by
  unfold laws_eqStatement.f
  simp [laws_eqClaim_r]
/-! laws_eqStatementS -/
theorem laws_eqStatementS_lr (xs : List S124) (hs : xs.length ≤ 1048576) : ∀ (d i : Nat), i + d = xs.length → Ev (fun k => laws_eqStatementS.l0 k xs xs (i : Int)) true := by
  have hn := hs
  intro d
  induction d with
  | zero =>
    intro i hi
    exact eround (fun k => by rw [laws_eqStatementS.l0]) (eneg (by omega) (enow rfl))
  | succ d ih =>
    intro i hi
    have hlt : i < xs.length := by omega
    refine eround (fun k => by rw [laws_eqStatementS.l0]) (epos (by omega) (epos (by omega) (epos (by omega) ?_)))
    refine enb (laws_eqStatement_r _ _ _ _ _) (epos rfl ?_)
    rw [w64 (by omega) (by omega)]
    exact ih (i + 1) (by omega)
theorem laws_eqStatementS_r (xs : List S124) (hs : xs.length ≤ 1048576) : Ev (fun k => laws_eqStatementS.f k xs xs) true := by
  unfold laws_eqStatementS.f
  exact epos rfl (laws_eqStatementS_lr xs hs xs.length 0 (by omega))
/-! laws_eqIntS -/
theorem laws_eqIntS_lr (xs : List Int) (hs : xs.length ≤ 1048576) : ∀ (d i : Nat), i + d = xs.length → Ev (fun k => laws_eqIntS.l0 k xs xs (i : Int)) true := by
  have hn := hs
  intro d
  induction d with
  | zero =>
    intro i hi
    exact eround (fun k => by rw [laws_eqIntS.l0]) (eneg (by omega) (enow rfl))
  | succ d ih =>
    intro i hi
    have hlt : i < xs.length := by omega
    refine eround (fun k => by rw [laws_eqIntS.l0]) (epos (by omega) (epos (by omega) (epos (by omega) ?_)))
    first | refine epos rfl ?_ | (refine eneg ?_ ?_; focus (simp; done))
    rw [w64 (by omega) (by omega)]
    exact ih (i + 1) (by omega)
theorem laws_eqIntS_r (xs : List Int) (hs : xs.length ≤ 1048576) : Ev (fun k => laws_eqIntS.f k xs xs) true := by
  unfold laws_eqIntS.f
  exact epos rfl (laws_eqIntS_lr xs hs xs.length 0 (by omega))
/-! laws_markStatementS -/
theorem laws_markStatementS_o : ∀ (d i : Nat) (xs : List S124) (m : Int), i + d = xs.length → xs.length ≤ 1048576 → 0 ≤ m → m ≤ 4611686018427387904 - 5 * d → ∃ ys : List S124, Ev (fun k => laws_markStatementS.l0 k xs m (i : Int)) (m + 5 * d, ys) := by
  intro d
  induction d with
  | zero =>
    intro i xs m hi hn h0 h1
    exact ⟨xs, eround (fun k => by rw [laws_markStatementS.l0]) (eneg (by omega) (enow (by simp)))⟩
  | succ d ih =>
    intro i xs m hi hn h0 h1
    have w1 : wrap64 ((i : Int) + 1) = ((i + 1 : Nat) : Int) := by rw [w64 (by omega) (by omega)]; rfl
    have v0 : wrap64 (m + 1) = m + 1 := w64 (by omega) (by omega)
    have v1 : wrap64 (m + 1 + 1) = m + 2 := by rw [w64 (by omega) (by omega)]; omega
    have v2 : wrap64 (m + 2 + 1) = m + 3 := by rw [w64 (by omega) (by omega)]; omega
    have v3 : wrap64 (m + 3 + 1) = m + 4 := by rw [w64 (by omega) (by omega)]; omega
    have v4 : wrap64 (m + 4 + 1) = m + 5 := by rw [w64 (by omega) (by omega)]; omega
    have hr : ∃ zs : List S124, zs.length = xs.length ∧ ∀ r, Ev (fun k => laws_markStatementS.l0 k zs (m + 5) ((i + 1 : Nat) : Int)) r → Ev (fun k => laws_markStatementS.l0 k xs m (i : Int)) r := by
      apply Exists.intro
      apply And.intro
      rotate_left
      · intro r hz
        refine eround (fun k => by rw [laws_markStatementS.l0]) (epos (by omega) ?_)
        try simp only [w1, v0, v1, v2, v3, v4]
        refine epos (by omega) ?_
        refine enb rfl ?_
        refine enb rfl ?_
        refine enb rfl ?_
        refine enb rfl ?_
        refine enb rfl ?_
        try simp only [w1, v0, v1, v2, v3, v4]
        exact hz
      · simp
    obtain ⟨zs, hz, hr⟩ := hr
    obtain ⟨ys, hy⟩ := ih (i + 1) zs (m + 5) (by omega) (by omega) (by omega) (by push_cast at h1; omega)
    refine ⟨ys, hr _ ?_⟩
    rw [show m + 5 * ((d + 1 : Nat) : Int) = m + 5 + 5 * (d : Int) by push_cast; omega]
    exact hy
theorem laws_markStatementS_m (xs : List S124) (m : Int) (hn : xs.length ≤ 1048576) (h0 : 0 ≤ m) (h1 : m ≤ 4611686018427387904 - 5 * xs.length) : ∃ ys : List S124, Ev (fun k => laws_markStatementS.f k xs m) (m + 5 * xs.length, ys) :=
  laws_markStatementS_o xs.length 0 xs m (by omega) hn h0 h1
/-! laws_markIntS -/
theorem laws_markIntS_h : ∀ (d i : Nat) (xs : List Int) (m : Int), i + d = xs.length → xs.length ≤ 1048576 → 0 ≤ m → m ≤ 4611686018427387904 - 1 * d → ∃ ys : List Int, ys.length = xs.length ∧ ys.take i = xs.take i ∧
    Ev (fun k => laws_markIntS.l0 k xs m (i : Int)) (m + 1 * d, ys) ∧ Ev (fun k => laws_heldIntS.l0 k ys m (i : Int)) (m + 1 * d) := by
  intro d
  induction d with
  | zero =>
    intro i xs m hi hn h0 h1
    exact ⟨xs, rfl, rfl, eround (fun k => by rw [laws_markIntS.l0]) (eneg (by omega) (enow (by simp))), eround (fun k => by rw [laws_heldIntS.l0]) (eneg (by omega) (enow (by simp)))⟩
  | succ d ih =>
    intro i xs m hi hn h0 h1
    have hlt : i < xs.length := by omega
    have w1 : wrap64 ((i : Int) + 1) = ((i + 1 : Nat) : Int) := by rw [w64 (by omega) (by omega)]; rfl
    have v0 : wrap64 (m + 1) = m + 1 := w64 (by omega) (by omega)
    obtain ⟨ys, hl, ht, hm, hh⟩ := ih (i + 1) (xs.set ((i : Int)).toNat m) (m + 1) (by simp; omega) (by simpa using hn) (by omega) (by push_cast at h1; omega)
    have hlt' : i < ys.length := by rw [hl]; simpa using hlt
    have hy : ys[i] = m := by
      have := congrArg (fun l => l[i]?) ht
      simp only [List.getElem?_take_of_lt (Nat.lt_succ_self i), List.getElem?_eq_getElem hlt'] at this
      rw [show ((i : Int)).toNat = i by simp, List.getElem?_set_self (by simpa using hlt)] at this
      exact Option.some.inj this
    refine ⟨ys, by rw [hl]; simp, ?_, ?_, ?_⟩
    · have := congrArg (List.take i) ht
      rw [List.take_take, List.take_take, Nat.min_eq_left (by omega)] at this
      rw [this]
      simp [List.take_set_of_le]
    · refine eround (fun k => by rw [laws_markIntS.l0]) (epos (by omega) ?_)
      try simp only [w1, v0]
      refine epos (by omega) ?_
      refine enb rfl ?_
      try simp only [w1, v0]
      skip
      rw [show m + 1 * ((d + 1 : Nat) : Int) = m + 1 + 1 * (d : Int) by push_cast; omega]
      simpa using hm
    · refine eround (fun k => by rw [laws_heldIntS.l0]) (epos (by omega) (epos (by omega) ?_))
      have hr : ∀ z, ys.getD ((i : Int)).toNat z = ys[i] := fun z => getD_get ys i z hlt'
      try simp only [w1, v0]
      simp only [rd, rdOf, hr, hy]
      repeat (first | refine epos trivial ?_ | refine epos rfl ?_ | (refine eneg ?_ ?_; focus (simp; done)))
      rw [show m + 1 * ((d + 1 : Nat) : Int) = m + 1 + 1 * (d : Int) by push_cast; omega]
      exact hh
theorem laws_markIntS_m (xs : List Int) (m : Int) (hn : xs.length ≤ 1048576) (h0 : 0 ≤ m) (h1 : m ≤ 4611686018427387904 - 1 * xs.length) : ∃ ys : List Int, ys.length = xs.length ∧ Ev (fun k => laws_markIntS.f k xs m) (m + 1 * xs.length, ys) ∧ Ev (fun k => laws_heldIntS.f k ys m) (m + 1 * xs.length) := by
  obtain ⟨ys, hl, _, h⟩ := laws_markIntS_h xs.length 0 xs m (by omega) hn h0 h1
  exact ⟨ys, hl, h⟩
def inR (lo hi x : Int) : Bool := decide (x ≥ lo) && decide (x ≤ hi)
theorem inR_iff {lo hi x : Int} : inR lo hi x = true ↔ lo ≤ x ∧ x ≤ hi := by simp [inR]
theorem l1In_eq (a lo hi : Int) : spec_l1In.f a lo hi = some (inR lo hi a) := by
  unfold spec_l1In.f inR
  by_cases h : a ≥ lo <;> simp [h]
theorem within_eq (a lo hi : Int) : impl_within.f a lo hi = some (inR lo hi a) := by
  unfold impl_within.f inR
  by_cases h : a ≥ lo <;> simp [h]
def goodC (a b c : Int) : Bool := inR 0 20 a && (inR 0 1000 b && inR 0 100 c)
theorem specGC_eq (a b c : Int) : spec_GoodClaim.f a b c = some (goodC a b c) := by
  unfold spec_GoodClaim.f goodC
  rw [l1In_eq, l1In_eq, l1In_eq]
  cases h : inR 0 20 a <;> cases h1 : inR 0 1000 b <;> simp
theorem implGC_eq (a b c : Int) : impl_GoodClaim.f a b c = some (goodC a b c) := by
  unfold impl_GoodClaim.f impl_isLetterNumber.f goodC
  rw [within_eq, within_eq, within_eq]
  cases h : inR 0 20 a <;> cases h1 : inR 0 1000 b <;> simp
def goodSt (x : S124) : Bool := inR 0 6 x.f0 && goodC x.f1.f0 x.f1.f1 x.f1.f2
def goodSts (xs : List S124) : Bool := xs.all goodSt && decide ((xs.length : Int) ≤ 60)
theorem l12W_eq (a : Int) : spec_l12Witness.f a = some (inR 0 6 a) := by
  unfold spec_l12Witness.f
  rw [l1In_eq]; rfl
theorem specG12_l (xs : List S124) (hn : xs.length ≤ 1048576) : ∀ (d i : Nat), i + d = xs.length → Ev (fun k => spec_l12Good.l0 k xs xs (xs.length : Int) (i : Int)) ((xs.drop i).all goodSt && decide ((xs.length : Int) ≤ 60)) := by
  intro d
  induction d with
  | zero =>
    intro i hi
    refine eround (fun k => by rw [spec_l12Good.l0]) (eneg (by omega) (enow ?_))
    rw [List.drop_eq_nil_of_le (by omega)]; rfl
  | succ d ih =>
    intro i hi
    have hlt : i < xs.length := by omega
    refine eround (fun k => by rw [spec_l12Good.l0]) (epos (by omega) (epos (by omega) (epos (by omega) ?_)))
    rw [show rd_T124 xs (i : Int) = xs[i] from getD_get xs i _ hlt, List.drop_eq_getElem_cons hlt, List.all_cons]
    refine enb (l12W_eq _) ?_
    have hg : goodSt xs[i] = (inR 0 6 xs[i].f0 && goodC xs[i].f1.f0 xs[i].f1.f1 xs[i].f1.f2) := rfl
    cases h : inR 0 6 xs[i].f0 with
    | false => exact eneg (by simp) (enow (by simp [hg, h]))
    | true =>
      refine epos rfl (enb (specGC_eq _ _ _) ?_)
      cases h2 : goodC xs[i].f1.f0 xs[i].f1.f1 xs[i].f1.f2 with
      | false => exact eneg (by simp) (enow (by simp [hg, h2]))
      | true =>
        refine epos rfl ?_
        rw [w64 (by omega) (by omega), hg, h, h2]
        exact ih (i + 1) (by omega)
theorem specG12_e (xs : List S124) (hn : xs.length ≤ 1048576) : Ev (fun k => spec_l12Good.f k xs) (goodSts xs) := specG12_l xs hn xs.length 0 (by omega)
theorem isSt_eq (a b c d : Int) (e : Bool) : impl_isStatement.f a b c d e = some (inR 0 6 a && goodC b c d) := by
  unfold impl_isStatement.f
  rw [within_eq, implGC_eq]
  cases h : inR 0 6 a <;> simp
theorem areSt1_eq (x : S124) : impl_areStatements_1.f x.f0 x.f1.f0 x.f1.f1 x.f1.f2 x.f2 = some (!goodSt x) := by
  unfold impl_areStatements_1.f
  rw [isSt_eq]; rfl
theorem ixSt_l (xs : List S124) (hn : xs.length ≤ 1048576) : ∀ (d i : Nat), i + d = xs.length → ∃ r : Int, Ev (fun k => slices_IndexFunc_169_at_153.l0 k xs (xs.length : Int) (i : Int)) r ∧ -1 ≤ r ∧ r < (xs.length : Int) ∧ (r ≥ 0 ↔ (xs.drop i).any (fun x => !goodSt x) = true) := by
  intro d
  induction d with
  | zero =>
    intro i hi
    refine ⟨-1, eround (fun k => by rw [slices_IndexFunc_169_at_153.l0]) (eneg (by omega) (enow rfl)), by omega, by omega, ?_⟩
    rw [List.drop_eq_nil_of_le (by omega)]; simp
  | succ d ih =>
    intro i hi
    have hlt : i < xs.length := by omega
    obtain ⟨r, h1, h2, h2', h3⟩ := ih (i + 1) (by omega)
    rw [List.drop_eq_getElem_cons hlt, List.any_cons]
    cases h : (fun x : S124 => !goodSt x) xs[i] with
    | true =>
      refine ⟨(i : Int), eround (fun k => by rw [slices_IndexFunc_169_at_153.l0]) (epos (by omega) (epos (by omega) (epos (by omega) ?_))), by omega, by omega, ⟨fun _ => by rw [show (!goodSt xs[i]) = true from h]; rfl, fun _ => by omega⟩⟩
      rw [show rd_T124 xs (i : Int) = xs[i] from getD_get xs i _ hlt]
      exact enb (areSt1_eq _) (epos h (enow rfl))
    | false =>
      refine ⟨r, eround (fun k => by rw [slices_IndexFunc_169_at_153.l0]) (epos (by omega) (epos (by omega) (epos (by omega) ?_))), h2, h2', by rw [show (!goodSt xs[i]) = false from h, Bool.false_or]; exact h3⟩
      rw [show rd_T124 xs (i : Int) = xs[i] from getD_get xs i _ hlt]
      refine enb (areSt1_eq _) (eneg (by rw [show (!goodSt xs[i]) = false from h]; decide) ?_)
      rw [w64 (by omega) (by omega)]
      exact h1
theorem ixSt_e (xs : List S124) (hn : xs.length ≤ 1048576) : ∃ r : Int, Ev (fun k => slices_IndexFunc_169_at_153.f k xs) r ∧ -1 ≤ r ∧ r < (xs.length : Int) ∧ (r ≥ 0 ↔ xs.any (fun x => !goodSt x) = true) := ixSt_l xs hn xs.length 0 (by omega)
theorem implG12_e (xs : List S124) (hn : xs.length ≤ 1048576) : Ev (fun k => impl_areStatements.f k xs) (goodSts xs) := by
  unfold impl_areStatements.f goodSts
  by_cases h : (xs.length : Int) ≤ 60
  · obtain ⟨r, h1, _, _, h3⟩ := ixSt_e xs hn
    refine epos h (ebind (f := fun _ t => some (!t)) (a := decide (r ≥ 0)) ?_ (enow ?_))
    · exact ebind (f := fun _ t => some (decide (t ≥ 0))) h1 (enow rfl)
    · rw [decide_eq_true h, Bool.and_true]
      cases ha : xs.all goodSt with
      | true =>
        have : ¬ r ≥ 0 := by
          rw [h3, List.any_eq_true]
          rintro ⟨x, hx, hx'⟩
          have := List.all_eq_true.1 ha x hx
          simp [this] at hx'
        simp [this]
      | false =>
        have : r ≥ 0 := by
          rw [h3, List.any_eq_true]
          rw [List.all_eq_false] at ha
          obtain ⟨x, hx, hx'⟩ := ha
          exact ⟨x, hx, by simpa using hx'⟩
        simp [this]
  · exact eneg h (enow (by simp [h]))
def hasS (xs : List S124) (h a b c : Int) (f : Bool) : Bool := xs.any (fun x => h == x.f0 && ((a == x.f1.f0 && (b == x.f1.f1 && (c == x.f1.f2))) && (f == x.f2)))
theorem ixS_l (xs : List S124) (h a b c : Int) (f : Bool) (hn : xs.length ≤ 4194304) : ∀ (d i : Nat), i + d = xs.length → ∃ r : Int, Ev (fun k => impl_Statement_157.l0 k xs (xs.length : Int) (i : Int) h a b c f) r ∧ (r ≥ 0 ↔ hasS (xs.drop i) h a b c f = true) := by
  intro d
  induction d with
  | zero =>
    intro i hi
    refine ⟨-1, eround (fun k => by rw [impl_Statement_157.l0]) (eneg (by omega) (enow rfl)), ?_⟩
    rw [List.drop_eq_nil_of_le (by omega)]; simp [hasS]
  | succ d ih =>
    intro i hi
    have hlt : i < xs.length := by omega
    obtain ⟨r, h1, h3⟩ := ih (i + 1) (by omega)
    unfold hasS at h3 ⊢
    rw [List.drop_eq_getElem_cons hlt, List.any_cons]
    cases e : (h == xs[i].f0 && ((a == xs[i].f1.f0 && (b == xs[i].f1.f1 && (c == xs[i].f1.f2))) && (f == xs[i].f2))) with
    | true =>
      refine ⟨(i : Int), eround (fun k => by rw [impl_Statement_157.l0]) (epos (by omega) (epos (by omega) (epos (by omega) ?_))), by simp⟩
      rw [show rd_T124 xs (i : Int) = xs[i] from getD_get xs i _ hlt]
      exact epos e (enow rfl)
    | false =>
      refine ⟨r, eround (fun k => by rw [impl_Statement_157.l0]) (epos (by omega) (epos (by omega) (epos (by omega) ?_))), by rw [Bool.false_or]; exact h3⟩
      rw [show rd_T124 xs (i : Int) = xs[i] from getD_get xs i _ hlt]
      refine eneg (by rw [e]; decide) ?_
      rw [w64 (by omega) (by omega)]
      exact h1
theorem coS_e' (xs : List S124) (h a b c : Int) (f : Bool) (hn : xs.length ≤ 4194304) : Ev (fun k => impl_Statement_115.f k xs h a b c f) (hasS xs h a b c f) := by
  obtain ⟨r, h1, h3⟩ := ixS_l xs h a b c f hn xs.length 0 (by omega)
  refine ebind (f := fun _ t => some (decide (t ≥ 0))) h1 (enow ?_)
  rw [List.drop_zero] at h3
  cases e : hasS xs h a b c f with
  | true => rw [e] at h3; simpa using h3
  | false => rw [e] at h3; simpa using h3
theorem coS_e (xs : List S124) (h a b c : Int) (f : Bool) (hn : xs.length ≤ 1048576) : Ev (fun k => impl_Statement_115.f k xs h a b c f) (hasS xs h a b c f) := coS_e' xs h a b c f (by omega)
theorem hasS_cons (x : S124) (xs : List S124) (h a b c : Int) (f : Bool) : hasS (x :: xs) h a b c f = ((h == x.f0 && ((a == x.f1.f0 && (b == x.f1.f1 && (c == x.f1.f2))) && (f == x.f2))) || hasS xs h a b c f) := rfl
def refF (xs : List S124) (a b c : Int) : Nat → Nat → List Int
  | 0, _ => []
  | d + 1, i => (if hasS xs (i : Int) a b c true = true ∧ hasS xs (i : Int) a b c false = false then [(i : Int)] else []) ++ refF xs a b c d (i + 1)
theorem refF_len (xs : List S124) (a b c : Int) : ∀ d i, (refF xs a b c d i).length ≤ d
  | 0, _ => Nat.le_refl _
  | d + 1, i => by
    have := refF_len xs a b c d (i + 1)
    simp only [refF, List.length_append]
    split <;> simp <;> omega
theorem implRef_l (xs : List S124) (a b c : Int) (hn : xs.length ≤ 1048576) : ∀ (d i : Nat) (out : List Int), i + d = 7 → out.length ≤ i → Ev (fun k => impl_refusedBy.l0 k xs out (i : Int) a b c) (out ++ refF xs a b c d i) := by
  intro d
  induction d with
  | zero =>
    intro i out hi ho
    exact eround (fun k => by rw [impl_refusedBy.l0]) (eneg (by omega) (enow (by simp [refF])))
  | succ d ih =>
    intro i out hi ho
    refine eround (fun k => by rw [impl_refusedBy.l0]) (epos (by omega) (ebind (coS_e _ _ _ _ _ _ hn) ?_))
    rw [w64 (by omega) (by omega)]
    simp only [refF]
    cases h1 : hasS xs (i : Int) a b c true with
    | false =>
      refine eneg (by decide) ?_
      simpa using ih (i + 1) out (by omega) (by omega)
    | true =>
      refine epos rfl (ebind (coS_e _ _ _ _ _ _ hn) ?_)
      cases h2 : hasS xs (i : Int) a b c false with
      | true =>
        refine epos rfl ?_
        simpa using ih (i + 1) out (by omega) (by omega)
      | false =>
        refine eneg (by decide) (epos (by omega) ?_)
        have := ih (i + 1) (out ++ [(i : Int)]) (by omega) (by simp; omega)
        rw [List.append_assoc] at this
        simpa using this
theorem implRef_e (xs : List S124) (a b c : Int) (hn : xs.length ≤ 1048576) : Ev (fun k => impl_refusedBy.f k xs a b c) (refF xs a b c 7 0) := implRef_l xs a b c hn 7 0 [] (by omega) (by simp)
theorem specRef_l1 (xs : List S124) (a b c : Int) (hn : xs.length ≤ 1048576) (out : List Int) (w : Nat) (hw : w < 7) (ho : out.length ≤ w) (R : List Int)
    (H : Ev (fun k => spec_l12Refused.l0 k xs (out ++ if hasS xs (w : Int) a b c true = true ∧ hasS xs (w : Int) a b c false = false then [(w : Int)] else []) ((w + 1 : Nat) : Int) a b c) R) :
    ∀ (d i : Nat) (y n : Bool), i + d = xs.length → (y || hasS (xs.drop i) (w : Int) a b c true) = hasS xs (w : Int) a b c true → (n || hasS (xs.drop i) (w : Int) a b c false) = hasS xs (w : Int) a b c false → Ev (fun k => spec_l12Refused.l1 k xs out (w : Int) y n xs (xs.length : Int) (i : Int) a b c) R := by
  intro d
  induction d with
  | zero =>
    intro i y n hi hy hx
    rw [List.drop_eq_nil_of_le (by omega)] at hy hx
    have hy' : y = hasS xs (w : Int) a b c true := by simpa [hasS] using hy
    have hx' : n = hasS xs (w : Int) a b c false := by simpa [hasS] using hx
    refine eround (fun k => by rw [spec_l12Refused.l1]) (eneg (by omega) ?_)
    rw [w64 (by omega) (by omega), hy', hx']
    cases h1 : hasS xs (w : Int) a b c true with
    | false => refine eneg (by decide) ?_; simpa [h1] using H
    | true =>
      refine epos rfl ?_
      cases h2 : hasS xs (w : Int) a b c false with
      | true => refine epos rfl ?_; simpa [h1, h2] using H
      | false => refine eneg (by decide) (epos (by omega) ?_); simpa [h1, h2] using H
  | succ d ih =>
    intro i y n hi hy hx
    have hlt : i < xs.length := by omega
    rw [List.drop_eq_getElem_cons hlt, hasS_cons] at hy hx
    refine eround (fun k => by rw [spec_l12Refused.l1]) (epos (by omega) (epos (by omega) (epos (by omega) ?_)))
    rw [show rd_T124 xs (i : Int) = xs[i] from getD_get xs i _ hlt, w64 (by omega) (by omega)]
    by_cases e1 : xs[i].f0 = (w : Int)
    · refine epos e1 ?_
      cases e2 : ((xs[i].f1.f0 == a) && ((xs[i].f1.f1 == b) && (xs[i].f1.f2 == c))) with
      | false =>
        refine eneg (by decide) ?_
        refine ih (i + 1) y n (by omega) ?_ ?_
        · rw [← hy]; congr 1
          have : ((w : Int) == xs[i].f0 && ((a == xs[i].f1.f0 && (b == xs[i].f1.f1 && (c == xs[i].f1.f2))) && (true == xs[i].f2))) = false := by
            rw [Bool.eq_false_iff] at e2 ⊢; intro e; apply e2; simp only [Bool.and_eq_true, beq_iff_eq] at e ⊢; exact ⟨e.2.1.1.symm, e.2.1.2.1.symm, e.2.1.2.2.symm⟩
          rw [this]; rfl
        · rw [← hx]; congr 1
          have : ((w : Int) == xs[i].f0 && ((a == xs[i].f1.f0 && (b == xs[i].f1.f1 && (c == xs[i].f1.f2))) && (false == xs[i].f2))) = false := by
            rw [Bool.eq_false_iff] at e2 ⊢; intro e; apply e2; simp only [Bool.and_eq_true, beq_iff_eq] at e ⊢; exact ⟨e.2.1.1.symm, e.2.1.2.1.symm, e.2.1.2.2.symm⟩
          rw [this]; rfl
      | true =>
        refine epos rfl ?_
        simp only [Bool.and_eq_true, beq_iff_eq] at e2
        have E : ∀ f : Bool, ((w : Int) == xs[i].f0 && ((a == xs[i].f1.f0 && (b == xs[i].f1.f1 && (c == xs[i].f1.f2))) && (f == xs[i].f2))) = (f == xs[i].f2) := by
          intro f; simp [e1, e2.1, e2.2.1, e2.2.2]
        rw [E] at hy hx
        cases y <;> cases n <;> cases hf : xs[i].f2 <;> simp only [hf] at hy hx ⊢ <;> refine ih (i + 1) _ _ (by omega) (by simpa using hy) (by simpa using hx)
    · refine eneg e1 (ih (i + 1) y n (by omega) ?_ ?_)
      · rw [← hy]; congr 1
        have : ((w : Int) == xs[i].f0) = false := by simpa using fun e => e1 e.symm
        rw [this]; rfl
      · rw [← hx]; congr 1
        have : ((w : Int) == xs[i].f0) = false := by simpa using fun e => e1 e.symm
        rw [this]; rfl
theorem specRef_l (xs : List S124) (a b c : Int) (hn : xs.length ≤ 1048576) : ∀ (d i : Nat) (out : List Int), i + d = 7 → out.length ≤ i → Ev (fun k => spec_l12Refused.l0 k xs out (i : Int) a b c) (out ++ refF xs a b c d i) := by
  intro d
  induction d with
  | zero =>
    intro i out hi ho
    exact eround (fun k => by rw [spec_l12Refused.l0]) (eneg (by omega) (enow (by simp [refF])))
  | succ d ih =>
    intro i out hi ho
    refine eround (fun k => by rw [spec_l12Refused.l0]) (epos (by omega) ?_)
    refine specRef_l1 xs a b c hn out i (by omega) ho _ ?_ xs.length 0 false false (by omega) (by simp) (by simp)
    simp only [refF]
    rw [← List.append_assoc]
    refine ih (i + 1) _ (by omega) ?_
    rw [List.length_append]
    split <;> simp <;> omega
theorem specRef_e (xs : List S124) (a b c : Int) (hn : xs.length ≤ 1048576) : Ev (fun k => spec_l12Refused.f k xs a b c) (refF xs a b c 7 0) := specRef_l xs a b c hn 7 0 [] (by omega) (by simp)
def rbR (xs : List S124) (a b c : Int) : List Int × Bool := if goodSts xs && goodC a b c then (refF xs a b c 7 0, true) else ([], false)
theorem specRB_e (xs : List S124) (a b c : Int) (hn : xs.length ≤ 1048576) : Ev (fun k => spec_RefusedBy.f k xs a b c) (rbR xs a b c) := by
  unfold spec_RefusedBy.f rbR
  refine ebind (specG12_e xs hn) ?_
  cases h1 : goodSts xs with
  | false => exact eneg (by decide) (enow (by simp))
  | true =>
    refine epos rfl (enb (specGC_eq _ _ _) ?_)
    cases h2 : goodC a b c with
    | false => exact eneg (by decide) (enow (by simp))
    | true => exact epos rfl (ebind (specRef_e xs a b c hn) (enow (by simp)))
theorem implRB_e (xs : List S124) (a b c : Int) (hn : xs.length ≤ 1048576) : Ev (fun k => impl_RefusedBy.f k xs a b c) (rbR xs a b c) := by
  unfold impl_RefusedBy.f rbR
  refine ebind (implG12_e xs hn) ?_
  cases h1 : goodSts xs with
  | false => exact eneg (by decide) (enow (by simp))
  | true =>
    refine epos rfl (enb (implGC_eq _ _ _) ?_)
    cases h2 : goodC a b c with
    | false => exact eneg (by decide) (enow (by simp))
    | true => exact epos rfl (ebind (implRef_e xs a b c hn) (enow (by simp)))
theorem FnExactRefusedBy : laws_FnExactRefusedBy.Pure := by
  intro l a b c h _
  apply Ev.rounds
  unfold laws_FnExactRefusedBy.f
  obtain ⟨r, _, r2, r3⟩ := laws_szStatementS_z l 1048576 (by omega) (by omega) (by have := h.1; unfold maxLen at this; omega)
  refine enb r2 ?_
  by_cases hr : r < 0
  · exact epos hr (enow rfl)
  · refine eneg hr ?_
    have hl := r3 (by omega)
    have e1 := laws_toStatementS_e l hl
    generalize hx : (l.map fun x => (⟨x.f0, (⟨x.f1.f0, x.f1.f1, x.f1.f2⟩ : S30), x.f2⟩ : S124)) = xs at e1
    have hxl : xs.length ≤ 1048576 := by rw [← hx]; simpa using hl
    have e3 := specRB_e xs a b c hxl
    have e4 := implRB_e xs a b c hxl
    have hR : (rbR xs a b c).1.length ≤ 1048576 := by
      unfold rbR; split
      · exact Nat.le_trans (refF_len xs a b c 7 0) (by omega)
      · simp
    have e5 := laws_eqIntS_r _ hR
    have e6 := laws_eqStatementS_r xs hxl
    obtain ⟨_, q1⟩ := laws_markStatementS_m xs 1 hxl (by omega) (by omega)
    obtain ⟨_, _, q3, q4⟩ := laws_markIntS_m (rbR xs a b c).1 1 hR (by omega) (by omega)
    repeat' first
      | exact enow rfl
      | (with_reducible refine ebind e1 ?_)
      | (with_reducible refine ebind e3 ?_)
      | (with_reducible refine ebind e4 ?_)
      | (with_reducible refine ebind e5 ?_)
      | (with_reducible refine ebind e6 ?_)
      | (with_reducible refine ebind q1 ?_)
      | (with_reducible refine ebind q3 ?_)
      | (with_reducible refine ebind q4 ?_)
      | (with_reducible refine enb (laws_toClaim_e _ _ _) ?_)
      | (with_reducible refine enb (laws_toStatement_e _ _ _ _ _) ?_)
      | (with_reducible refine eround (fun k => laws_FnExactRefusedBy.j0.eq_2 _ _ _ _ _ _ _ _ _ _ _) ?_)
      | (with_reducible refine eround (fun k => laws_FnExactRefusedBy.j1.eq_2 _ _ _ _ _ _ _ _ _) ?_)
      | (with_reducible refine eround (fun k => laws_FnExactRefusedBy.j2.eq_2 _ _ _ _) ?_)
      | (with_reducible refine enb rfl ?_)
      | (with_reducible refine epos rfl ?_)
      | (refine eneg ?_ ?_; focus (first | omega | (dsimp only; omega) | (simp; done) | (simp; omega)))

end Go.Proofs.Ytonejnaanklfjaa.Pure
