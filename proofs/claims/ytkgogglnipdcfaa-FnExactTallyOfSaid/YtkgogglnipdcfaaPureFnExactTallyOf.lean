/- The law FnExactTallyOf, told over lists: the program's tallies of hands and the reference's are one list; nothing is written into an argument, and the answer lies apart. No condition. -/
import Derived.Test.YtkgogglnipdcfaaQFnExactTallyOfx10
import Derived.Test.YtkgogglnipdcfaaPk
namespace Go.Proofs.Ytkgogglnipdcfaa.Pure
open Go.RowKit Go.Proofs.Ytkgogglnipdcfaa.QFnExactTallyOf Go.Proofs.YtkgogglnipdcfaaW.PrintWords Go.Proofs.YtkgogglnipdcfaaW.PrintLast Go.Proofs.YtkgogglnipdcfaaW.PrintMore Go.Proofs.Ytkgogglnipdcfaa
set_option linter.unusedVariables false
set_option linter.unusedSimpArgs false

open Pk
/-! laws_szStatementS -/
theorem laws_szStatementS_z (xs : List S176) (m : Int) (h0 : 0 ≤ m) (h1 : m ≤ 1048576) (hw : xs.length ≤ 9223372036854775807) : ∃ r, r ≤ m ∧ laws_szStatementS.f xs m = some r ∧ (0 ≤ r → xs.length ≤ 1048576) := by
  unfold laws_szStatementS.f
  rw [w64 (by omega) (by omega)]
  by_cases h : m - (xs.length : Int) < 0
  · exact ⟨-1, by omega, if_pos h, fun h => by omega⟩
  · exact ⟨_, by omega, if_neg h, fun _ => by omega⟩
/-! laws_szClaimS -/
theorem laws_szClaimS_z (xs : List S174) (m : Int) (h0 : 0 ≤ m) (h1 : m ≤ 1048576) (hw : xs.length ≤ 9223372036854775807) : ∃ r, r ≤ m ∧ laws_szClaimS.f xs m = some r ∧ (0 ≤ r → xs.length ≤ 1048576) := by
  unfold laws_szClaimS.f
  rw [w64 (by omega) (by omega)]
  by_cases h : m - (xs.length : Int) < 0
  · exact ⟨-1, by omega, if_pos h, fun h => by omega⟩
  · exact ⟨_, by omega, if_neg h, fun _ => by omega⟩
/-! laws_toClaim -/
theorem laws_toClaim_e (a0_0 : Int) (a0_1 : Int) (a0_2 : Int) : laws_toClaim.f a0_0 a0_1 a0_2 = some (a0_0, a0_1, a0_2) := rfl
/-! laws_toStatement -/
theorem laws_toStatement_e (a0_0 : Int) (a0_1 : Int) (a0_2 : Int) (a0_3 : Int) (a0_4 : Bool) : laws_toStatement.f a0_0 a0_1 a0_2 a0_3 a0_4 = some (a0_0, a0_1, a0_2, a0_3, a0_4) := rfl
/-! laws_toStatementS -/
theorem laws_toStatementS_l (xs : List S176) (hs : xs.length ≤ 1048576) : ∀ (d i : Nat) (acc : List S91), i + d = xs.length → acc.length = xs.length → acc.take i = (xs.map fun x => (⟨x.f0, (⟨x.f1.f0, x.f1.f1, x.f1.f2⟩ : S85), x.f2⟩ : S91)).take i → Ev (fun k => laws_toStatementS.l0 k xs acc (i : Int)) (xs.map fun x => (⟨x.f0, (⟨x.f1.f0, x.f1.f1, x.f1.f2⟩ : S85), x.f2⟩ : S91)) := by
  have hn := hs
  intro d
  induction d with
  | zero =>
    intro i acc hi hl ht
    refine eround (fun k => by rw [laws_toStatementS.l0]) (eneg (by omega) (enow ?_))
    rwa [List.take_of_length_le (by omega), List.take_of_length_le (by first | omega | (simp; omega))] at ht
  | succ d ih =>
    intro i acc hi hl ht
    have hlt : i < xs.length := by omega
    refine eround (fun k => by rw [laws_toStatementS.l0]) (epos (by omega) (epos (by omega) ?_))
    refine enb rfl (epos (by omega) ?_)
    rw [w64 (by omega) (by omega)]
    refine ih (i + 1) _ (by omega) (by simpa using hl) ?_
    exact take_set_succ _ _ rfl (by first | exact hlt | (simp; omega)) (by first | exact hl | simpa using hl) ht (by first | exact (getD_get xs i _ hlt).symm | (simp only [List.getElem_map]; rw [← getD_get xs i _ hlt]; rfl))
theorem laws_toStatementS_e (xs : List S176) (hs : xs.length ≤ 1048576) : Ev (fun k => laws_toStatementS.f k xs) (xs.map fun x => (⟨x.f0, (⟨x.f1.f0, x.f1.f1, x.f1.f2⟩ : S85), x.f2⟩ : S91)) := by
  have hn := hs
  unfold laws_toStatementS.f
  exact epos (by omega) (epos (by omega) (laws_toStatementS_l xs hs xs.length 0 _ (by omega) (by simp) (by simp)))
/-! laws_eqClaim -/
theorem laws_eqClaim_r (a0_0 : Int) (a0_1 : Int) (a0_2 : Int) : laws_eqClaim.f a0_0 a0_1 a0_2 a0_0 a0_1 a0_2 = some true := by
  unfold laws_eqClaim.f
  simp
/-! laws_eqClaimS -/
theorem laws_eqClaimS_lr (xs : List S85) (hs : xs.length ≤ 1048576) : ∀ (d i : Nat), i + d = xs.length → Ev (fun k => laws_eqClaimS.l0 k xs xs (i : Int)) true := by
  have hn := hs
  intro d
  induction d with
  | zero =>
    intro i hi
    exact eround (fun k => by rw [laws_eqClaimS.l0]) (eneg (by omega) (enow rfl))
  | succ d ih =>
    intro i hi
    have hlt : i < xs.length := by omega
    refine eround (fun k => by rw [laws_eqClaimS.l0]) (epos (by omega) (epos (by omega) (epos (by omega) ?_)))
    refine enb (laws_eqClaim_r _ _ _) (epos rfl ?_)
    rw [w64 (by omega) (by omega)]
    exact ih (i + 1) (by omega)
theorem laws_eqClaimS_r (xs : List S85) (hs : xs.length ≤ 1048576) : Ev (fun k => laws_eqClaimS.f k xs xs) true := by
  unfold laws_eqClaimS.f
  exact epos rfl (laws_eqClaimS_lr xs hs xs.length 0 (by omega))
/-! laws_eqStatement -/
theorem laws_eqStatement_r (a0_0 : Int) (a0_1 : Int) (a0_2 : Int) (a0_3 : Int) (a0_4 : Bool) : laws_eqStatement.f a0_0 a0_1 a0_2 a0_3 a0_4 a0_0 a0_1 a0_2 a0_3 a0_4 = some true := by
  unfold laws_eqStatement.f
  simp [laws_eqClaim_r]
/-! laws_eqStatementS -/
theorem laws_eqStatementS_lr (xs : List S91) (hs : xs.length ≤ 1048576) : ∀ (d i : Nat), i + d = xs.length → Ev (fun k => laws_eqStatementS.l0 k xs xs (i : Int)) true := by
  have hn := hs
  intro d
  induction d with
  | zero =>
    intro i hi
    exact eround (fun k => by rw [laws_eqStatementS.l0]) (eneg (by omega) (enow rfl))
  | succ d ih =>
    intro i hi
    have hlt : i < xs.length := by omega
    refine eround (fun k => by rw [laws_eqStatementS.l0]) (epos (by omega) (epos (by omega) (epos (by omega) ?_)))
    refine enb (laws_eqStatement_r _ _ _ _ _) (epos rfl ?_)
    rw [w64 (by omega) (by omega)]
    exact ih (i + 1) (by omega)
theorem laws_eqStatementS_r (xs : List S91) (hs : xs.length ≤ 1048576) : Ev (fun k => laws_eqStatementS.f k xs xs) true := by
  unfold laws_eqStatementS.f
  exact epos rfl (laws_eqStatementS_lr xs hs xs.length 0 (by omega))
/-! laws_markStatementS -/
theorem laws_markStatementS_o : ∀ (d i : Nat) (xs : List S91) (m : Int), i + d = xs.length → xs.length ≤ 1048576 → 0 ≤ m → m ≤ 4611686018427387904 - 5 * d → ∃ ys : List S91, Ev (fun k => laws_markStatementS.l0 k xs m (i : Int)) (m + 5 * d, ys) := by
  intro d
  induction d with
  | zero =>
    intro i xs m hi hn h0 h1
    exact ⟨xs, eround (fun k => by rw [laws_markStatementS.l0]) (eneg (by omega) (enow (by simp)))⟩
  | succ d ih =>
    intro i xs m hi hn h0 h1
    have w1 : wrap64 ((i : Int) + 1) = ((i + 1 : Nat) : Int) := by rw [w64 (by omega) (by omega)]; rfl
    have v0 : wrap64 (m + 1) = m + 1 := w64 (by omega) (by omega)
    have v1 : wrap64 (m + 1 + 1) = m + 2 := by rw [w64 (by omega) (by omega)]; omega
    have v2 : wrap64 (m + 2 + 1) = m + 3 := by rw [w64 (by omega) (by omega)]; omega
    have v3 : wrap64 (m + 3 + 1) = m + 4 := by rw [w64 (by omega) (by omega)]; omega
    have v4 : wrap64 (m + 4 + 1) = m + 5 := by rw [w64 (by omega) (by omega)]; omega
    have hr : ∃ zs : List S91, zs.length = xs.length ∧ ∀ r, Ev (fun k => laws_markStatementS.l0 k zs (m + 5) ((i + 1 : Nat) : Int)) r → Ev (fun k => laws_markStatementS.l0 k xs m (i : Int)) r := by
      apply Exists.intro
      apply And.intro
      rotate_left
      · intro r hz
        refine eround (fun k => by rw [laws_markStatementS.l0]) (epos (by omega) ?_)
        try simp only [w1, v0, v1, v2, v3, v4]
        refine epos (by omega) ?_
        refine enb rfl ?_
        refine enb rfl ?_
        refine enb rfl ?_
        refine enb rfl ?_
        refine enb rfl ?_
        try simp only [w1, v0, v1, v2, v3, v4]
        exact hz
      · simp
    obtain ⟨zs, hz, hr⟩ := hr
    obtain ⟨ys, hy⟩ := ih (i + 1) zs (m + 5) (by omega) (by omega) (by omega) (by push_cast at h1; omega)
    refine ⟨ys, hr _ ?_⟩
    rw [show m + 5 * ((d + 1 : Nat) : Int) = m + 5 + 5 * (d : Int) by push_cast; omega]
    exact hy
theorem laws_markStatementS_m (xs : List S91) (m : Int) (hn : xs.length ≤ 1048576) (h0 : 0 ≤ m) (h1 : m ≤ 4611686018427387904 - 5 * xs.length) : ∃ ys : List S91, Ev (fun k => laws_markStatementS.f k xs m) (m + 5 * xs.length, ys) :=
  laws_markStatementS_o xs.length 0 xs m (by omega) hn h0 h1
/-! laws_markClaimS -/
theorem laws_markClaimS_o : ∀ (d i : Nat) (xs : List S85) (m : Int), i + d = xs.length → xs.length ≤ 1048576 → 0 ≤ m → m ≤ 4611686018427387904 - 3 * d → ∃ ys : List S85, Ev (fun k => laws_markClaimS.l0 k xs m (i : Int)) (m + 3 * d, ys) := by
  intro d
  induction d with
  | zero =>
    intro i xs m hi hn h0 h1
    exact ⟨xs, eround (fun k => by rw [laws_markClaimS.l0]) (eneg (by omega) (enow (by simp)))⟩
  | succ d ih =>
    intro i xs m hi hn h0 h1
    have w1 : wrap64 ((i : Int) + 1) = ((i + 1 : Nat) : Int) := by rw [w64 (by omega) (by omega)]; rfl
    have v0 : wrap64 (m + 1) = m + 1 := w64 (by omega) (by omega)
    have v1 : wrap64 (m + 1 + 1) = m + 2 := by rw [w64 (by omega) (by omega)]; omega
    have v2 : wrap64 (m + 2 + 1) = m + 3 := by rw [w64 (by omega) (by omega)]; omega
    have hr : ∃ zs : List S85, zs.length = xs.length ∧ ∀ r, Ev (fun k => laws_markClaimS.l0 k zs (m + 3) ((i + 1 : Nat) : Int)) r → Ev (fun k => laws_markClaimS.l0 k xs m (i : Int)) r := by
      apply Exists.intro
      apply And.intro
      rotate_left
      · intro r hz
        refine eround (fun k => by rw [laws_markClaimS.l0]) (epos (by omega) ?_)
        try simp only [w1, v0, v1, v2]
        refine epos (by omega) ?_
        refine enb rfl ?_
        refine enb rfl ?_
        refine enb rfl ?_
        try simp only [w1, v0, v1, v2]
        exact hz
      · simp
    obtain ⟨zs, hz, hr⟩ := hr
    obtain ⟨ys, hy⟩ := ih (i + 1) zs (m + 3) (by omega) (by omega) (by omega) (by push_cast at h1; omega)
    refine ⟨ys, hr _ ?_⟩
    rw [show m + 3 * ((d + 1 : Nat) : Int) = m + 3 + 3 * (d : Int) by push_cast; omega]
    exact hy
theorem laws_markClaimS_m (xs : List S85) (m : Int) (hn : xs.length ≤ 1048576) (h0 : 0 ≤ m) (h1 : m ≤ 4611686018427387904 - 3 * xs.length) : ∃ ys : List S85, Ev (fun k => laws_markClaimS.f k xs m) (m + 3 * xs.length, ys) :=
  laws_markClaimS_o xs.length 0 xs m (by omega) hn h0 h1
/-! laws_toClaimS -/
theorem laws_toClaimS_l (xs : List S174) (hs : xs.length ≤ 1048576) : ∀ (d i : Nat) (acc : List S85), i + d = xs.length → acc.length = xs.length → acc.take i = (xs.map fun x => (⟨x.f0, x.f1, x.f2⟩ : S85)).take i → Ev (fun k => laws_toClaimS.l0 k xs acc (i : Int)) (xs.map fun x => (⟨x.f0, x.f1, x.f2⟩ : S85)) := by
  have hn := hs
  intro d
  induction d with
  | zero =>
    intro i acc hi hl ht
    refine eround (fun k => by rw [laws_toClaimS.l0]) (eneg (by omega) (enow ?_))
    rwa [List.take_of_length_le (by omega), List.take_of_length_le (by first | omega | (simp; omega))] at ht
  | succ d ih =>
    intro i acc hi hl ht
    have hlt : i < xs.length := by omega
    refine eround (fun k => by rw [laws_toClaimS.l0]) (epos (by omega) (epos (by omega) ?_))
    refine enb rfl (epos (by omega) ?_)
    rw [w64 (by omega) (by omega)]
    refine ih (i + 1) _ (by omega) (by simpa using hl) ?_
    exact take_set_succ _ _ rfl (by first | exact hlt | (simp; omega)) (by first | exact hl | simpa using hl) ht (by first | exact (getD_get xs i _ hlt).symm | (simp only [List.getElem_map]; rw [← getD_get xs i _ hlt]; rfl))
theorem laws_toClaimS_e (xs : List S174) (hs : xs.length ≤ 1048576) : Ev (fun k => laws_toClaimS.f k xs) (xs.map fun x => (⟨x.f0, x.f1, x.f2⟩ : S85)) := by
  have hn := hs
  unfold laws_toClaimS.f
  exact epos (by omega) (epos (by omega) (laws_toClaimS_l xs hs xs.length 0 _ (by omega) (by simp) (by simp)))
/-! laws_eqTally -/
theorem laws_eqTally_r (a0_0 : Int) (a0_1 : Int) (a0_2 : Int) : laws_eqTally.f a0_0 a0_1 a0_2 a0_0 a0_1 a0_2 = some true := by
  unfold laws_eqTally.f
  simp
/-! laws_eqTallyS -/
theorem laws_eqTallyS_lr (xs : List S110) (hs : xs.length ≤ 1048576) : ∀ (d i : Nat), i + d = xs.length → Ev (fun k => laws_eqTallyS.l0 k xs xs (i : Int)) true := by
  have hn := hs
  intro d
  induction d with
  | zero =>
    intro i hi
    exact eround (fun k => by rw [laws_eqTallyS.l0]) (eneg (by omega) (enow rfl))
  | succ d ih =>
    intro i hi
    have hlt : i < xs.length := by omega
    refine eround (fun k => by rw [laws_eqTallyS.l0]) (epos (by omega) (epos (by omega) (epos (by omega) ?_)))
    refine enb (laws_eqTally_r _ _ _) (epos rfl ?_)
    rw [w64 (by omega) (by omega)]
    exact ih (i + 1) (by omega)
theorem laws_eqTallyS_r (xs : List S110) (hs : xs.length ≤ 1048576) : Ev (fun k => laws_eqTallyS.f k xs xs) true := by
  unfold laws_eqTallyS.f
  exact epos rfl (laws_eqTallyS_lr xs hs xs.length 0 (by omega))
/-! laws_markTallyS -/
theorem laws_markTallyS_h : ∀ (d i : Nat) (xs : List S110) (m : Int), i + d = xs.length → xs.length ≤ 1048576 → 0 ≤ m → m ≤ 4611686018427387904 - 3 * d → ∃ ys : List S110, ys.length = xs.length ∧ ys.take i = xs.take i ∧
    Ev (fun k => laws_markTallyS.l0 k xs m (i : Int)) (m + 3 * d, ys) ∧ Ev (fun k => laws_heldTallyS.l0 k ys m (i : Int)) (m + 3 * d) := by
  intro d
  induction d with
  | zero =>
    intro i xs m hi hn h0 h1
    exact ⟨xs, rfl, rfl, eround (fun k => by rw [laws_markTallyS.l0]) (eneg (by omega) (enow (by simp))), eround (fun k => by rw [laws_heldTallyS.l0]) (eneg (by omega) (enow (by simp)))⟩
  | succ d ih =>
    intro i xs m hi hn h0 h1
    have hlt : i < xs.length := by omega
    have w1 : wrap64 ((i : Int) + 1) = ((i + 1 : Nat) : Int) := by rw [w64 (by omega) (by omega)]; rfl
    have v0 : wrap64 (m + 1) = m + 1 := w64 (by omega) (by omega)
    have v1 : wrap64 (m + 1 + 1) = m + 2 := by rw [w64 (by omega) (by omega)]; omega
    have v2 : wrap64 (m + 2 + 1) = m + 3 := by rw [w64 (by omega) (by omega)]; omega
    obtain ⟨ys, hl, ht, hm, hh⟩ := ih (i + 1) (xs.set ((i : Int)).toNat (⟨m, m + 1, m + 2⟩ : S110)) (m + 3) (by simp; omega) (by simpa using hn) (by omega) (by push_cast at h1; omega)
    have hlt' : i < ys.length := by rw [hl]; simpa using hlt
    have hy : ys[i] = (⟨m, m + 1, m + 2⟩ : S110) := by
      have := congrArg (fun l => l[i]?) ht
      simp only [List.getElem?_take_of_lt (Nat.lt_succ_self i), List.getElem?_eq_getElem hlt'] at this
      rw [show ((i : Int)).toNat = i by simp, List.getElem?_set_self (by simpa using hlt)] at this
      exact Option.some.inj this
    refine ⟨ys, by rw [hl]; simp, ?_, ?_, ?_⟩
    · have := congrArg (List.take i) ht
      rw [List.take_take, List.take_take, Nat.min_eq_left (by omega)] at this
      rw [this]
      simp [List.take_set_of_le]
    · refine eround (fun k => by rw [laws_markTallyS.l0]) (epos (by omega) ?_)
      try simp only [w1, v0, v1, v2]
      refine epos (by omega) ?_
      refine enb rfl ?_
      refine enb rfl ?_
      refine enb rfl ?_
      try simp only [w1, v0, v1, v2]
      simp only [rd_T110, getD_get, List.length_set, hlt, set_get, set_set_]
      rw [show m + 3 * ((d + 1 : Nat) : Int) = m + 3 + 3 * (d : Int) by push_cast; omega]
      simpa using hm
    · refine eround (fun k => by rw [laws_heldTallyS.l0]) (epos (by omega) (epos (by omega) ?_))
      have hr : ∀ z, ys.getD ((i : Int)).toNat z = ys[i] := fun z => getD_get ys i z hlt'
      try simp only [w1, v0, v1, v2]
      simp only [rd_T110, hr, hy]
      repeat (first | refine epos trivial ?_ | refine epos rfl ?_ | (refine eneg ?_ ?_; focus (simp; done)))
      rw [show m + 3 * ((d + 1 : Nat) : Int) = m + 3 + 3 * (d : Int) by push_cast; omega]
      exact hh
theorem laws_markTallyS_m (xs : List S110) (m : Int) (hn : xs.length ≤ 1048576) (h0 : 0 ≤ m) (h1 : m ≤ 4611686018427387904 - 3 * xs.length) : ∃ ys : List S110, ys.length = xs.length ∧ Ev (fun k => laws_markTallyS.f k xs m) (m + 3 * xs.length, ys) ∧ Ev (fun k => laws_heldTallyS.f k ys m) (m + 3 * xs.length) := by
  obtain ⟨ys, hl, _, h⟩ := laws_markTallyS_h xs.length 0 xs m (by omega) hn h0 h1
  exact ⟨ys, hl, h⟩
def inR (lo hi x : Int) : Bool := decide (x ≥ lo) && decide (x ≤ hi)
theorem inR_iff {lo hi x : Int} : inR lo hi x = true ↔ lo ≤ x ∧ x ≤ hi := by simp [inR]
theorem l1In_eq (a lo hi : Int) : spec_l1In.f a lo hi = some (inR lo hi a) := by
  unfold spec_l1In.f inR
  by_cases h : a ≥ lo <;> simp [h]
theorem within_eq (a lo hi : Int) : impl_within.f a lo hi = some (inR lo hi a) := by
  unfold impl_within.f inR
  by_cases h : a ≥ lo <;> simp [h]
def goodC (a b c : Int) : Bool := inR 0 20 a && (inR 0 1000 b && inR 0 100 c)
theorem specGC_eq (a b c : Int) : spec_GoodClaim.f a b c = some (goodC a b c) := by
  unfold spec_GoodClaim.f goodC
  rw [l1In_eq, l1In_eq, l1In_eq]
  cases h : inR 0 20 a <;> cases h1 : inR 0 1000 b <;> simp
theorem implGC_eq (a b c : Int) : impl_GoodClaim.f a b c = some (goodC a b c) := by
  unfold impl_GoodClaim.f impl_isLetterNumber.f goodC
  rw [within_eq, within_eq, within_eq]
  cases h : inR 0 20 a <;> cases h1 : inR 0 1000 b <;> simp
def goodSt (x : S91) : Bool := inR 0 6 x.f0 && goodC x.f1.f0 x.f1.f1 x.f1.f2
def goodSts (xs : List S91) : Bool := xs.all goodSt && decide ((xs.length : Int) ≤ 60)
theorem l12W_eq (a : Int) : spec_l12Witness.f a = some (inR 0 6 a) := by
  unfold spec_l12Witness.f
  rw [l1In_eq]; rfl
theorem specG12_l (xs : List S91) (hn : xs.length ≤ 1048576) : ∀ (d i : Nat), i + d = xs.length → Ev (fun k => spec_l12Good.l0 k xs xs (xs.length : Int) (i : Int)) ((xs.drop i).all goodSt && decide ((xs.length : Int) ≤ 60)) := by
  intro d
  induction d with
  | zero =>
    intro i hi
    refine eround (fun k => by rw [spec_l12Good.l0]) (eneg (by omega) (enow ?_))
    rw [List.drop_eq_nil_of_le (by omega)]; rfl
  | succ d ih =>
    intro i hi
    have hlt : i < xs.length := by omega
    refine eround (fun k => by rw [spec_l12Good.l0]) (epos (by omega) (epos (by omega) (epos (by omega) ?_)))
    rw [show rd_T91 xs (i : Int) = xs[i] from getD_get xs i _ hlt, List.drop_eq_getElem_cons hlt, List.all_cons]
    refine enb (l12W_eq _) ?_
    have hg : goodSt xs[i] = (inR 0 6 xs[i].f0 && goodC xs[i].f1.f0 xs[i].f1.f1 xs[i].f1.f2) := rfl
    cases h : inR 0 6 xs[i].f0 with
    | false => exact eneg (by simp) (enow (by simp [hg, h]))
    | true =>
      refine epos rfl (enb (specGC_eq _ _ _) ?_)
      cases h2 : goodC xs[i].f1.f0 xs[i].f1.f1 xs[i].f1.f2 with
      | false => exact eneg (by simp) (enow (by simp [hg, h2]))
      | true =>
        refine epos rfl ?_
        rw [w64 (by omega) (by omega), hg, h, h2]
        exact ih (i + 1) (by omega)
theorem specG12_e (xs : List S91) (hn : xs.length ≤ 1048576) : Ev (fun k => spec_l12Good.f k xs) (goodSts xs) := specG12_l xs hn xs.length 0 (by omega)
theorem isSt_eq (a b c d : Int) (e : Bool) : impl_isStatement.f a b c d e = some (inR 0 6 a && goodC b c d) := by
  unfold impl_isStatement.f
  rw [within_eq, implGC_eq]
  cases h : inR 0 6 a <;> simp
theorem areSt1_eq (x : S91) : impl_areStatements_1.f x.f0 x.f1.f0 x.f1.f1 x.f1.f2 x.f2 = some (!goodSt x) := by
  unfold impl_areStatements_1.f
  rw [isSt_eq]; rfl
theorem ixSt_l (xs : List S91) (hn : xs.length ≤ 1048576) : ∀ (d i : Nat), i + d = xs.length → ∃ r : Int, Ev (fun k => slices_IndexFunc_228_at_200.l0 k xs (xs.length : Int) (i : Int)) r ∧ -1 ≤ r ∧ r < (xs.length : Int) ∧ (r ≥ 0 ↔ (xs.drop i).any (fun x => !goodSt x) = true) := by
  intro d
  induction d with
  | zero =>
    intro i hi
    refine ⟨-1, eround (fun k => by rw [slices_IndexFunc_228_at_200.l0]) (eneg (by omega) (enow rfl)), by omega, by omega, ?_⟩
    rw [List.drop_eq_nil_of_le (by omega)]; simp
  | succ d ih =>
    intro i hi
    have hlt : i < xs.length := by omega
    obtain ⟨r, h1, h2, h2', h3⟩ := ih (i + 1) (by omega)
    rw [List.drop_eq_getElem_cons hlt, List.any_cons]
    cases h : (fun x : S91 => !goodSt x) xs[i] with
    | true =>
      refine ⟨(i : Int), eround (fun k => by rw [slices_IndexFunc_228_at_200.l0]) (epos (by omega) (epos (by omega) (epos (by omega) ?_))), by omega, by omega, ⟨fun _ => by rw [show (!goodSt xs[i]) = true from h]; rfl, fun _ => by omega⟩⟩
      rw [show rd_T91 xs (i : Int) = xs[i] from getD_get xs i _ hlt]
      exact enb (areSt1_eq _) (epos h (enow rfl))
    | false =>
      refine ⟨r, eround (fun k => by rw [slices_IndexFunc_228_at_200.l0]) (epos (by omega) (epos (by omega) (epos (by omega) ?_))), h2, h2', by rw [show (!goodSt xs[i]) = false from h, Bool.false_or]; exact h3⟩
      rw [show rd_T91 xs (i : Int) = xs[i] from getD_get xs i _ hlt]
      refine enb (areSt1_eq _) (eneg (by rw [show (!goodSt xs[i]) = false from h]; decide) ?_)
      rw [w64 (by omega) (by omega)]
      exact h1
theorem ixSt_e (xs : List S91) (hn : xs.length ≤ 1048576) : ∃ r : Int, Ev (fun k => slices_IndexFunc_228_at_200.f k xs) r ∧ -1 ≤ r ∧ r < (xs.length : Int) ∧ (r ≥ 0 ↔ xs.any (fun x => !goodSt x) = true) := ixSt_l xs hn xs.length 0 (by omega)
theorem implG12_e (xs : List S91) (hn : xs.length ≤ 1048576) : Ev (fun k => impl_areStatements.f k xs) (goodSts xs) := by
  unfold impl_areStatements.f goodSts
  by_cases h : (xs.length : Int) ≤ 60
  · obtain ⟨r, h1, _, _, h3⟩ := ixSt_e xs hn
    refine epos h (ebind (f := fun _ t => some (!t)) (a := decide (r ≥ 0)) ?_ (enow ?_))
    · exact ebind (f := fun _ t => some (decide (t ≥ 0))) h1 (enow rfl)
    · rw [decide_eq_true h, Bool.and_true]
      cases ha : xs.all goodSt with
      | true =>
        have : ¬ r ≥ 0 := by
          rw [h3, List.any_eq_true]
          rintro ⟨x, hx, hx'⟩
          have := List.all_eq_true.1 ha x hx
          simp [this] at hx'
        simp [this]
      | false =>
        have : r ≥ 0 := by
          rw [h3, List.any_eq_true]
          rw [List.all_eq_false] at ha
          obtain ⟨x, hx, hx'⟩ := ha
          exact ⟨x, hx, by simpa using hx'⟩
        simp [this]
  · exact eneg h (enow (by simp [h]))
def hasS (xs : List S91) (h a b c : Int) (f : Bool) : Bool := xs.any (fun x => h == x.f0 && ((a == x.f1.f0 && (b == x.f1.f1 && (c == x.f1.f2))) && (f == x.f2)))
theorem ixS_l (xs : List S91) (h a b c : Int) (f : Bool) (hn : xs.length ≤ 4194304) : ∀ (d i : Nat), i + d = xs.length → ∃ r : Int, Ev (fun k => impl_Statement_204.l0 k xs (xs.length : Int) (i : Int) h a b c f) r ∧ (r ≥ 0 ↔ hasS (xs.drop i) h a b c f = true) := by
  intro d
  induction d with
  | zero =>
    intro i hi
    refine ⟨-1, eround (fun k => by rw [impl_Statement_204.l0]) (eneg (by omega) (enow rfl)), ?_⟩
    rw [List.drop_eq_nil_of_le (by omega)]; simp [hasS]
  | succ d ih =>
    intro i hi
    have hlt : i < xs.length := by omega
    obtain ⟨r, h1, h3⟩ := ih (i + 1) (by omega)
    unfold hasS at h3 ⊢
    rw [List.drop_eq_getElem_cons hlt, List.any_cons]
    cases e : (h == xs[i].f0 && ((a == xs[i].f1.f0 && (b == xs[i].f1.f1 && (c == xs[i].f1.f2))) && (f == xs[i].f2))) with
    | true =>
      refine ⟨(i : Int), eround (fun k => by rw [impl_Statement_204.l0]) (epos (by omega) (epos (by omega) (epos (by omega) ?_))), by simp⟩
      rw [show rd_T91 xs (i : Int) = xs[i] from getD_get xs i _ hlt]
      exact epos e (enow rfl)
    | false =>
      refine ⟨r, eround (fun k => by rw [impl_Statement_204.l0]) (epos (by omega) (epos (by omega) (epos (by omega) ?_))), by rw [Bool.false_or]; exact h3⟩
      rw [show rd_T91 xs (i : Int) = xs[i] from getD_get xs i _ hlt]
      refine eneg (by rw [e]; decide) ?_
      rw [w64 (by omega) (by omega)]
      exact h1
theorem coS_e' (xs : List S91) (h a b c : Int) (f : Bool) (hn : xs.length ≤ 4194304) : Ev (fun k => impl_Statement_144.f k xs h a b c f) (hasS xs h a b c f) := by
  obtain ⟨r, h1, h3⟩ := ixS_l xs h a b c f hn xs.length 0 (by omega)
  refine ebind (f := fun _ t => some (decide (t ≥ 0))) h1 (enow ?_)
  rw [List.drop_zero] at h3
  cases e : hasS xs h a b c f with
  | true => rw [e] at h3; simpa using h3
  | false => rw [e] at h3; simpa using h3
theorem coS_e (xs : List S91) (h a b c : Int) (f : Bool) (hn : xs.length ≤ 1048576) : Ev (fun k => impl_Statement_144.f k xs h a b c f) (hasS xs h a b c f) := coS_e' xs h a b c f (by omega)
theorem hasS_cons (x : S91) (xs : List S91) (h a b c : Int) (f : Bool) : hasS (x :: xs) h a b c f = ((h == x.f0 && ((a == x.f1.f0 && (b == x.f1.f1 && (c == x.f1.f2))) && (f == x.f2))) || hasS xs h a b c f) := rfl
def refF (xs : List S91) (a b c : Int) : Nat → Nat → List Int
  | 0, _ => []
  | d + 1, i => (if hasS xs (i : Int) a b c true = true ∧ hasS xs (i : Int) a b c false = false then [(i : Int)] else []) ++ refF xs a b c d (i + 1)
theorem refF_len (xs : List S91) (a b c : Int) : ∀ d i, (refF xs a b c d i).length ≤ d
  | 0, _ => Nat.le_refl _
  | d + 1, i => by
    have := refF_len xs a b c d (i + 1)
    simp only [refF, List.length_append]
    split <;> simp <;> omega
theorem implRef_l (xs : List S91) (a b c : Int) (hn : xs.length ≤ 1048576) : ∀ (d i : Nat) (out : List Int), i + d = 7 → out.length ≤ i → Ev (fun k => impl_refusedBy.l0 k xs out (i : Int) a b c) (out ++ refF xs a b c d i) := by
  intro d
  induction d with
  | zero =>
    intro i out hi ho
    exact eround (fun k => by rw [impl_refusedBy.l0]) (eneg (by omega) (enow (by simp [refF])))
  | succ d ih =>
    intro i out hi ho
    refine eround (fun k => by rw [impl_refusedBy.l0]) (epos (by omega) (ebind (coS_e _ _ _ _ _ _ hn) ?_))
    rw [w64 (by omega) (by omega)]
    simp only [refF]
    cases h1 : hasS xs (i : Int) a b c true with
    | false =>
      refine eneg (by decide) ?_
      simpa using ih (i + 1) out (by omega) (by omega)
    | true =>
      refine epos rfl (ebind (coS_e _ _ _ _ _ _ hn) ?_)
      cases h2 : hasS xs (i : Int) a b c false with
      | true =>
        refine epos rfl ?_
        simpa using ih (i + 1) out (by omega) (by omega)
      | false =>
        refine eneg (by decide) (epos (by omega) ?_)
        have := ih (i + 1) (out ++ [(i : Int)]) (by omega) (by simp; omega)
        rw [List.append_assoc] at this
        simpa using this
theorem implRef_e (xs : List S91) (a b c : Int) (hn : xs.length ≤ 1048576) : Ev (fun k => impl_refusedBy.f k xs a b c) (refF xs a b c 7 0) := implRef_l xs a b c hn 7 0 [] (by omega) (by simp)
theorem specRef_l1 (xs : List S91) (a b c : Int) (hn : xs.length ≤ 1048576) (out : List Int) (w : Nat) (hw : w < 7) (ho : out.length ≤ w) (R : List Int)
    (H : Ev (fun k => spec_l12Refused.l0 k xs (out ++ if hasS xs (w : Int) a b c true = true ∧ hasS xs (w : Int) a b c false = false then [(w : Int)] else []) ((w + 1 : Nat) : Int) a b c) R) :
    ∀ (d i : Nat) (y n : Bool), i + d = xs.length → (y || hasS (xs.drop i) (w : Int) a b c true) = hasS xs (w : Int) a b c true → (n || hasS (xs.drop i) (w : Int) a b c false) = hasS xs (w : Int) a b c false → Ev (fun k => spec_l12Refused.l1 k xs out (w : Int) y n xs (xs.length : Int) (i : Int) a b c) R := by
  intro d
  induction d with
  | zero =>
    intro i y n hi hy hx
    rw [List.drop_eq_nil_of_le (by omega)] at hy hx
    have hy' : y = hasS xs (w : Int) a b c true := by simpa [hasS] using hy
    have hx' : n = hasS xs (w : Int) a b c false := by simpa [hasS] using hx
    refine eround (fun k => by rw [spec_l12Refused.l1]) (eneg (by omega) ?_)
    rw [w64 (by omega) (by omega), hy', hx']
    cases h1 : hasS xs (w : Int) a b c true with
    | false => refine eneg (by decide) ?_; simpa [h1] using H
    | true =>
      refine epos rfl ?_
      cases h2 : hasS xs (w : Int) a b c false with
      | true => refine epos rfl ?_; simpa [h1, h2] using H
      | false => refine eneg (by decide) (epos (by omega) ?_); simpa [h1, h2] using H
  | succ d ih =>
    intro i y n hi hy hx
    have hlt : i < xs.length := by omega
    rw [List.drop_eq_getElem_cons hlt, hasS_cons] at hy hx
    refine eround (fun k => by rw [spec_l12Refused.l1]) (epos (by omega) (epos (by omega) (epos (by omega) ?_)))
    rw [show rd_T91 xs (i : Int) = xs[i] from getD_get xs i _ hlt, w64 (by omega) (by omega)]
    by_cases e1 : xs[i].f0 = (w : Int)
    · refine epos e1 ?_
      cases e2 : ((xs[i].f1.f0 == a) && ((xs[i].f1.f1 == b) && (xs[i].f1.f2 == c))) with
      | false =>
        refine eneg (by decide) ?_
        refine ih (i + 1) y n (by omega) ?_ ?_
        · rw [← hy]; congr 1
          have : ((w : Int) == xs[i].f0 && ((a == xs[i].f1.f0 && (b == xs[i].f1.f1 && (c == xs[i].f1.f2))) && (true == xs[i].f2))) = false := by
            rw [Bool.eq_false_iff] at e2 ⊢; intro e; apply e2; simp only [Bool.and_eq_true, beq_iff_eq] at e ⊢; exact ⟨e.2.1.1.symm, e.2.1.2.1.symm, e.2.1.2.2.symm⟩
          rw [this]; rfl
        · rw [← hx]; congr 1
          have : ((w : Int) == xs[i].f0 && ((a == xs[i].f1.f0 && (b == xs[i].f1.f1 && (c == xs[i].f1.f2))) && (false == xs[i].f2))) = false := by
            rw [Bool.eq_false_iff] at e2 ⊢; intro e; apply e2; simp only [Bool.and_eq_true, beq_iff_eq] at e ⊢; exact ⟨e.2.1.1.symm, e.2.1.2.1.symm, e.2.1.2.2.symm⟩
          rw [this]; rfl
      | true =>
        refine epos rfl ?_
        simp only [Bool.and_eq_true, beq_iff_eq] at e2
        have E : ∀ f : Bool, ((w : Int) == xs[i].f0 && ((a == xs[i].f1.f0 && (b == xs[i].f1.f1 && (c == xs[i].f1.f2))) && (f == xs[i].f2))) = (f == xs[i].f2) := by
          intro f; simp [e1, e2.1, e2.2.1, e2.2.2]
        rw [E] at hy hx
        cases y <;> cases n <;> cases hf : xs[i].f2 <;> simp only [hf] at hy hx ⊢ <;> refine ih (i + 1) _ _ (by omega) (by simpa using hy) (by simpa using hx)
    · refine eneg e1 (ih (i + 1) y n (by omega) ?_ ?_)
      · rw [← hy]; congr 1
        have : ((w : Int) == xs[i].f0) = false := by simpa using fun e => e1 e.symm
        rw [this]; rfl
      · rw [← hx]; congr 1
        have : ((w : Int) == xs[i].f0) = false := by simpa using fun e => e1 e.symm
        rw [this]; rfl
theorem specRef_l (xs : List S91) (a b c : Int) (hn : xs.length ≤ 1048576) : ∀ (d i : Nat) (out : List Int), i + d = 7 → out.length ≤ i → Ev (fun k => spec_l12Refused.l0 k xs out (i : Int) a b c) (out ++ refF xs a b c d i) := by
  intro d
  induction d with
  | zero =>
    intro i out hi ho
    exact eround (fun k => by rw [spec_l12Refused.l0]) (eneg (by omega) (enow (by simp [refF])))
  | succ d ih =>
    intro i out hi ho
    refine eround (fun k => by rw [spec_l12Refused.l0]) (epos (by omega) ?_)
    refine specRef_l1 xs a b c hn out i (by omega) ho _ ?_ xs.length 0 false false (by omega) (by simp) (by simp)
    simp only [refF]
    rw [← List.append_assoc]
    refine ih (i + 1) _ (by omega) ?_
    rw [List.length_append]
    split <;> simp <;> omega
theorem specRef_e (xs : List S91) (a b c : Int) (hn : xs.length ≤ 1048576) : Ev (fun k => spec_l12Refused.f k xs a b c) (refF xs a b c 7 0) := specRef_l xs a b c hn 7 0 [] (by omega) (by simp)
def ltC (x y : S85) : Prop := x.f0 < y.f0 ∨ x.f0 = y.f0 ∧ (x.f1 < y.f1 ∨ x.f1 = y.f1 ∧ x.f2 < y.f2)
instance (x y : S85) : Decidable (ltC x y) := by unfold ltC; infer_instance
theorem ltC_irr (x : S85) : ¬ ltC x x := by unfold ltC; omega
theorem ltC_tr {x y z : S85} (h : ltC x y) (k : ltC y z) : ltC x z := by unfold ltC at *; omega
theorem ltC_tot {x y : S85} (h : ¬ ltC x y) (k : ¬ ltC y x) : x = y := by
  cases x
  cases y
  unfold ltC at h k
  dsimp only at h k
  simp only [S85.mk.injEq]
  omega
/-- Two lists in order with the same members are one. -/
theorem inC_one : ∀ (a b : List S85), a.Pairwise ltC → b.Pairwise ltC → (∀ x, x ∈ a ↔ x ∈ b) → a = b
  | [], [], _, _, _ => rfl
  | [], y :: b, _, _, h => by have := (h y).2 List.mem_cons_self; cases this
  | x :: a, [], _, _, h => by have := (h x).1 List.mem_cons_self; cases this
  | x :: a, y :: b, ha, hb, h => by
    obtain ⟨ha1, ha2⟩ := List.pairwise_cons.1 ha
    obtain ⟨hb1, hb2⟩ := List.pairwise_cons.1 hb
    have e : x = y := by
      rcases List.mem_cons.1 ((h x).1 List.mem_cons_self) with e | hx
      · exact e
      · rcases List.mem_cons.1 ((h y).2 List.mem_cons_self) with e | hy
        · exact e.symm
        · exact absurd (ltC_tr (ha1 y hy) (hb1 x hx)) (ltC_irr x)
    subst e
    congr 1
    refine inC_one a b ha2 hb2 fun z => ⟨fun hz => ?_, fun hz => ?_⟩
    · rcases List.mem_cons.1 ((h z).1 (List.mem_cons_of_mem _ hz)) with e | h2
      · exact absurd (e ▸ ha1 z hz) (ltC_irr x)
      · exact h2
    · rcases List.mem_cons.1 ((h z).2 (List.mem_cons_of_mem _ hz)) with e | h2
      · exact absurd (e ▸ hb1 z hz) (ltC_irr x)
      · exact h2
/-- A claim comes to its place, once. -/
def insC : List S85 → S85 → List S85
  | [], c => [c]
  | x :: r, c => if ltC x c then x :: insC r c else if x = c then x :: r else c :: x :: r
theorem insC_mem (c z : S85) : ∀ l, z ∈ insC l c ↔ z = c ∨ z ∈ l
  | [] => by simp [insC]
  | x :: r => by
    unfold insC
    split
    · rw [List.mem_cons, insC_mem c z r, List.mem_cons]
      constructor
      · rintro (h | h | h) <;> simp [h]
      · rintro (h | h | h) <;> simp [h]
    · split
      · next e => subst e; simp
      · simp
theorem insC_order (c : S85) : ∀ l : List S85, l.Pairwise ltC → (insC l c).Pairwise ltC
  | [], _ => by simp [insC]
  | x :: r, h => by
    obtain ⟨h1, h2⟩ := List.pairwise_cons.1 h
    unfold insC
    split
    · next hl =>
      refine List.pairwise_cons.2 ⟨fun z hz => ?_, insC_order c r h2⟩
      rcases (insC_mem c z r).1 hz with rfl | hz
      · exact hl
      · exact h1 z hz
    · next hl =>
      split
      · exact h
      · next hne =>
        have hcx : ltC c x := Decidable.byContradiction fun hn => hne (ltC_tot hl hn)
        refine List.pairwise_cons.2 ⟨fun z hz => ?_, h⟩
        rcases List.mem_cons.1 hz with rfl | hz
        · exact hcx
        · exact ltC_tr hcx (h1 z hz)
theorem insC_len (c : S85) : ∀ l, (insC l c).length ≤ l.length + 1
  | [] => by simp [insC]
  | x :: r => by
    have := insC_len c r
    unfold insC
    split
    · simpa using this
    · split <;> simp
def clsC (l : List S91) : List S85 := l.foldl (fun out s => insC out s.f1) []
theorem clsC_fold : ∀ (l : List S91) (out : List S85), out.Pairwise ltC → (l.foldl (fun out s => insC out s.f1) out).Pairwise ltC ∧ (∀ z, z ∈ l.foldl (fun out s => insC out s.f1) out ↔ z ∈ out ∨ ∃ s ∈ l, s.f1 = z) ∧ (l.foldl (fun out s => insC out s.f1) out).length ≤ out.length + l.length
  | [], out, h => ⟨h, fun z => by simp, by simp⟩
  | s :: l, out, h => by
    obtain ⟨h1, h2, h3⟩ := clsC_fold l (insC out s.f1) (insC_order s.f1 out h)
    refine ⟨h1, fun z => ?_, ?_⟩
    · rw [List.foldl_cons, h2 z, insC_mem]
      constructor
      · rintro ((h | h) | ⟨t, ht, h⟩)
        · exact .inr ⟨s, List.mem_cons_self, h.symm⟩
        · exact .inl h
        · exact .inr ⟨t, List.mem_cons_of_mem _ ht, h⟩
      · rintro (h | ⟨t, ht, h⟩)
        · exact .inl (.inr h)
        · rcases List.mem_cons.1 ht with rfl | ht
          · exact .inl (.inl h.symm)
          · exact .inr ⟨t, ht, h⟩
    · have := insC_len s.f1 out
      rw [List.foldl_cons, List.length_cons]
      omega
theorem clsC_in (l : List S91) : (clsC l).Pairwise ltC ∧ (∀ z, z ∈ clsC l ↔ ∃ s ∈ l, s.f1 = z) ∧ (clsC l).length ≤ l.length := by
  obtain ⟨h1, h2, h3⟩ := clsC_fold l [] List.Pairwise.nil
  exact ⟨h1, fun z => by rw [clsC, h2 z]; simp, by rw [clsC]; simpa using h3⟩
/-! the reference's -/
theorem l12Less_eq (x y : S85) : spec_l12Less.f x.f0 x.f1 x.f2 y.f0 y.f1 y.f2 = some (decide (ltC x y)) := by
  have e : ∀ (p : Prop) [Decidable p], (p ↔ ltC x y) → some (decide p) = some (decide (ltC x y)) := fun p _ hp => congrArg some (decide_eq_decide.2 hp)
  unfold spec_l12Less.f
  by_cases h0 : x.f0 = y.f0
  · rw [if_pos h0]
    by_cases h1 : x.f1 = y.f1
    · rw [if_pos h1]
      exact e _ (by unfold ltC; omega)
    · rw [if_neg h1]
      exact e _ (by unfold ltC; omega)
  · rw [if_neg h0]
    exact e _ (by unfold ltC; omega)
theorem specIns_l (out : List S85) (xs : List S91) (n j a : Int) (c : S85) (e : Bool) (hn : out.length ≤ 2097152) {r : List S85} : ∀ (d i : Nat), i + d = out.length →
    Ev (fun k => spec_l12Claims.l0 k (out.take i ++ insC (out.drop i) c) xs n (wrap64 (j + 1))) r → Ev (fun k => spec_l12Claims.l1 k out (i : Int) xs n j a c.f0 c.f1 c.f2 e) r := by
  intro d
  induction d with
  | zero =>
    intro i hi h
    rw [List.drop_eq_nil_of_le (by omega), List.take_of_length_le (by omega)] at h
    refine eround (fun k => by rw [spec_l12Claims.l1]) (eneg (by omega) ?_)
    refine enb rfl (epos (by omega) (epos (by omega) (enb rfl (epos ?_ (enb rfl (epos ?_ (enb rfl (enb rfl (epos ?_ ?_)))))))))
    · simp; omega
    · simp; omega
    · simp; omega
    · have e1 : ([] ++ List.take ((i : Int)).toNat out ++ [(⟨c.f0, c.f1, c.f2⟩ : S85)] ++ List.drop ((i : Int)).toNat out) = out ++ insC [] c := by
        rw [Int.toNat_natCast, List.drop_eq_nil_of_le (by omega), List.take_of_length_le (by omega)]
        simp [insC]
      rw [e1]
      exact h
  | succ d ih =>
    intro i hi h
    have hlt : i < out.length := by omega
    refine eround (fun k => by rw [spec_l12Claims.l1]) (epos (by omega) (epos (by omega) ?_))
    rw [show rd_T85 out (i : Int) = out[i] from getD_get out i _ hlt]
    refine enb (l12Less_eq out[i] c) ?_
    rw [List.drop_eq_getElem_cons hlt] at h
    by_cases hc : ltC out[i] c
    · refine epos (by simpa using hc) ?_
      rw [w64 (by omega) (by omega)]
      refine ih (i + 1) (by omega) ?_
      rw [List.take_succ_eq_append_getElem hlt, List.append_assoc]
      simp only [insC, if_pos hc] at h
      exact h
    · refine eneg (by simpa using hc) ?_
      by_cases he : out[i] = c
      · refine epos (by simp [he]) ?_
        simp only [insC, if_neg hc, if_pos he] at h
        rwa [← List.drop_eq_getElem_cons hlt, List.take_append_drop] at h
      · refine eneg (by simp only [Bool.and_eq_true, beq_iff_eq]; intro hh; exact he (by cases hq : out[i]; cases c; rw [hq] at hh; simp only [S85.mk.injEq]; exact hh)) ?_
        simp only [insC, if_neg hc, if_neg he] at h
        refine enb rfl (epos (by omega) (enb rfl (epos ?_ (enb rfl (epos ?_ (enb rfl (enb rfl (epos ?_ ?_))))))))
        · simp; omega
        · simp; omega
        · simp; omega
        · have e1 : ([] ++ List.take ((i : Int)).toNat out ++ [(⟨c.f0, c.f1, c.f2⟩ : S85)] ++ List.drop ((i : Int)).toNat out) = out.take i ++ c :: out[i] :: out.drop (i + 1) := by
            rw [Int.toNat_natCast, List.drop_eq_getElem_cons hlt]
            simp
          rw [e1]
          exact h
theorem specCls_l (xs : List S91) (hn : xs.length ≤ 1048576) : ∀ (d i : Nat) (out : List S85), i + d = xs.length → out.length ≤ i → Ev (fun k => spec_l12Claims.l0 k out xs (xs.length : Int) (i : Int)) ((xs.drop i).foldl (fun out s => insC out s.f1) out) := by
  intro d
  induction d with
  | zero =>
    intro i out hi ho
    refine eround (fun k => by rw [spec_l12Claims.l0]) (eneg (by omega) (enow ?_))
    rw [List.drop_eq_nil_of_le (by omega)]
    rfl
  | succ d ih =>
    intro i out hi ho
    have hlt : i < xs.length := by omega
    refine eround (fun k => by rw [spec_l12Claims.l0]) (epos (by omega) (epos (by omega) (epos (by omega) ?_)))
    rw [show rd_T91 xs (i : Int) = xs[i] from getD_get xs i _ hlt, List.drop_eq_getElem_cons hlt, List.foldl_cons]
    refine specIns_l out xs (xs.length : Int) (i : Int) xs[i].f0 xs[i].f1 xs[i].f2 (by omega) out.length 0 (by omega) ?_
    rw [List.take_zero, List.drop_zero, List.nil_append, w64 (by omega) (by omega)]
    exact ih (i + 1) (insC out xs[i].f1) (by omega) (by have := insC_len xs[i].f1 out; omega)
theorem specCls_e (xs : List S91) (hn : xs.length ≤ 1048576) : Ev (fun k => spec_l12Claims.f k xs) (clsC xs) := specCls_l xs hn xs.length 0 [] (by omega) (by simp)
/-! the program's -/
theorem ltC_lt (x y : S85) : Go.Proofs.ltOf impl_compareClaims.cf x y = decide (ltC x y) := by
  rw [impl_compareClaims.ltcf]
  exact decide_eq_decide.2 Iff.rfl
def leC (x y : S85) : Prop := ¬ ltC y x
instance (x y : S85) : Decidable (leC x y) := by unfold leC; infer_instance
theorem leC_tr {x y z : S85} (h : leC x y) (k : leC y z) : leC x z := by unfold leC ltC at *; omega
/-- What compacting keeps of a list in order. -/
theorem compC_in (d : List S85) (hd : d.Pairwise leC) : (Lib.compactUpTo d.toArray d.length).Pairwise ltC ∧ ∀ x, x ∈ Lib.compactUpTo d.toArray d.length ↔ x ∈ d := by
  have hg : ∀ i (h : i < d.length), d.toArray[i]! = d[i] := fun i h => by rw [getElem!_pos d.toArray i (by simpa using h)]; simp
  have hle : ∀ i j (h : i < j) (hj : j < d.length), leC d[i] d[j] := fun i j h hj => List.pairwise_iff_getElem.1 hd i j (by omega) hj h
  constructor
  · unfold Lib.compactUpTo
    rw [List.pairwise_map, List.pairwise_filter]
    refine (List.pairwise_lt_range).imp_of_mem ?_
    intro i j hi hj hij ki kj
    rw [List.mem_range] at hi hj
    rw [hg i hi, hg j hj]
    have k2 : d[j] ≠ d[j - 1] := by
      unfold Lib.keeps at kj
      rw [decide_eq_true_eq] at kj
      rcases kj with h | h
      · omega
      · rwa [hg j hj, hg (j - 1) (by omega)] at h
    refine Decidable.byContradiction fun hn => k2 ?_
    have h1 : leC d[j - 1] d[j] := hle (j - 1) j (by omega) hj
    refine ltC_tot ?_ ?_
    · exact h1
    · intro hlt
      have h2 : leC d[i] d[j - 1] := by
        rcases Nat.lt_or_ge i (j - 1) with h | h
        · exact hle i (j - 1) h (by omega)
        · have : i = j - 1 := by omega
          subst this
          exact ltC_irr _
      unfold leC at h2
      unfold ltC at hn hlt h2
      omega
  · intro x
    unfold Lib.compactUpTo
    rw [List.mem_map]
    constructor
    · rintro ⟨i, hi, rfl⟩
      have hi2 := List.mem_range.1 (List.mem_filter.1 hi).1
      rw [hg i hi2]
      exact List.getElem_mem hi2
    · intro hx
      obtain ⟨i, hi, rfl⟩ := List.getElem_of_mem hx
      have key : ∀ n (hn : n < d.length), ∃ j, j ∈ (List.range d.length).filter (Lib.keeps d.toArray) ∧ d.toArray[j]! = d[n] := by
        intro n
        induction n with
        | zero => exact fun hn => ⟨0, List.mem_filter.2 ⟨List.mem_range.2 hn, by simp [Lib.keeps]⟩, hg 0 hn⟩
        | succ n ih =>
          intro hn
          by_cases he : d[n + 1] = d[n]
          · obtain ⟨j, h1, h2⟩ := ih (by omega)
            exact ⟨j, h1, h2.trans he.symm⟩
          · refine ⟨n + 1, List.mem_filter.2 ⟨List.mem_range.2 hn, ?_⟩, hg _ hn⟩
            unfold Lib.keeps
            rw [decide_eq_true_eq, hg _ hn, show n + 1 - 1 = n from rfl, hg n (by omega)]
            exact .inr he
      exact key i hi
theorem sortC_in (d : List S85) : (d.mergeSort slices_SortFunc_201_at_202.le).Pairwise leC := by
  have hle : ∀ x y, slices_SortFunc_201_at_202.le x y = decide (leC x y) := by
    intro x y
    unfold slices_SortFunc_201_at_202.le
    rw [ltC_lt, ← decide_not]
    exact decide_eq_decide.2 Iff.rfl
  have h := List.pairwise_mergeSort (le := slices_SortFunc_201_at_202.le) (fun a b c h1 h2 => by
    rw [hle] at *
    rw [decide_eq_true_eq] at *
    exact leC_tr h1 h2) (fun a b => by
    rw [hle, hle, Bool.or_eq_true, decide_eq_true_eq, decide_eq_true_eq]
    unfold leC ltC
    omega) d
  exact h.imp (fun h => by rw [hle, decide_eq_true_eq] at h; exact h)
theorem sameC (xs : List S91) : Lib.compactUpTo ((xs.map (·.f1)).mergeSort slices_SortFunc_201_at_202.le).toArray ((xs.map (·.f1)).mergeSort slices_SortFunc_201_at_202.le).length = clsC xs := by
  obtain ⟨h1, h2⟩ := compC_in _ (sortC_in (xs.map (·.f1)))
  obtain ⟨g1, g2, _⟩ := clsC_in xs
  refine inC_one _ _ h1 g1 fun x => ?_
  rw [h2, g2, List.mem_mergeSort, List.mem_map]
theorem implCls_l (xs : List S91) (hn : xs.length ≤ 1048576) : ∀ (d i : Nat), i + d = xs.length → Ev (fun k => impl_claimsIn.l0 k ((xs.take i).map (·.f1)) xs (xs.length : Int) (i : Int)) (clsC xs) := by
  intro d
  induction d with
  | zero =>
    intro i hi
    refine eround (fun k => by rw [impl_claimsIn.l0]) (eneg (by omega) ?_)
    rw [List.take_of_length_le (by omega)]
    have e1 : slices_SortFunc_201_at_202.f (xs.map (·.f1)) = some ((xs.map (·.f1)).mergeSort slices_SortFunc_201_at_202.le) := by
      unfold slices_SortFunc_201_at_202.f
      rw [if_pos (by simp; omega)]
    refine enb e1 (enb (a := clsC xs) ?_ (enow rfl))
    unfold impl_Claim_203.f
    rw [sameC]
  | succ d ih =>
    intro i hi
    have hlt : i < xs.length := by omega
    refine eround (fun k => by rw [impl_claimsIn.l0]) (epos (by omega) (epos (by omega) (epos (by omega) (epos (by simp; omega) ?_))))
    rw [show rd_T91 xs (i : Int) = xs[i] from getD_get xs i _ hlt, w64 (by omega) (by omega)]
    have e1 : (xs.take i).map (·.f1) ++ [(⟨xs[i].f1.f0, xs[i].f1.f1, xs[i].f1.f2⟩ : S85)] = (xs.take (i + 1)).map (·.f1) := by
      rw [List.take_succ_eq_append_getElem hlt, List.map_append]
      rfl
    rw [e1]
    exact ih (i + 1) (by omega)
theorem implCls_e (xs : List S91) (hn : xs.length ≤ 1048576) : Ev (fun k => impl_claimsIn.f k xs) (clsC xs) := implCls_l xs hn xs.length 0 (by omega)
def owes (f : Int) (xs : List S91) (h : Int) (c : S85) : Bool := decide (c.f0 = h) && decide (((refF xs c.f0 c.f1 c.f2 7 0).length : Int) > f)
def debF (f : Int) (xs : List S91) (h : Int) : List S85 := (clsC xs).filter (owes f xs h)
theorem debF_len (f : Int) (xs : List S91) (h : Int) : (debF f xs h).length ≤ xs.length := Nat.le_trans (List.length_filter_le _ _) (clsC_in xs).2.2
theorem specDeb_l (f : Int) (xs : List S91) (h : Int) (hn : xs.length ≤ 1048576) (cs : List S85) (hc : cs.length ≤ 1048576) : ∀ (d i : Nat) (out : List S85), i + d = cs.length → out.length ≤ i → Ev (fun k => spec_l14Debits.l0 k f xs h out cs (cs.length : Int) (i : Int)) (out ++ (cs.drop i).filter (owes f xs h)) := by
  intro d
  induction d with
  | zero =>
    intro i out hi ho
    refine eround (fun k => by rw [spec_l14Debits.l0]) (eneg (by omega) (enow ?_))
    rw [List.drop_eq_nil_of_le (by omega)]
    simp
  | succ d ih =>
    intro i out hi ho
    have hlt : i < cs.length := by omega
    refine eround (fun k => by rw [spec_l14Debits.l0]) (epos (by omega) (epos (by omega) (epos (by omega) ?_)))
    rw [show rd_T85 cs (i : Int) = cs[i] from getD_get cs i _ hlt, List.drop_eq_getElem_cons hlt, List.filter_cons, w64 (by omega) (by omega)]
    have hskip := ih (i + 1) out (by omega) (by omega)
    have htake := ih (i + 1) (out ++ [cs[i]]) (by omega) (by rw [List.length_append, List.length_singleton]; omega)
    rw [List.append_assoc, List.singleton_append] at htake
    by_cases h0 : cs[i].f0 = h
    · refine epos h0 (ebind (specRef_e xs cs[i].f0 cs[i].f1 cs[i].f2 hn) ?_)
      by_cases h1 : ((refF xs cs[i].f0 cs[i].f1 cs[i].f2 7 0).length : Int) > f
      · refine epos h1 (epos (by omega) ?_)
        rw [if_pos (show owes f xs h cs[i] = true by unfold owes; rw [decide_eq_true h0, decide_eq_true h1]; rfl)]
        exact htake
      · refine eneg h1 ?_
        rw [if_neg (show ¬ owes f xs h cs[i] = true by unfold owes; rw [decide_eq_false h1, Bool.and_false]; decide)]
        exact hskip
    · refine eneg h0 ?_
      rw [if_neg (show ¬ owes f xs h cs[i] = true by unfold owes; rw [decide_eq_false h0, Bool.false_and]; decide)]
      exact hskip
theorem specDeb_e (f : Int) (xs : List S91) (h : Int) (hn : xs.length ≤ 1048576) : Ev (fun k => spec_l14Debits.f k f xs h) (debF f xs h) := by
  unfold spec_l14Debits.f
  have hc : (clsC xs).length ≤ 1048576 := Nat.le_trans (clsC_in xs).2.2 hn
  refine ebind (specCls_e xs hn) ?_
  exact specDeb_l f xs h hn (clsC xs) hc (clsC xs).length 0 [] (by omega) (by simp)
theorem implDeb_l (f : Int) (xs : List S91) (h : Int) (hn : xs.length ≤ 1048576) (cs : List S85) (hc : cs.length ≤ 1048576) : ∀ (d i : Nat) (out : List S85), i + d = cs.length → out.length ≤ i → Ev (fun k => impl_debits.l0 k f xs h out cs (cs.length : Int) (i : Int)) (out ++ (cs.drop i).filter (owes f xs h)) := by
  intro d
  induction d with
  | zero =>
    intro i out hi ho
    refine eround (fun k => by rw [impl_debits.l0]) (eneg (by omega) (enow ?_))
    rw [List.drop_eq_nil_of_le (by omega)]
    simp
  | succ d ih =>
    intro i out hi ho
    have hlt : i < cs.length := by omega
    refine eround (fun k => by rw [impl_debits.l0]) (epos (by omega) (epos (by omega) (epos (by omega) ?_)))
    rw [show rd_T85 cs (i : Int) = cs[i] from getD_get cs i _ hlt, List.drop_eq_getElem_cons hlt, List.filter_cons, w64 (by omega) (by omega)]
    have hskip := ih (i + 1) out (by omega) (by omega)
    have htake := ih (i + 1) (out ++ [cs[i]]) (by omega) (by rw [List.length_append, List.length_singleton]; omega)
    rw [List.append_assoc, List.singleton_append] at htake
    by_cases h0 : cs[i].f0 = h
    · refine epos h0 (ebind (implRef_e xs cs[i].f0 cs[i].f1 cs[i].f2 hn) ?_)
      by_cases h1 : ((refF xs cs[i].f0 cs[i].f1 cs[i].f2 7 0).length : Int) > f
      · refine epos h1 (epos (by omega) ?_)
        rw [if_pos (show owes f xs h cs[i] = true by unfold owes; rw [decide_eq_true h0, decide_eq_true h1]; rfl)]
        exact htake
      · refine eneg h1 ?_
        rw [if_neg (show ¬ owes f xs h cs[i] = true by unfold owes; rw [decide_eq_false h1, Bool.and_false]; decide)]
        exact hskip
    · refine eneg h0 ?_
      rw [if_neg (show ¬ owes f xs h cs[i] = true by unfold owes; rw [decide_eq_false h0, Bool.false_and]; decide)]
      exact hskip
theorem implDeb_e (f : Int) (xs : List S91) (h : Int) (hn : xs.length ≤ 1048576) : Ev (fun k => impl_debits.f k f xs h) (debF f xs h) := by
  unfold impl_debits.f
  have hc : (clsC xs).length ≤ 1048576 := Nat.le_trans (clsC_in xs).2.2 hn
  refine ebind (implCls_e xs hn) ?_
  exact implDeb_l f xs h hn (clsC xs) hc (clsC xs).length 0 [] (by omega) (by simp)
def sameK (a b c : Int) (x : S85) : Bool := x.f0 == a && (x.f1 == b && x.f2 == c)
theorem specHC_l (cs : List S85) (a b c : Int) (hn : cs.length ≤ 1048576) : ∀ (d i : Nat), i + d = cs.length → Ev (fun k => spec_l14HasClaim.l0 k cs (cs.length : Int) (i : Int) a b c) ((cs.drop i).any (sameK a b c)) := by
  intro d
  induction d with
  | zero =>
    intro i hi
    refine eround (fun k => by rw [spec_l14HasClaim.l0]) (eneg (by omega) (enow ?_))
    rw [List.drop_eq_nil_of_le (by omega)]
    rfl
  | succ d ih =>
    intro i hi
    have hlt : i < cs.length := by omega
    refine eround (fun k => by rw [spec_l14HasClaim.l0]) (epos (by omega) (epos (by omega) (epos (by omega) ?_)))
    rw [show rd_T85 cs (i : Int) = cs[i] from getD_get cs i _ hlt, List.drop_eq_getElem_cons hlt, List.any_cons, w64 (by omega) (by omega)]
    by_cases h : sameK a b c cs[i] = true
    · refine epos h (enow ?_)
      rw [h, Bool.true_or]
    · refine eneg h ?_
      rw [Bool.eq_false_iff.2 h, Bool.false_or]
      exact ih (i + 1) (by omega)
theorem specHC_e (cs : List S85) (a b c : Int) (hn : cs.length ≤ 1048576) : Ev (fun k => spec_l14HasClaim.f k cs a b c) (cs.any (sameK a b c)) := specHC_l cs a b c hn cs.length 0 (by omega)
theorem implIC_l (cs : List S85) (a b c : Int) (hn : cs.length ≤ 1048576) : ∀ (d i : Nat), i + d = cs.length → ∃ r, Ev (fun k => impl_Claim_209.l0 k cs (cs.length : Int) (i : Int) a b c) r ∧ (r ≥ 0 ↔ (cs.drop i).any (sameK a b c) = true) := by
  intro d
  induction d with
  | zero =>
    intro i hi
    refine ⟨-1, eround (fun k => by rw [impl_Claim_209.l0]) (eneg (by omega) (enow rfl)), ?_⟩
    rw [List.drop_eq_nil_of_le (by omega)]
    simp
  | succ d ih =>
    intro i hi
    have hlt : i < cs.length := by omega
    have hs : (a == cs[i].f0 && (b == cs[i].f1 && c == cs[i].f2)) = sameK a b c cs[i] := by
      unfold sameK
      rw [Bool.beq_comm, @Bool.beq_comm _ _ _ b, @Bool.beq_comm _ _ _ c]
    obtain ⟨r, h1, h2⟩ := ih (i + 1) (by omega)
    rw [List.drop_eq_getElem_cons hlt, List.any_cons]
    by_cases h : sameK a b c cs[i] = true
    · refine ⟨(i : Int), eround (fun k => by rw [impl_Claim_209.l0]) (epos (by omega) (epos (by omega) (epos (by omega) ?_))), ?_⟩
      · rw [show rd_T85 cs (i : Int) = cs[i] from getD_get cs i _ hlt, hs]
        exact epos h (enow rfl)
      · rw [h]
        simp
    · refine ⟨r, eround (fun k => by rw [impl_Claim_209.l0]) (epos (by omega) (epos (by omega) (epos (by omega) ?_))), ?_⟩
      · rw [show rd_T85 cs (i : Int) = cs[i] from getD_get cs i _ hlt, hs, w64 (by omega) (by omega)]
        exact eneg h h1
      · rw [Bool.eq_false_iff.2 h, Bool.false_or]
        exact h2
theorem implHC_e (cs : List S85) (a b c : Int) (hn : cs.length ≤ 1048576) : Ev (fun k => impl_Claim_160.f k cs a b c) (cs.any (sameK a b c)) := by
  obtain ⟨r, h1, h2⟩ := implIC_l cs a b c hn cs.length 0 (by omega)
  unfold impl_Claim_160.f
  refine ebind (f := fun _ t => some (decide (t ≥ 0))) h1 (enow ?_)
  rw [List.drop_zero] at h2
  rw [Bool.eq_iff_iff, decide_eq_true_eq]
  exact h2
/-- Does the claim at place i count for hand h? -/
def counts (done bad : List S85) (h : Int) (i : Nat) (c : S85) : Bool := decide (c.f0 = h) && !(done.take i).any (sameK c.f0 c.f1 c.f2) && !bad.any (sameK c.f0 c.f1 c.f2)
def cntF (done bad : List S85) (h : Int) : Nat → Nat → Int → Int
  | 0, _, g => g
  | d + 1, i, g => match done[i]? with
    | some c => cntF done bad h d (i + 1) (if counts done bad h i c then g + 1 else g)
    | none => g
theorem cntF_in (done bad : List S85) (h : Int) : ∀ d i g, g ≤ cntF done bad h d i g ∧ cntF done bad h d i g ≤ g + d
  | 0, i, g => by simp [cntF]
  | d + 1, i, g => by
    unfold cntF
    split
    · next c _ =>
      have h1 := cntF_in done bad h d (i + 1) (g + 1)
      have h2 := cntF_in done bad h d (i + 1) g
      cases counts done bad h i c with
      | true => simp only [if_true]; omega
      | false => simp only [Bool.false_eq_true, if_false]; omega
    · omega
def tlF (f : Int) (done : List S85) (xs : List S91) : Nat → Nat → List S110
  | 0, _ => []
  | d + 1, h => ⟨(h : Int), cntF done (debF f xs (h : Int)) (h : Int) done.length 0 0, ((debF f xs (h : Int)).length : Int)⟩ :: tlF f done xs d (h + 1)
theorem tlF_len (f : Int) (done : List S85) (xs : List S91) : ∀ d h, (tlF f done xs d h).length = d
  | 0, _ => rfl
  | d + 1, h => by rw [tlF, List.length_cons, tlF_len f done xs d (h + 1)]
theorem specCnt_l (hands f : Int) (done : List S85) (xs : List S91) (out : List S110) (h : Int) (bad : List S85) (hn : done.length ≤ 1048576) (hb : bad.length ≤ 1048576) (ho : out.length ≤ 1048576) {r : List S110 × Bool} : ∀ (d i : Nat) (g : Int), i + d = done.length → 0 ≤ g → g ≤ i →
    Ev (fun k => spec_TallyOf.l1 k hands f done xs (out ++ [(⟨h, cntF done bad h d i g, (bad.length : Int)⟩ : S110)]) (wrap64 (h + 1))) r → Ev (fun k => spec_TallyOf.l2 k hands f done xs out h bad done (done.length : Int) (i : Int) h g (bad.length : Int)) r := by
  intro d
  induction d with
  | zero =>
    intro i g hi h0 h1 hr
    refine eround (fun k => by rw [spec_TallyOf.l2]) (eneg (by omega) (epos (by omega) ?_))
    exact hr
  | succ d ih =>
    intro i g hi h0 h1 hr
    have hlt : i < done.length := by omega
    refine eround (fun k => by rw [spec_TallyOf.l2]) (epos (by omega) (epos (by omega) (epos (by omega) ?_)))
    rw [show rd_T85 done (i : Int) = done[i] from getD_get done i _ hlt, w64 (x := (i : Int) + 1) (by omega) (by omega)]
    have hc : cntF done bad h (d + 1) i g = cntF done bad h d (i + 1) (if counts done bad h i done[i] then g + 1 else g) := by
      rw [cntF, List.getElem?_eq_getElem hlt]
    rw [hc] at hr
    have hno : counts done bad h i done[i] = false → Ev (fun k => spec_TallyOf.l2 k hands f done xs out h bad done (done.length : Int) ((i : Int) + 1) h g (bad.length : Int)) r := by
      intro e
      rw [e] at hr
      exact ih (i + 1) g (by omega) h0 (by omega) hr
    by_cases c0 : done[i].f0 = h
    · refine epos c0 (epos (by omega) (ebind (specHC_e _ _ _ _ (by rw [List.length_take]; omega)) ?_))
      rw [Int.toNat_natCast]
      cases c1 : (done.take i).any (sameK done[i].f0 done[i].f1 done[i].f2) with
      | true => exact epos rfl (hno (by unfold counts; rw [c1]; simp))
      | false =>
        refine eneg (by decide) (ebind (specHC_e bad _ _ _ hb) ?_)
        cases c2 : bad.any (sameK done[i].f0 done[i].f1 done[i].f2) with
        | true => exact epos rfl (hno (by unfold counts; rw [c2]; simp))
        | false =>
          refine eneg (by decide) ?_
          rw [w64 (x := g + 1) (by omega) (by omega)]
          rw [show counts done bad h i done[i] = true by unfold counts; rw [c1, c2, decide_eq_true c0]; rfl] at hr
          exact ih (i + 1) (g + 1) (by omega) (by omega) (by omega) hr
    · exact eneg c0 (hno (by unfold counts; rw [decide_eq_false c0]; rfl))
theorem implCnt_l (f : Int) (done : List S85) (xs : List S91) (out : List S110) (h m : Int) (bad : List S85) (hn : done.length ≤ 1048576) (hb : bad.length ≤ 1048576) (ho : out.length ≤ 1048576) {r : List S110 × Bool} : ∀ (d i : Nat) (g : Int), i + d = done.length → 0 ≤ g → g ≤ i →
    Ev (fun k => impl_TallyOf.l0 k f done xs (out ++ [(⟨h, cntF done bad h d i g, (bad.length : Int)⟩ : S110)]) m (wrap64 (h + 1))) r → Ev (fun k => impl_TallyOf.l1 k f done xs out h bad g m h done (done.length : Int) (i : Int)) r := by
  intro d
  induction d with
  | zero =>
    intro i g hi h0 h1 hr
    refine eround (fun k => by rw [impl_TallyOf.l1]) (eneg (by omega) (epos (by omega) ?_))
    exact hr
  | succ d ih =>
    intro i g hi h0 h1 hr
    have hlt : i < done.length := by omega
    refine eround (fun k => by rw [impl_TallyOf.l1]) (epos (by omega) (epos (by omega) (epos (by omega) ?_)))
    rw [show rd_T85 done (i : Int) = done[i] from getD_get done i _ hlt, w64 (x := (i : Int) + 1) (by omega) (by omega)]
    have hc : cntF done bad h (d + 1) i g = cntF done bad h d (i + 1) (if counts done bad h i done[i] then g + 1 else g) := by
      rw [cntF, List.getElem?_eq_getElem hlt]
    rw [hc] at hr
    have hno : counts done bad h i done[i] = false → Ev (fun k => impl_TallyOf.l1 k f done xs out h bad g m h done (done.length : Int) ((i : Int) + 1)) r := by
      intro e
      rw [e] at hr
      exact ih (i + 1) g (by omega) h0 (by omega) hr
    by_cases c0 : done[i].f0 = h
    · refine epos c0 (epos (by omega) (ebind (implHC_e _ _ _ _ (by rw [List.length_take]; omega)) ?_))
      rw [Int.toNat_natCast]
      cases c1 : (done.take i).any (sameK done[i].f0 done[i].f1 done[i].f2) with
      | true => exact epos rfl (hno (by unfold counts; rw [c1]; simp))
      | false =>
        refine eneg (by decide) (ebind (implHC_e bad _ _ _ hb) ?_)
        cases c2 : bad.any (sameK done[i].f0 done[i].f1 done[i].f2) with
        | true => exact epos rfl (hno (by unfold counts; rw [c2]; simp))
        | false =>
          refine eneg (by decide) ?_
          rw [w64 (x := g + 1) (by omega) (by omega)]
          rw [show counts done bad h i done[i] = true by unfold counts; rw [c1, c2, decide_eq_true c0]; rfl] at hr
          exact ih (i + 1) (g + 1) (by omega) (by omega) (by omega) hr
    · exact eneg c0 (hno (by unfold counts; rw [decide_eq_false c0]; rfl))
theorem specTl_l (f : Int) (done : List S85) (xs : List S91) (hn : done.length ≤ 1048576) (hx : xs.length ≤ 1048576) (hands : Nat) (hh : hands ≤ 12) : ∀ (d h : Nat) (out : List S110), h + d = hands → out.length = h → Ev (fun k => spec_TallyOf.l1 k (hands : Int) f done xs out (h : Int)) (out ++ tlF f done xs d h, true) := by
  intro d
  induction d with
  | zero =>
    intro h out hi ho
    refine eround (fun k => by rw [spec_TallyOf.l1]) (eneg (by omega) (enow ?_))
    simp [tlF]
  | succ d ih =>
    intro h out hi ho
    refine eround (fun k => by rw [spec_TallyOf.l1]) (epos (by omega) (ebind (specDeb_e f xs (h : Int) hx) ?_))
    have hb : (debF f xs (h : Int)).length ≤ 1048576 := Nat.le_trans (debF_len f xs _) hx
    refine specCnt_l (hands : Int) f done xs out (h : Int) (debF f xs (h : Int)) hn hb (by omega) done.length 0 0 (by omega) (by omega) (by omega) ?_
    rw [w64 (by omega) (by omega)]
    have := ih (h + 1) (out ++ [⟨(h : Int), cntF done (debF f xs (h : Int)) (h : Int) done.length 0 0, ((debF f xs (h : Int)).length : Int)⟩]) (by omega) (by simp [ho])
    rw [List.append_assoc, List.singleton_append] at this
    rw [tlF]
    exact this
theorem implTl_l (f : Int) (done : List S85) (xs : List S91) (hn : done.length ≤ 1048576) (hx : xs.length ≤ 1048576) (hands : Nat) (hh : hands ≤ 12) : ∀ (d h : Nat) (out : List S110), h + d = hands → out.length = h → Ev (fun k => impl_TallyOf.l0 k f done xs out (hands : Int) (h : Int)) (out ++ tlF f done xs d h, true) := by
  intro d
  induction d with
  | zero =>
    intro h out hi ho
    refine eround (fun k => by rw [impl_TallyOf.l0]) (eneg (by omega) (enow ?_))
    simp [tlF]
  | succ d ih =>
    intro h out hi ho
    refine eround (fun k => by rw [impl_TallyOf.l0]) (epos (by omega) (ebind (implDeb_e f xs (h : Int) hx) ?_))
    have hb : (debF f xs (h : Int)).length ≤ 1048576 := Nat.le_trans (debF_len f xs _) hx
    refine implCnt_l f done xs out (h : Int) (hands : Int) (debF f xs (h : Int)) hn hb (by omega) done.length 0 0 (by omega) (by omega) (by omega) ?_
    rw [w64 (by omega) (by omega)]
    have := ih (h + 1) (out ++ [⟨(h : Int), cntF done (debF f xs (h : Int)) (h : Int) done.length 0 0, ((debF f xs (h : Int)).length : Int)⟩]) (by omega) (by simp [ho])
    rw [List.append_assoc, List.singleton_append] at this
    rw [tlF]
    exact this
def goodCl (c : S85) : Bool := goodC c.f0 c.f1 c.f2
theorem badCl_eq (x : S85) : impl_TallyOf_1.f x.f0 x.f1 x.f2 = some (!goodCl x) := by
  unfold impl_TallyOf_1.f
  rw [implGC_eq]
  rfl
theorem ixCl_l (xs : List S85) (hn : xs.length ≤ 1048576) : ∀ (d i : Nat), i + d = xs.length → ∃ r : Int, Ev (fun k => slices_IndexFunc_208_at_159.l0 k xs (xs.length : Int) (i : Int)) r ∧ -1 ≤ r ∧ r < (xs.length : Int) ∧ (r ≥ 0 ↔ (xs.drop i).any (fun x => !goodCl x) = true) := by
  intro d
  induction d with
  | zero =>
    intro i hi
    refine ⟨-1, eround (fun k => by rw [slices_IndexFunc_208_at_159.l0]) (eneg (by omega) (enow rfl)), by omega, by omega, ?_⟩
    rw [List.drop_eq_nil_of_le (by omega)]; simp
  | succ d ih =>
    intro i hi
    have hlt : i < xs.length := by omega
    obtain ⟨r, h1, h2, h2', h3⟩ := ih (i + 1) (by omega)
    rw [List.drop_eq_getElem_cons hlt, List.any_cons]
    cases h : (fun x : S85 => !goodCl x) xs[i] with
    | true =>
      refine ⟨(i : Int), eround (fun k => by rw [slices_IndexFunc_208_at_159.l0]) (epos (by omega) (epos (by omega) (epos (by omega) ?_))), by omega, by omega, ⟨fun _ => by rw [show (!goodCl xs[i]) = true from h]; rfl, fun _ => by omega⟩⟩
      rw [show rd_T85 xs (i : Int) = xs[i] from getD_get xs i _ hlt]
      exact enb (badCl_eq _) (epos h (enow rfl))
    | false =>
      refine ⟨r, eround (fun k => by rw [slices_IndexFunc_208_at_159.l0]) (epos (by omega) (epos (by omega) (epos (by omega) ?_))), h2, h2', by rw [show (!goodCl xs[i]) = false from h, Bool.false_or]; exact h3⟩
      rw [show rd_T85 xs (i : Int) = xs[i] from getD_get xs i _ hlt]
      refine enb (badCl_eq _) (eneg (by rw [show (!goodCl xs[i]) = false from h]; decide) ?_)
      rw [w64 (by omega) (by omega)]
      exact h1
theorem ixCl_e (xs : List S85) (hn : xs.length ≤ 1048576) : ∃ r : Int, Ev (fun k => slices_IndexFunc_208_at_159.f k xs) r ∧ -1 ≤ r ∧ r < (xs.length : Int) ∧ (r ≥ 0 ↔ xs.any (fun x => !goodCl x) = true) := ixCl_l xs hn xs.length 0 (by omega)
def tlR (hands f : Int) (done : List S85) (xs : List S91) : List S110 × Bool := if inR 1 12 hands && (inR 0 2 f && (decide ((done.length : Int) ≤ 60) && (goodSts xs && done.all goodCl))) then (tlF f done xs hands.toNat 0, true) else ([], false)
theorem inR_12 {h : Int} (e : inR 1 12 h = true) : ∃ n : Nat, h = n ∧ n ≤ 12 := by
  unfold inR at e
  rw [Bool.and_eq_true, decide_eq_true_eq, decide_eq_true_eq] at e
  exact ⟨h.toNat, by omega, by omega⟩
theorem tlR_len (hands f : Int) (done : List S85) (xs : List S91) : (tlR hands f done xs).1.length ≤ 12 := by
  unfold tlR
  split
  · next e =>
    obtain ⟨n, rfl, hn⟩ := inR_12 (Bool.and_eq_true .. ▸ e : _ ∧ _).1
    rw [tlF_len]
    omega
  · simp
theorem specTO_g (hands f : Int) (done : List S85) (xs : List S91) (hn : done.length ≤ 1048576) {r : List S110 × Bool} : ∀ (d i : Nat), i + d = done.length → Ev (fun k => if (done.drop i).all goodCl = true then spec_TallyOf.l1 k hands f done xs [] 0 else some ([], false)) r → Ev (fun k => spec_TallyOf.l0 k hands f done xs done (done.length : Int) (i : Int)) r := by
  intro d
  induction d with
  | zero =>
    intro i hi hr
    rw [List.drop_eq_nil_of_le (by omega)] at hr
    refine eround (fun k => by rw [spec_TallyOf.l0]) (eneg (by omega) ?_)
    simpa using hr
  | succ d ih =>
    intro i hi hr
    have hlt : i < done.length := by omega
    refine eround (fun k => by rw [spec_TallyOf.l0]) (epos (by omega) (epos (by omega) (epos (by omega) ?_)))
    rw [show rd_T85 done (i : Int) = done[i] from getD_get done i _ hlt, w64 (by omega) (by omega)]
    rw [List.drop_eq_getElem_cons hlt, List.all_cons] at hr
    refine enb (specGC_eq _ _ _) ?_
    cases h : goodC done[i].f0 done[i].f1 done[i].f2 with
    | true =>
      refine epos rfl (ih (i + 1) (by omega) ?_)
      rw [show goodCl done[i] = true from h, Bool.true_and] at hr
      exact hr
    | false =>
      refine eneg (by decide) ?_
      rw [show goodCl done[i] = false from h, Bool.false_and] at hr
      simpa using hr
theorem specTO_e (hands f : Int) (done : List S85) (xs : List S91) (hn : done.length ≤ 1048576) (hx : xs.length ≤ 1048576) : Ev (fun k => spec_TallyOf.f k hands f done xs) (tlR hands f done xs) := by
  have hj : Ev (fun k => spec_TallyOf.j0 k hands f done xs true) (([], false) : List S110 × Bool) := eround (fun k => by rw [spec_TallyOf.j0]) (epos rfl (enow rfl))
  unfold spec_TallyOf.f tlR
  refine enb (l1In_eq _ _ _) ?_
  cases h0 : inR 1 12 hands with
  | false => exact eneg (by decide) (by simpa using hj)
  | true =>
    refine epos rfl (enb (l1In_eq _ _ _) ?_)
    cases h1 : inR 0 2 f with
    | false => exact eneg (by decide) (by simpa using hj)
    | true =>
      refine epos rfl ?_
      by_cases h2 : (done.length : Int) ≤ 60
      · refine eneg (by omega) (ebind (specG12_e xs hx) ?_)
        rw [decide_eq_true h2]
        cases h3 : goodSts xs with
        | false => simpa using hj
        | true =>
          refine eround (fun k => by rw [spec_TallyOf.j0]) (eneg (by decide) ?_)
          refine specTO_g hands f done xs hn done.length 0 (by omega) ?_
          rw [List.drop_zero]
          cases h4 : done.all goodCl with
          | false => exact eneg (by decide) (enow (by simp))
          | true =>
            refine epos rfl ?_
            obtain ⟨n, rfl, hn12⟩ := inR_12 h0
            have := specTl_l f done xs hn hx n hn12 n 0 [] (by omega) rfl
            simpa using this
      · refine epos (by omega) ?_
        rw [decide_eq_false h2]
        simpa using hj
theorem implTO_e (hands f : Int) (done : List S85) (xs : List S91) (hn : done.length ≤ 1048576) (hx : xs.length ≤ 1048576) : Ev (fun k => impl_TallyOf.f k hands f done xs) (tlR hands f done xs) := by
  have hj : Ev (fun k => impl_TallyOf.j0 k hands f done xs true) (([], false) : List S110 × Bool) := eround (fun k => by rw [impl_TallyOf.j0]) (epos rfl (enow rfl))
  unfold impl_TallyOf.f tlR
  refine enb (within_eq _ _ _) ?_
  cases h0 : inR 1 12 hands with
  | false => exact eneg (by decide) (by simpa using hj)
  | true =>
    refine epos rfl (enb (a := inR 0 2 f) (by unfold impl_areFaults.f; rw [within_eq]; rfl) ?_)
    cases h1 : inR 0 2 f with
    | false => exact eneg (by decide) (by simpa using hj)
    | true =>
      refine epos rfl ?_
      by_cases h2 : (done.length : Int) ≤ 60
      · refine eneg (by omega) ?_
        rw [decide_eq_true h2]
        obtain ⟨q, q1, _, _, q3⟩ := ixCl_e done hn
        refine ebind (f := fun k t => if t = true then impl_TallyOf.j0 k hands f done xs true else (impl_areStatements.f k xs).bind fun t322 => impl_TallyOf.j0 k hands f done xs (!t322)) (a := decide (q ≥ 0)) (ebind (f := fun _ t => some (decide (t ≥ 0))) q1 (enow rfl)) ?_
        by_cases hq : q ≥ 0
        · refine epos (decide_eq_true hq) ?_
          have h4 : done.all goodCl = false := by
            rw [List.all_eq_false]
            obtain ⟨x, hx1, hx2⟩ := List.any_eq_true.1 (q3.1 hq)
            exact ⟨x, hx1, by simpa using hx2⟩
          rw [h4]
          simpa using hj
        · refine eneg (by simpa using hq) (ebind (implG12_e xs hx) ?_)
          have h4 : done.all goodCl = true := by
            rw [List.all_eq_true]
            intro x hx1
            refine Decidable.byContradiction fun hx2 => hq (q3.2 (List.any_eq_true.2 ⟨x, hx1, by simpa using hx2⟩))
          rw [h4]
          cases h3 : goodSts xs with
          | false => simpa using hj
          | true =>
            refine eround (fun k => by rw [impl_TallyOf.j0]) (eneg (by decide) ?_)
            obtain ⟨n, rfl, hn12⟩ := inR_12 h0
            have := implTl_l f done xs hn hx n hn12 n 0 [] (by omega) rfl
            simpa using this
      · refine epos (by omega) ?_
        rw [decide_eq_false h2]
        simpa using hj
theorem FnExactTallyOf : laws_FnExactTallyOf.Pure := by
  intro hands f l2 l hw1 hw2 g h
  apply Ev.rounds
  unfold laws_FnExactTallyOf.f
  obtain ⟨r, _, r2, r3⟩ := laws_szClaimS_z l2 1048576 (by omega) (by omega) (by have := g.1; unfold maxLen at this; omega)
  refine enb r2 ?_
  by_cases hr : r < 0
  · exact epos hr (enow rfl)
  refine eneg hr ?_
  have hl2 := r3 (by omega)
  obtain ⟨s, _, s2, s3⟩ := laws_szStatementS_z l r (by omega) (by omega) (by have := h.1; unfold maxLen at this; omega)
  refine enb s2 ?_
  by_cases hs : s < 0
  · exact epos hs (enow rfl)
  refine eneg hs ?_
  have hl := s3 (by omega)
  have e1 := laws_toStatementS_e l (by omega)
  have e0 := laws_toClaimS_e l2 (by omega)
  generalize hx : (l.map fun x => (⟨x.f0, (⟨x.f1.f0, x.f1.f1, x.f1.f2⟩ : S85), x.f2⟩ : S91)) = xs at e1
  generalize hy : (l2.map fun x => (⟨x.f0, x.f1, x.f2⟩ : S85)) = ys at e0
  have hxl : xs.length ≤ 1048576 := by rw [← hx, List.length_map]; omega
  have hyl : ys.length ≤ 1048576 := by rw [← hy, List.length_map]; omega
  have e3 := specTO_e hands f ys xs hyl hxl
  have e4 := implTO_e hands f ys xs hyl hxl
  have hR : (tlR hands f ys xs).1.length ≤ 1048576 := Nat.le_trans (tlR_len hands f ys xs) (by omega)
  have e5 := laws_eqTallyS_r _ hR
  have e6 := laws_eqStatementS_r xs hxl
  have e7 := laws_eqClaimS_r ys hyl
  obtain ⟨_, q00⟩ := laws_markClaimS_m ys 1 hyl (by omega) (by omega)
  obtain ⟨_, q1⟩ := laws_markStatementS_m xs (1 + 3 * (ys.length : Int)) hxl (by omega) (by omega)
  obtain ⟨_, _, q3, q4⟩ := laws_markTallyS_m (tlR hands f ys xs).1 1 hR (by omega) (by omega)
  repeat' first
    | exact enow rfl
    | (with_reducible refine ebind e0 ?_)
    | (with_reducible refine ebind e1 ?_)
    | (with_reducible refine ebind e3 ?_)
    | (with_reducible refine ebind e4 ?_)
    | (with_reducible refine ebind e5 ?_)
    | (with_reducible refine ebind e6 ?_)
    | (with_reducible refine ebind e7 ?_)
    | (with_reducible refine ebind q00 ?_)
    | (with_reducible refine ebind q1 ?_)
    | (with_reducible refine ebind q3 ?_)
    | (with_reducible refine ebind q4 ?_)
    | (with_reducible refine enb (laws_toClaim_e _ _ _) ?_)
    | (with_reducible refine enb (laws_toStatement_e _ _ _ _ _) ?_)
    | (with_reducible refine eround (fun k => laws_FnExactTallyOf.j0.eq_2 _ _ _ _ _ _ _ _ _ _ _ _) ?_)
    | (with_reducible refine eround (fun k => laws_FnExactTallyOf.j1.eq_2 _ _ _ _ _ _ _ _ _) ?_)
    | (with_reducible refine eround (fun k => laws_FnExactTallyOf.j2.eq_2 _ _ _ _) ?_)
    | (with_reducible refine enb rfl ?_)
    | (with_reducible refine epos rfl ?_)
    | (refine eneg ?_ ?_; focus (first | omega | (dsimp only; omega) | (simp; done) | (simp; omega)))

end Go.Proofs.Ytkgogglnipdcfaa.Pure
