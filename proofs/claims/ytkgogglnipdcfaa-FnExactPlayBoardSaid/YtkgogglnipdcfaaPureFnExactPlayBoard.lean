/- The law FnExactPlayBoard, told over numbers, lists and steps: the program's PlayBoard and the reference's answer alike, nothing is written into an argument, and the rows of the answer lie apart. No condition. -/
import Derived.Test.YtkgogglnipdcfaaQFnExactPlayBoardx12
import Derived.Test.YtkgogglnipdcfaaPk
namespace Go.Proofs.Ytkgogglnipdcfaa.Pure
open Go.RowKit Go.Proofs.Ytkgogglnipdcfaa.QFnExactPlayBoard Go.Proofs.YtkgogglnipdcfaaW.PrintWords Go.Proofs.YtkgogglnipdcfaaW.PrintLast Go.Proofs.YtkgogglnipdcfaaW.PrintMore Go.Proofs.Ytkgogglnipdcfaa
set_option linter.unusedVariables false
set_option linter.unusedSimpArgs false

open Pk
/-! laws_szBoardStepS -/
theorem laws_szBoardStepS_z (xs : List S168) (m : Int) (h0 : 0 ≤ m) (h1 : m ≤ 1048576) (hw : xs.length ≤ 9223372036854775807) : ∃ r, r ≤ m ∧ laws_szBoardStepS.f xs m = some r ∧ (0 ≤ r → xs.length ≤ 1048576) := by
  unfold laws_szBoardStepS.f
  rw [w64 (by omega) (by omega)]
  by_cases h : m - (xs.length : Int) < 0
  · exact ⟨-1, by omega, if_pos h, fun h => by omega⟩
  · exact ⟨_, by omega, if_neg h, fun _ => by omega⟩
/-! laws_toIntS -/
theorem laws_toIntS_l (xs : List Int) (hs : xs.length ≤ 1048576) : ∀ (d i : Nat) (acc : List Int), i + d = xs.length → acc.length = xs.length → acc.take i = xs.take i → Ev (fun k => laws_toIntS.l0 k xs acc (i : Int)) xs := by
  have hn := hs
  intro d
  induction d with
  | zero =>
    intro i acc hi hl ht
    refine eround (fun k => by rw [laws_toIntS.l0]) (eneg (by omega) (enow ?_))
    rwa [List.take_of_length_le (by omega), List.take_of_length_le (by first | omega | (simp; omega))] at ht
  | succ d ih =>
    intro i acc hi hl ht
    have hlt : i < xs.length := by omega
    refine eround (fun k => by rw [laws_toIntS.l0]) (epos (by omega) (epos (by omega) ?_))
    refine epos (by omega) ?_
    rw [w64 (by omega) (by omega)]
    refine ih (i + 1) _ (by omega) (by simpa using hl) ?_
    exact take_set_succ _ _ rfl (by first | exact hlt | (simp; omega)) (by first | exact hl | simpa using hl) ht (by first | exact (getD_get xs i _ hlt).symm | (simp only [List.getElem_map]; rw [← getD_get xs i _ hlt]; rfl))
theorem laws_toIntS_e (xs : List Int) (hs : xs.length ≤ 1048576) : Ev (fun k => laws_toIntS.f k xs) xs := by
  have hn := hs
  unfold laws_toIntS.f
  exact epos (by omega) (epos (by omega) (laws_toIntS_l xs hs xs.length 0 _ (by omega) (by simp) (by simp)))
/-! laws_toBoardStep -/
theorem laws_toBoardStep_e (a0_0 : Int) (a0_1 : Int) (a0_2 : Int) : laws_toBoardStep.f a0_0 a0_1 a0_2 = some (a0_0, a0_1, a0_2) := rfl
/-! laws_toBoardStepS -/
theorem laws_toBoardStepS_l (xs : List S168) (hs : xs.length ≤ 1048576) : ∀ (d i : Nat) (acc : List S158), i + d = xs.length → acc.length = xs.length → acc.take i = (xs.map fun x => (⟨x.f0, x.f1, x.f2⟩ : S158)).take i → Ev (fun k => laws_toBoardStepS.l0 k xs acc (i : Int)) (xs.map fun x => (⟨x.f0, x.f1, x.f2⟩ : S158)) := by
  have hn := hs
  intro d
  induction d with
  | zero =>
    intro i acc hi hl ht
    refine eround (fun k => by rw [laws_toBoardStepS.l0]) (eneg (by omega) (enow ?_))
    rwa [List.take_of_length_le (by omega), List.take_of_length_le (by first | omega | (simp; omega))] at ht
  | succ d ih =>
    intro i acc hi hl ht
    have hlt : i < xs.length := by omega
    refine eround (fun k => by rw [laws_toBoardStepS.l0]) (epos (by omega) (epos (by omega) ?_))
    refine enb rfl (epos (by omega) ?_)
    rw [w64 (by omega) (by omega)]
    refine ih (i + 1) _ (by omega) (by simpa using hl) ?_
    exact take_set_succ _ _ rfl (by first | exact hlt | (simp; omega)) (by first | exact hl | simpa using hl) ht (by first | exact (getD_get xs i _ hlt).symm | (simp only [List.getElem_map]; rw [← getD_get xs i _ hlt]; rfl))
theorem laws_toBoardStepS_e (xs : List S168) (hs : xs.length ≤ 1048576) : Ev (fun k => laws_toBoardStepS.f k xs) (xs.map fun x => (⟨x.f0, x.f1, x.f2⟩ : S158)) := by
  have hn := hs
  unfold laws_toBoardStepS.f
  exact epos (by omega) (epos (by omega) (laws_toBoardStepS_l xs hs xs.length 0 _ (by omega) (by simp) (by simp)))
/-! laws_eqIntS -/
theorem laws_eqIntS_lr (xs : List Int) (hs : xs.length ≤ 1048576) : ∀ (d i : Nat), i + d = xs.length → Ev (fun k => laws_eqIntS.l0 k xs xs (i : Int)) true := by
  have hn := hs
  intro d
  induction d with
  | zero =>
    intro i hi
    exact eround (fun k => by rw [laws_eqIntS.l0]) (eneg (by omega) (enow rfl))
  | succ d ih =>
    intro i hi
    have hlt : i < xs.length := by omega
    refine eround (fun k => by rw [laws_eqIntS.l0]) (epos (by omega) (epos (by omega) (epos (by omega) ?_)))
    first | refine epos rfl ?_ | (refine eneg ?_ ?_; focus (simp; done))
    rw [w64 (by omega) (by omega)]
    exact ih (i + 1) (by omega)
theorem laws_eqIntS_r (xs : List Int) (hs : xs.length ≤ 1048576) : Ev (fun k => laws_eqIntS.f k xs xs) true := by
  unfold laws_eqIntS.f
  exact epos rfl (laws_eqIntS_lr xs hs xs.length 0 (by omega))
/-! laws_eqIntSS -/
theorem laws_eqIntSS_lr (xs : List (List Int)) (hs : (xs.length ≤ 1048576 ∧ ∀ y ∈ xs, y.length ≤ 1048576)) : ∀ (d i : Nat), i + d = xs.length → Ev (fun k => laws_eqIntSS.l0 k xs xs (i : Int)) true := by
  have hn := hs.1
  intro d
  induction d with
  | zero =>
    intro i hi
    exact eround (fun k => by rw [laws_eqIntSS.l0]) (eneg (by omega) (enow rfl))
  | succ d ih =>
    intro i hi
    have hlt : i < xs.length := by omega
    refine eround (fun k => by rw [laws_eqIntSS.l0]) (epos (by omega) (epos (by omega) (epos (by omega) ?_)))
    refine ebind (laws_eqIntS_r (xs.getD ((i : Int)).toNat []) (by rw [getD_get xs i _ hlt]; exact hs.2 _ (List.getElem_mem hlt))) (epos rfl ?_)
    rw [w64 (by omega) (by omega)]
    exact ih (i + 1) (by omega)
theorem laws_eqIntSS_r (xs : List (List Int)) (hs : (xs.length ≤ 1048576 ∧ ∀ y ∈ xs, y.length ≤ 1048576)) : Ev (fun k => laws_eqIntSS.f k xs xs) true := by
  unfold laws_eqIntSS.f
  exact epos rfl (laws_eqIntSS_lr xs hs xs.length 0 (by omega))
/-! laws_eqBoard -/
theorem laws_eqBoard_r (a0_0 : Int) (a0_1 : Int) (l0_2 : List (List Int)) (l0_3 : List Int) (l0_4 : List Int) (hl0_2 : (l0_2.length ≤ 1048576 ∧ ∀ y ∈ l0_2, y.length ≤ 1048576)) (hl0_3 : l0_3.length ≤ 1048576) (hl0_4 : l0_4.length ≤ 1048576) : Ev (fun k => laws_eqBoard.f k a0_0 a0_1 l0_2 l0_3 l0_4 a0_0 a0_1 l0_2 l0_3 l0_4) true := by
  unfold laws_eqBoard.f
  repeat' first
    | exact enow rfl
    | refine epos rfl ?_
    | (refine eneg ?_ ?_; focus (simp; done))
    | refine ebind (laws_eqIntS_r _ (by assumption)) ?_
    | refine ebind (laws_eqIntSS_r _ (by assumption)) ?_
/-! laws_eqBoolS -/
theorem laws_eqBoolS_lr (xs : List Bool) (hs : xs.length ≤ 1048576) : ∀ (d i : Nat), i + d = xs.length → Ev (fun k => laws_eqBoolS.l0 k xs xs (i : Int)) true := by
  have hn := hs
  intro d
  induction d with
  | zero =>
    intro i hi
    exact eround (fun k => by rw [laws_eqBoolS.l0]) (eneg (by omega) (enow rfl))
  | succ d ih =>
    intro i hi
    have hlt : i < xs.length := by omega
    refine eround (fun k => by rw [laws_eqBoolS.l0]) (epos (by omega) (epos (by omega) (epos (by omega) ?_)))
    first | refine epos rfl ?_ | (refine eneg ?_ ?_; focus (simp; done))
    rw [w64 (by omega) (by omega)]
    exact ih (i + 1) (by omega)
theorem laws_eqBoolS_r (xs : List Bool) (hs : xs.length ≤ 1048576) : Ev (fun k => laws_eqBoolS.f k xs xs) true := by
  unfold laws_eqBoolS.f
  exact epos rfl (laws_eqBoolS_lr xs hs xs.length 0 (by omega))
/-! laws_eqBoardStep -/
theorem laws_eqBoardStep_r (a0_0 : Int) (a0_1 : Int) (a0_2 : Int) : laws_eqBoardStep.f a0_0 a0_1 a0_2 a0_0 a0_1 a0_2 = some true := by
  unfold laws_eqBoardStep.f
  simp
/-! laws_eqBoardStepS -/
theorem laws_eqBoardStepS_lr (xs : List S158) (hs : xs.length ≤ 1048576) : ∀ (d i : Nat), i + d = xs.length → Ev (fun k => laws_eqBoardStepS.l0 k xs xs (i : Int)) true := by
  have hn := hs
  intro d
  induction d with
  | zero =>
    intro i hi
    exact eround (fun k => by rw [laws_eqBoardStepS.l0]) (eneg (by omega) (enow rfl))
  | succ d ih =>
    intro i hi
    have hlt : i < xs.length := by omega
    refine eround (fun k => by rw [laws_eqBoardStepS.l0]) (epos (by omega) (epos (by omega) (epos (by omega) ?_)))
    refine enb (laws_eqBoardStep_r _ _ _) (epos rfl ?_)
    rw [w64 (by omega) (by omega)]
    exact ih (i + 1) (by omega)
theorem laws_eqBoardStepS_r (xs : List S158) (hs : xs.length ≤ 1048576) : Ev (fun k => laws_eqBoardStepS.f k xs xs) true := by
  unfold laws_eqBoardStepS.f
  exact epos rfl (laws_eqBoardStepS_lr xs hs xs.length 0 (by omega))
/-! laws_markIntS -/
theorem laws_markIntS_h : ∀ (d i : Nat) (xs : List Int) (m : Int), i + d = xs.length → xs.length ≤ 1048576 → 0 ≤ m → m ≤ 4611686018427387904 - 1 * d → ∃ ys : List Int, ys.length = xs.length ∧ ys.take i = xs.take i ∧
    Ev (fun k => laws_markIntS.l0 k xs m (i : Int)) (m + 1 * d, ys) ∧ Ev (fun k => laws_heldIntS.l0 k ys m (i : Int)) (m + 1 * d) := by
  intro d
  induction d with
  | zero =>
    intro i xs m hi hn h0 h1
    exact ⟨xs, rfl, rfl, eround (fun k => by rw [laws_markIntS.l0]) (eneg (by omega) (enow (by simp))), eround (fun k => by rw [laws_heldIntS.l0]) (eneg (by omega) (enow (by simp)))⟩
  | succ d ih =>
    intro i xs m hi hn h0 h1
    have hlt : i < xs.length := by omega
    have w1 : wrap64 ((i : Int) + 1) = ((i + 1 : Nat) : Int) := by rw [w64 (by omega) (by omega)]; rfl
    have v0 : wrap64 (m + 1) = m + 1 := w64 (by omega) (by omega)
    obtain ⟨ys, hl, ht, hm, hh⟩ := ih (i + 1) (xs.set ((i : Int)).toNat m) (m + 1) (by simp; omega) (by simpa using hn) (by omega) (by push_cast at h1; omega)
    have hlt' : i < ys.length := by rw [hl]; simpa using hlt
    have hy : ys[i] = m := by
      have := congrArg (fun l => l[i]?) ht
      simp only [List.getElem?_take_of_lt (Nat.lt_succ_self i), List.getElem?_eq_getElem hlt'] at this
      rw [show ((i : Int)).toNat = i by simp, List.getElem?_set_self (by simpa using hlt)] at this
      exact Option.some.inj this
    refine ⟨ys, by rw [hl]; simp, ?_, ?_, ?_⟩
    · have := congrArg (List.take i) ht
      rw [List.take_take, List.take_take, Nat.min_eq_left (by omega)] at this
      rw [this]
      simp [List.take_set_of_le]
    · refine eround (fun k => by rw [laws_markIntS.l0]) (epos (by omega) ?_)
      try simp only [w1, v0]
      refine epos (by omega) ?_
      refine enb rfl ?_
      try simp only [w1, v0]
      skip
      rw [show m + 1 * ((d + 1 : Nat) : Int) = m + 1 + 1 * (d : Int) by push_cast; omega]
      simpa using hm
    · refine eround (fun k => by rw [laws_heldIntS.l0]) (epos (by omega) (epos (by omega) ?_))
      have hr : ∀ z, ys.getD ((i : Int)).toNat z = ys[i] := fun z => getD_get ys i z hlt'
      try simp only [w1, v0]
      simp only [rd, rdOf, hr, hy]
      repeat (first | refine epos trivial ?_ | refine epos rfl ?_ | (refine eneg ?_ ?_; focus (simp; done)))
      rw [show m + 1 * ((d + 1 : Nat) : Int) = m + 1 + 1 * (d : Int) by push_cast; omega]
      exact hh
theorem laws_markIntS_m (xs : List Int) (m : Int) (hn : xs.length ≤ 1048576) (h0 : 0 ≤ m) (h1 : m ≤ 4611686018427387904 - 1 * xs.length) : ∃ ys : List Int, ys.length = xs.length ∧ Ev (fun k => laws_markIntS.f k xs m) (m + 1 * xs.length, ys) ∧ Ev (fun k => laws_heldIntS.f k ys m) (m + 1 * xs.length) := by
  obtain ⟨ys, hl, _, h⟩ := laws_markIntS_h xs.length 0 xs m (by omega) hn h0 h1
  exact ⟨ys, hl, h⟩
/-! laws_markBoardStepS -/
theorem laws_markBoardStepS_o : ∀ (d i : Nat) (xs : List S158) (m : Int), i + d = xs.length → xs.length ≤ 1048576 → 0 ≤ m → m ≤ 4611686018427387904 - 3 * d → ∃ ys : List S158, Ev (fun k => laws_markBoardStepS.l0 k xs m (i : Int)) (m + 3 * d, ys) := by
  intro d
  induction d with
  | zero =>
    intro i xs m hi hn h0 h1
    exact ⟨xs, eround (fun k => by rw [laws_markBoardStepS.l0]) (eneg (by omega) (enow (by simp)))⟩
  | succ d ih =>
    intro i xs m hi hn h0 h1
    have w1 : wrap64 ((i : Int) + 1) = ((i + 1 : Nat) : Int) := by rw [w64 (by omega) (by omega)]; rfl
    have v0 : wrap64 (m + 1) = m + 1 := w64 (by omega) (by omega)
    have v1 : wrap64 (m + 1 + 1) = m + 2 := by rw [w64 (by omega) (by omega)]; omega
    have v2 : wrap64 (m + 2 + 1) = m + 3 := by rw [w64 (by omega) (by omega)]; omega
    have hr : ∃ zs : List S158, zs.length = xs.length ∧ ∀ r, Ev (fun k => laws_markBoardStepS.l0 k zs (m + 3) ((i + 1 : Nat) : Int)) r → Ev (fun k => laws_markBoardStepS.l0 k xs m (i : Int)) r := by
      apply Exists.intro
      apply And.intro
      rotate_left
      · intro r hz
        refine eround (fun k => by rw [laws_markBoardStepS.l0]) (epos (by omega) ?_)
        try simp only [w1, v0, v1, v2]
        refine epos (by omega) ?_
        refine enb rfl ?_
        refine enb rfl ?_
        refine enb rfl ?_
        try simp only [w1, v0, v1, v2]
        exact hz
      · simp
    obtain ⟨zs, hz, hr⟩ := hr
    obtain ⟨ys, hy⟩ := ih (i + 1) zs (m + 3) (by omega) (by omega) (by omega) (by push_cast at h1; omega)
    refine ⟨ys, hr _ ?_⟩
    rw [show m + 3 * ((d + 1 : Nat) : Int) = m + 3 + 3 * (d : Int) by push_cast; omega]
    exact hy
theorem laws_markBoardStepS_m (xs : List S158) (m : Int) (hn : xs.length ≤ 1048576) (h0 : 0 ≤ m) (h1 : m ≤ 4611686018427387904 - 3 * xs.length) : ∃ ys : List S158, Ev (fun k => laws_markBoardStepS.f k xs m) (m + 3 * xs.length, ys) :=
  laws_markBoardStepS_o xs.length 0 xs m (by omega) hn h0 h1
/-! laws_markIntSS -/
theorem laws_markIntSS_h : ∀ (d i : Nat) (xs : List (List Int)) (m : Int), i + d = xs.length → xs.length ≤ 1048576 → (∀ (j : Nat) (h : j < xs.length), i ≤ j → xs[j].length ≤ 1048576) → 0 ≤ m → m ≤ 4611686018427387904 - 1048576 * d → ∃ (ys : List (List Int)) (t : Int), m ≤ t ∧ t ≤ m + 1048576 * d ∧ ys.length = xs.length ∧ ys.take i = xs.take i ∧ Ev (fun k => laws_markIntSS.l0 k xs m (i : Int)) (t, ys) ∧ Ev (fun k => laws_heldIntSS.l0 k ys m (i : Int)) t := by
  intro d
  induction d with
  | zero =>
    intro i xs m hi hn hs h0 h1
    exact ⟨xs, m, Int.le_refl _, by omega, rfl, rfl, eround (fun k => by rw [laws_markIntSS.l0]) (eneg (by omega) (enow rfl)), eround (fun k => by rw [laws_heldIntSS.l0]) (eneg (by omega) (enow rfl))⟩
  | succ d ih =>
    intro i xs m hi hn hs h0 h1
    have hlt : i < xs.length := by omega
    have w1 : wrap64 ((i : Int) + 1) = ((i + 1 : Nat) : Int) := by rw [w64 (by omega) (by omega)]; rfl
    have hb := hs i hlt (Nat.le_refl _)
    obtain ⟨zs, hz, m1, m2⟩ := laws_markIntS_m xs[i] m hb h0 (by push_cast at h1; omega)
    generalize he : m + 1 * (xs[i].length : Int) = m' at m1 m2
    obtain ⟨ys, t, t0, t1, hl, ht, hm, hh⟩ := ih (i + 1) (xs.set i zs) m' (by simp; omega) (by simpa using hn) (fun j h hj => by rw [List.getElem_set_ne (by omega)]; exact hs j (by simpa using h) (by omega)) (by omega) (by push_cast at h1; omega)
    have hmk : Ev (fun k => laws_markIntSS.l0 k xs m (i : Int)) (t, ys) := by
      refine eround (fun k => by rw [laws_markIntSS.l0]) (epos (by omega) (epos (by omega) ?_))
      rw [show laws_markIntSS.rd xs (i : Int) = xs[i] from getD_get xs i _ hlt]
      refine ebind m1 ?_
      rw [w1]
      exact hm
    have hlt' : i < ys.length := by rw [hl]; simpa using hlt
    have hy : ys[i] = zs := by
      have := congrArg (fun l => l[i]?) ht
      simp only [List.getElem?_take_of_lt (Nat.lt_succ_self i), List.getElem?_eq_getElem hlt'] at this
      rw [List.getElem?_set_self (by simpa using hlt)] at this
      exact Option.some.inj this
    refine ⟨ys, t, by omega, by push_cast; omega, by rw [hl]; simp, ?_, hmk, ?_⟩
    · have := congrArg (List.take i) ht
      rw [List.take_take, List.take_take, Nat.min_eq_left (by omega)] at this
      rw [this]
      simp [List.take_set_of_le]
    · refine eround (fun k => by rw [laws_heldIntSS.l0]) (epos (by omega) (epos (by omega) ?_))
      rw [show rd_L1 ys (i : Int) = ys[i] from getD_get ys i _ hlt', hy]
      refine ebind m2 (eneg (by omega) ?_)
      rw [w1]
      exact hh
theorem laws_markIntSS_m (xs : List (List Int)) (m : Int) (hs : xs.length ≤ 1048576 ∧ ∀ y ∈ xs, y.length ≤ 1048576) (h0 : 0 ≤ m) (h1 : m ≤ 4611686018427387904 - 1048576 * xs.length) : ∃ (ys : List (List Int)) (t : Int), m ≤ t ∧ t ≤ m + 1048576 * xs.length ∧ Ev (fun k => laws_markIntSS.f k xs m) (t, ys) ∧ Ev (fun k => laws_heldIntSS.f k ys m) t := by
  obtain ⟨ys, t, t0, t1, hl, h⟩ := laws_markIntSS_h xs.length 0 xs m (by omega) hs.1 (fun j h _ => hs.2 _ (List.getElem_mem h)) h0 h1
  exact ⟨ys, t, t0, t1, h.2⟩
/-! laws_markBoard -/
theorem laws_markBoard_m (a0_0 : Int) (a0_1 : Int) (l0_2 : List (List Int)) (l0_3 : List Int) (l0_4 : List Int) (m : Int) (hl0_2 : (l0_2.length ≤ 1048576 ∧ ∀ y ∈ l0_2, y.length ≤ 1048576)) (hl0_3 : l0_3.length ≤ 1048576) (hl0_4 : l0_4.length ≤ 1048576) (h0 : 0 ≤ m) (h1 : m ≤ 2305843009213693952) : ∃ (yl0_2 : List (List Int)) (yl0_3 : List Int) (yl0_4 : List Int) (t : Int), m ≤ t ∧ t ≤ m + 1099513724928 ∧ Ev (fun k => laws_markBoard.f k a0_0 a0_1 l0_2 l0_3 l0_4 m) (t, yl0_2, yl0_3, yl0_4) ∧ Ev (fun k => laws_heldBoard.f k a0_0 a0_1 yl0_2 yl0_3 yl0_4 m) t := by
  have ll0_2 := hl0_2.1
  obtain ⟨yl0_2, t0, a0, b0, e0, g0⟩ := laws_markIntSS_m l0_2 m hl0_2 (by omega) (by omega)
  obtain ⟨yl0_3, _, e1, g1⟩ := laws_markIntS_m l0_3 t0 hl0_3 (by omega) (by omega)
  generalize z1 : t0 + 1 * (l0_3.length : Int) = t1 at e1 g1
  obtain ⟨yl0_4, _, e2, g2⟩ := laws_markIntS_m l0_4 t1 hl0_4 (by omega) (by omega)
  generalize z2 : t1 + 1 * (l0_4.length : Int) = t2 at e2 g2
  refine ⟨yl0_2, yl0_3, yl0_4, t2, by omega, by omega, ?_, ?_⟩
  · unfold laws_markBoard.f
    exact ebind e0 (ebind e1 (ebind e2 (enow rfl)))
  · unfold laws_heldBoard.f
    repeat' first
    | exact enow rfl
    | (with_reducible refine ebind g0 ?_)
    | (with_reducible refine ebind g1 ?_)
    | (with_reducible refine ebind g2 ?_)
    | (refine eneg ?_ ?_; focus omega)
/-! laws_markBoolS -/
theorem laws_markBoolS_h : ∀ (d i : Nat) (xs : List Bool) (m : Int), i + d = xs.length → xs.length ≤ 1048576 → 0 ≤ m → m ≤ 4611686018427387904 - 1 * d → ∃ ys : List Bool, ys.length = xs.length ∧ ys.take i = xs.take i ∧
    Ev (fun k => laws_markBoolS.l0 k xs m (i : Int)) (m + 1 * d, ys) ∧ Ev (fun k => laws_heldBoolS.l0 k ys m (i : Int)) (m + 1 * d) := by
  intro d
  induction d with
  | zero =>
    intro i xs m hi hn h0 h1
    exact ⟨xs, rfl, rfl, eround (fun k => by rw [laws_markBoolS.l0]) (eneg (by omega) (enow (by simp))), eround (fun k => by rw [laws_heldBoolS.l0]) (eneg (by omega) (enow (by simp)))⟩
  | succ d ih =>
    intro i xs m hi hn h0 h1
    have hlt : i < xs.length := by omega
    have w1 : wrap64 ((i : Int) + 1) = ((i + 1 : Nat) : Int) := by rw [w64 (by omega) (by omega)]; rfl
    have v0 : wrap64 (m + 1) = m + 1 := w64 (by omega) (by omega)
    obtain ⟨ys, hl, ht, hm, hh⟩ := ih (i + 1) (xs.set ((i : Int)).toNat (Int.tmod m 3 == 0)) (m + 1) (by simp; omega) (by simpa using hn) (by omega) (by push_cast at h1; omega)
    have hlt' : i < ys.length := by rw [hl]; simpa using hlt
    have hy : ys[i] = (Int.tmod m 3 == 0) := by
      have := congrArg (fun l => l[i]?) ht
      simp only [List.getElem?_take_of_lt (Nat.lt_succ_self i), List.getElem?_eq_getElem hlt'] at this
      rw [show ((i : Int)).toNat = i by simp, List.getElem?_set_self (by simpa using hlt)] at this
      exact Option.some.inj this
    refine ⟨ys, by rw [hl]; simp, ?_, ?_, ?_⟩
    · have := congrArg (List.take i) ht
      rw [List.take_take, List.take_take, Nat.min_eq_left (by omega)] at this
      rw [this]
      simp [List.take_set_of_le]
    · refine eround (fun k => by rw [laws_markBoolS.l0]) (epos (by omega) ?_)
      try simp only [w1, v0]
      refine epos (by omega) ?_
      refine enb rfl ?_
      try simp only [w1, v0]
      skip
      rw [show m + 1 * ((d + 1 : Nat) : Int) = m + 1 + 1 * (d : Int) by push_cast; omega]
      simpa using hm
    · refine eround (fun k => by rw [laws_heldBoolS.l0]) (epos (by omega) (epos (by omega) ?_))
      have hr : ∀ z, ys.getD ((i : Int)).toNat z = ys[i] := fun z => getD_get ys i z hlt'
      try simp only [w1, v0]
      simp only [rd, rdOf, hr, hy]
      repeat (first | refine epos trivial ?_ | refine epos rfl ?_ | (refine eneg ?_ ?_; focus (simp; done)))
      rw [show m + 1 * ((d + 1 : Nat) : Int) = m + 1 + 1 * (d : Int) by push_cast; omega]
      exact hh
theorem laws_markBoolS_m (xs : List Bool) (m : Int) (hn : xs.length ≤ 1048576) (h0 : 0 ≤ m) (h1 : m ≤ 4611686018427387904 - 1 * xs.length) : ∃ ys : List Bool, ys.length = xs.length ∧ Ev (fun k => laws_markBoolS.f k xs m) (m + 1 * xs.length, ys) ∧ Ev (fun k => laws_heldBoolS.f k ys m) (m + 1 * xs.length) := by
  obtain ⟨ys, hl, _, h⟩ := laws_markBoolS_h xs.length 0 xs m (by omega) hn h0 h1
  exact ⟨ys, hl, h⟩
def inR (lo hi x : Int) : Bool := decide (x ≥ lo) && decide (x ≤ hi)
theorem inR_iff {lo hi x : Int} : inR lo hi x = true ↔ lo ≤ x ∧ x ≤ hi := by simp [inR]
theorem l1In_eq (a lo hi : Int) : spec_l1In.f a lo hi = some (inR lo hi a) := by
  unfold spec_l1In.f inR
  by_cases h : a ≥ lo <;> simp [h]
theorem within_eq (a lo hi : Int) : impl_within.f a lo hi = some (inR lo hi a) := by
  unfold impl_within.f inR
  by_cases h : a ≥ lo <;> simp [h]
theorem allWithin_l (xs : List Int) (lo up : Int) (hn : xs.length ≤ 9223372036854775807) : ∀ (d i : Nat), i + d = xs.length → Ev (fun k => impl_allWithin.l0 k lo up xs (xs.length : Int) (i : Int)) ((xs.drop i).all (inR lo up)) := by
  intro d
  induction d with
  | zero =>
    intro i hi
    refine eround (fun k => by rw [impl_allWithin.l0]) ?_
    refine eneg (by omega) (enow ?_)
    rw [List.drop_eq_nil_of_le (by omega)]; rfl
  | succ d ih =>
    intro i hi
    have hlt : i < xs.length := by omega
    refine eround (fun k => by rw [impl_allWithin.l0]) ?_
    refine epos (by omega) (epos (by omega) (epos (by omega) ?_))
    rw [rd_get xs i hlt, List.drop_eq_getElem_cons hlt, List.all_cons]
    refine enb (within_eq _ _ _) ?_
    cases h : inR lo up xs[i] with
    | true =>
      refine epos rfl ?_
      rw [w64 (by omega) (by omega)]
      simpa using ih (i + 1) (by omega)
    | false => exact eneg (by simp) (enow (by simp))
theorem allWithin_e (xs : List Int) (lo up : Int) (hn : xs.length ≤ 9223372036854775807) : Ev (fun k => impl_allWithin.f k xs lo up) (xs.all (inR lo up)) :=
  allWithin_l xs lo up hn xs.length 0 (by omega)
def chainLt : List Int → Bool
  | a :: b :: r => decide (a < b) && chainLt (b :: r)
  | _ => true
theorem chainLt_drop (xs : List Int) (i : Nat) (h : i + 1 < xs.length) : chainLt (xs.drop i) = (decide (xs[i] < xs[i + 1]) && chainLt (xs.drop (i + 1))) := by
  rw [List.drop_eq_getElem_cons (show i < xs.length by omega), List.drop_eq_getElem_cons h]; rfl
theorem chainLt_end (xs : List Int) (i : Nat) (h : xs.length ≤ i + 1) : chainLt (xs.drop i) = true := by
  have : (xs.drop i).length ≤ 1 := by simp; omega
  match hx : xs.drop i, this with
  | [], _ => rfl
  | [_], _ => rfl
  | _ :: _ :: _, h => simp at h
def risB (lo up : Int) (xs : List Int) : Bool := xs.all (inR lo up) && chainLt xs
theorem implRis_l (xs : List Int) (lo up : Int) (hn : xs.length ≤ 9223372036854775807) : ∀ (d i : Nat), i + 1 + d = xs.length → Ev (fun k => impl_isRising.l0 k xs lo up ((i + 1 : Nat) : Int)) (xs.all (inR lo up) && chainLt (xs.drop i)) := by
  intro d
  induction d with
  | zero =>
    intro i hi
    refine eround (fun k => by rw [impl_isRising.l0]) (eneg (by omega) (ebind (allWithin_e xs lo up hn) (enow ?_)))
    rw [chainLt_end xs _ (by omega)]; simp
  | succ d ih =>
    intro i hi
    have e1 : wrap64 (((i + 1 : Nat) : Int) - 1) = (i : Int) := by rw [w64 (by omega) (by omega)]; omega
    have e2 : wrap64 (((i + 1 : Nat) : Int) + 1) = ((i + 1 + 1 : Nat) : Int) := by rw [w64 (by omega) (by omega)]; omega
    refine eround (fun k => by rw [impl_isRising.l0]) (epos (by omega) ?_)
    rw [e1, e2, rd_get xs i (by omega), rd_get xs (i + 1) (by omega), chainLt_drop xs i (by omega)]
    refine epos (by omega) (epos (by omega) (epos (by omega) ?_))
    by_cases h1 : xs[i] ≥ xs[i + 1]
    · exact epos h1 (enow (by simp; omega))
    · refine eneg h1 ?_
      simpa [show xs[i] < xs[i + 1] by omega] using ih (i + 1) (by omega)
theorem implRis_e (xs : List Int) (lo up : Int) (hn : xs.length ≤ 9223372036854775807) : Ev (fun k => impl_isRising.f k xs lo up) (risB lo up xs) := by
  unfold impl_isRising.f risB
  by_cases h : xs.length = 0
  · obtain rfl := List.eq_nil_of_length_eq_zero h
    refine eround (fun k => by rw [impl_isRising.l0]) (eneg (by simp) (ebind (allWithin_e [] lo up (by simp)) (enow (by simp [chainLt]))))
  · simpa using implRis_l xs lo up hn (xs.length - 1) 0 (by omega)
theorem specRis_l (xs : List Int) (lo up : Int) (hn : xs.length ≤ 9223372036854775807) : ∀ (d i : Nat), i + d = xs.length → Ev (fun k => spec_l1Rising.l0 k xs lo up xs (xs.length : Int) (i : Int)) ((xs.drop i).all (inR lo up) && chainLt (xs.drop (i - 1))) := by
  intro d
  induction d with
  | zero =>
    intro i hi
    refine eround (fun k => by rw [spec_l1Rising.l0]) (eneg (by omega) (enow ?_))
    rw [List.drop_eq_nil_of_le (by omega), chainLt_end xs _ (by omega)]; rfl
  | succ d ih =>
    intro i hi
    have hlt : i < xs.length := by omega
    refine eround (fun k => by rw [spec_l1Rising.l0]) (epos (by omega) (epos (by omega) (epos (by omega) ?_)))
    rw [rd_get xs i hlt, List.drop_eq_getElem_cons hlt, w64 (by omega) (by omega), w64 (by omega) (by omega), List.all_cons]
    refine enb (l1In_eq _ _ _) ?_
    cases e : inR lo up xs[i] with
    | false => exact eneg (by decide) (enow (by simp))
    | true =>
      refine epos rfl ?_
      have hI := ih (i + 1) (by omega)
      by_cases h0 : i = 0
      · subst h0
        refine eneg (by simp) ?_
        simpa [List.drop_one] using hI
      · obtain ⟨j, rfl⟩ : ∃ j, i = j + 1 := ⟨i - 1, by omega⟩
        refine epos (by omega) (epos (by omega) (epos (by omega) ?_))
        rw [show ((j + 1 : Nat) : Int) - 1 = (j : Int) by omega, rd_get xs j (by omega), show j + 1 - 1 = j by omega, chainLt_drop xs j (by omega)]
        simp only [Nat.add_sub_cancel] at hI
        by_cases h1 : xs[j] ≥ xs[j + 1]
        · exact epos h1 (enow (by simp; omega))
        · refine eneg h1 ?_
          simpa [show xs[j] < xs[j + 1] by omega] using hI
theorem specRis_e (xs : List Int) (lo up : Int) (hn : xs.length ≤ 9223372036854775807) : Ev (fun k => spec_l1Rising.f k xs lo up) (risB lo up xs) := by
  unfold spec_l1Rising.f
  simpa [risB] using specRis_l xs lo up hn xs.length 0 (by omega)
def goodNB (a : Int) (l : List Int) : Bool := inR 0 2 a && (risB 0 (3 * a) l && !decide ((l.length : Int) > a))
def newBR (a : Int) (l : List Int) : Int × Int × List (List Int) × List Int × List Int × Bool := if goodNB a l then (a, 0, [], l, [], true) else (0, 0, [], [], [], false)
theorem specGB0_e (a : Int) (l : List Int) (hn : l.length ≤ 1048576) : Ev (fun k => spec_GoodBoard.f k a 0 [] l []) (goodNB a l) := by
  unfold spec_GoodBoard.f goodNB
  have hj : ∀ m, Ev (fun k => spec_GoodBoard.j0 k m true a 0 [] l []) false := fun m => eround (fun k => by rw [spec_GoodBoard.j0]) (epos rfl (enow rfl))
  cases e : inR 0 2 a with
  | false =>
    refine enb (a := (0, 0, false)) (by unfold spec_QuorumFor.f; rw [l1In_eq, e]; rfl) (eneg (by decide) ?_)
    exact hj _
  | true =>
    have ha := inR_iff.1 e
    refine enb (a := (3 * a + 1, 2 * a + 1, true)) (by unfold spec_QuorumFor.f; rw [l1In_eq, e, w64 (x := 3 * a) (by omega) (by omega), w64 (x := 2 * a) (by omega) (by omega), w64 (x := 3 * a + 1) (by omega) (by omega), w64 (x := 2 * a + 1) (by omega) (by omega)]; rfl) (epos rfl ?_)
    dsimp only
    rw [w64 (by omega) (by omega), show 3 * a + 1 - 1 = 3 * a by omega]
    refine ebind (specRis_e l 0 (3 * a) (by omega)) ?_
    cases e2 : risB 0 (3 * a) l with
    | false => exact eneg (by decide) (hj _)
    | true =>
      refine epos rfl ?_
      by_cases h : (l.length : Int) > a
      · refine epos h ?_
        simpa [h] using hj (3 * a + 1)
      · refine eneg h (enb (l1In_eq _ _ _) (epos (by decide) (ebind (specRis_e [] 0 9 (by simp)) (epos (by decide) ?_))))
        refine eround (fun k => by rw [spec_GoodBoard.j0]) (eneg (by simp) (eround (fun k => by rw [spec_GoodBoard.l0]) (eneg (by simp) (enow ?_))))
        simp; omega
theorem implGB0_e (a : Int) (l : List Int) (hn : l.length ≤ 1048576) : Ev (fun k => impl_GoodBoard.f k a 0 [] l []) (goodNB a l) := by
  unfold impl_GoodBoard.f goodNB
  have hj : Ev (fun k => impl_GoodBoard.j0 k true a 0 [] l []) false := eround (fun k => by rw [impl_GoodBoard.j0]) (epos rfl (enow rfl))
  refine enb (a := inR 0 2 a) (by unfold impl_areFaults.f; rw [within_eq]; rfl) ?_
  cases e : inR 0 2 a with
  | false => exact eneg (by decide) hj
  | true =>
    have ha := inR_iff.1 e
    refine epos rfl (enb (within_eq _ _ _) (epos (by decide) ?_))
    by_cases h : (l.length : Int) > a
    · refine epos h ?_
      simpa [h] using hj
    · refine eneg h ?_
      rw [w64 (by omega) (by omega)]
      refine ebind (implRis_e l 0 (3 * a) (by omega)) ?_
      cases e2 : risB 0 (3 * a) l with
      | false => exact eneg (by decide) hj
      | true =>
        refine epos rfl (ebind (implRis_e [] 0 9 (by simp)) (epos (by decide) ?_))
        refine eround (fun k => by rw [impl_GoodBoard.j0]) (eneg (by simp) (eround (fun k => by rw [impl_GoodBoard.l0]) (eneg (by simp) (enow ?_))))
        simp; omega
theorem specNB_e (a : Int) (l : List Int) (hn : l.length ≤ 1048576) : Ev (fun k => spec_NewBoard.f k a l) (newBR a l) := by
  unfold spec_NewBoard.f newBR
  refine enb rfl (epos (by simp; omega) (enb rfl ?_))
  refine ebind (specGB0_e a ([] ++ l) (by simpa using hn)) ?_
  rw [List.nil_append]
  cases goodNB a l with
  | false => exact eneg (by decide) (enow rfl)
  | true => exact epos rfl (enow rfl)
theorem implNB_e (a : Int) (l : List Int) (hn : l.length ≤ 1048576) : Ev (fun k => impl_NewBoard.f k a l) (newBR a l) := by
  unfold impl_NewBoard.f newBR
  refine enb (a := l) (by unfold slices_Clone_int_int.f; simp; omega) ?_
  refine ebind (implGB0_e a l hn) ?_
  cases goodNB a l with
  | false => exact eneg (by decide) (enow rfl)
  | true => exact epos rfl (enow rfl)
theorem newBR_small (a : Int) (l : List Int) (hn : l.length ≤ 1048576) : ((newBR a l).2.2.1.length ≤ 1048576 ∧ ∀ y ∈ (newBR a l).2.2.1, y.length ≤ 1048576) ∧ (newBR a l).2.2.2.1.length ≤ 1048576 ∧ (newBR a l).2.2.2.2.1.length ≤ 1048576 := by
  unfold newBR
  split <;> simp [hn]
theorem l1Has_l (xs : List Int) (a : Int) (hn : xs.length ≤ 9223372036854775807) : ∀ (d i : Nat), i + d = xs.length → Ev (fun k => spec_l1Has.l0 k a xs (xs.length : Int) (i : Int)) (decide (a ∈ xs.drop i)) := by
  intro d
  induction d with
  | zero =>
    intro i hi
    refine eround (fun k => by rw [spec_l1Has.l0]) (eneg (by omega) (enow ?_))
    rw [List.drop_eq_nil_of_le (by omega)]; simp
  | succ d ih =>
    intro i hi
    have hlt : i < xs.length := by omega
    refine eround (fun k => by rw [spec_l1Has.l0]) (epos (by omega) (epos (by omega) (epos (by omega) ?_)))
    rw [rd_get xs i hlt, List.drop_eq_getElem_cons hlt]
    by_cases e : xs[i] = a
    · exact epos e (enow (by simp [e]))
    · refine eneg e ?_
      rw [w64 (by omega) (by omega)]
      have : decide (a ∈ xs[i] :: List.drop (i + 1) xs) = decide (a ∈ List.drop (i + 1) xs) := by
        apply decide_eq_decide.2
        rw [List.mem_cons]
        exact ⟨fun h => h.resolve_left (fun z => e z.symm), Or.inr⟩
      rw [this]
      exact ih (i + 1) (by omega)
theorem l1Has_e (xs : List Int) (a : Int) (hn : xs.length ≤ 9223372036854775807) : Ev (fun k => spec_l1Has.f k xs a) (decide (a ∈ xs)) := l1Has_l xs a hn xs.length 0 (by omega)
theorem ixI_l (xs : List Int) (a : Int) (hn : xs.length ≤ 9223372036854775807) : ∀ (d i : Nat), i + d = xs.length → ∃ r : Int, Ev (fun k => slices_Index_int_int.l0 k xs a (xs.length : Int) (i : Int)) r ∧ (r ≥ 0 ↔ a ∈ xs.drop i) := by
  intro d
  induction d with
  | zero =>
    intro i hi
    refine ⟨-1, eround (fun k => by rw [slices_Index_int_int.l0]) (eneg (by omega) (enow rfl)), ?_⟩
    rw [List.drop_eq_nil_of_le (by omega)]; simp
  | succ d ih =>
    intro i hi
    have hlt : i < xs.length := by omega
    obtain ⟨r, h1, h3⟩ := ih (i + 1) (by omega)
    rw [List.drop_eq_getElem_cons hlt, List.mem_cons]
    by_cases e : a = xs[i]
    · refine ⟨(i : Int), eround (fun k => by rw [slices_Index_int_int.l0]) (epos (by omega) (epos (by omega) (epos (by omega) ?_))), by simp [e]⟩
      rw [rd_get xs i hlt]
      exact epos e (enow rfl)
    · refine ⟨r, eround (fun k => by rw [slices_Index_int_int.l0]) (epos (by omega) (epos (by omega) (epos (by omega) ?_))), by simp only [e, false_or]; exact h3⟩
      rw [rd_get xs i hlt]
      refine eneg e ?_
      rw [w64 (by omega) (by omega)]
      exact h1
theorem coI_e (xs : List Int) (a : Int) (hn : xs.length ≤ 9223372036854775807) : Ev (fun k => slices_Contains_int_int.f k xs a) (decide (a ∈ xs)) := by
  obtain ⟨r, h1, h3⟩ := ixI_l xs a hn xs.length 0 (by omega)
  refine ebind (f := fun _ t => some (decide (t ≥ 0))) h1 (enow ?_)
  rw [List.drop_zero] at h3
  exact decide_eq_decide.2 h3
theorem cut_while {α : Type} (p : α → Bool) : ∀ (l : List α) (t : Nat), t ≤ l.length → (∀ q (h : q < l.length), q < t → p l[q] = true) → (∀ q (h : q < l.length), t ≤ q → p l[q] = false) → l.take t = l.takeWhile p ∧ l.drop t = l.dropWhile p
  | [], t, _, _, _ => by simp
  | y :: r, 0, _, _, h2 => by
    have := h2 0 (by simp) (Nat.le_refl _)
    simp at this
    simp [this]
  | y :: r, t + 1, ht, h1, h2 => by
    have h0 := h1 0 (by simp) (by omega)
    simp at h0
    obtain ⟨e1, e2⟩ := cut_while p r t (by simpa using ht) (fun q hq hl => by have h := h1 (q + 1) (by simpa using hq) (by omega); rw [List.getElem_cons_succ] at h; exact h) (fun q hq hl => by have h := h2 (q + 1) (by simpa using hq) (by omega); rw [List.getElem_cons_succ] at h; exact h)
    simp [h0, e1, e2]
theorem bsI_l (xs : List Int) (a : Int) (p : Int → Bool) (hp : ∀ y, cmp_Less_int.f y a = some (p y)) (hn : xs.length ≤ 4194304) (mono : ∀ q r (hr : r < xs.length) (hq : q ≤ r), p xs[r] = true → p xs[q] = true) : ∀ (d i j : Nat), j - i ≤ d → i ≤ j → j ≤ xs.length → (∀ q (h : q < xs.length), q < i → p xs[q] = true) → (∀ q (h : q < xs.length), j ≤ q → p xs[q] = false) →
    ∃ (t : Nat) (b : Bool), t ≤ xs.length ∧ Ev (fun k => slices_BinarySearch_int_int.l0 k xs a (xs.length : Int) (i : Int) (j : Int)) ((t : Int), b) ∧ (∀ q (h : q < xs.length), q < t → p xs[q] = true) ∧ (∀ q (h : q < xs.length), t ≤ q → p xs[q] = false) := by
  intro d
  induction d with
  | zero =>
    intro i j hd hij hj h1 h2
    have e : i = j := by omega
    subst e
    by_cases hi : i < xs.length
    · by_cases c : (fun u v : Int => u = v) (rd xs (i : Int)) a
      · exact ⟨i, true, hj, eround (fun k => by rw [slices_BinarySearch_int_int.l0]) (eneg (by omega) (epos (by omega) (epos (by omega) (epos (by omega) (epos c (enow rfl)))))), h1, h2⟩
      · refine ⟨i, false, hj, eround (fun k => by rw [slices_BinarySearch_int_int.l0]) (eneg (by omega) (epos (by omega) (epos (by omega) (epos (by omega) (eneg c (enb (a := false) (by unfold slices_isNaN_int.f; simp) (eneg Bool.false_ne_true (enow rfl)))))))), h1, h2⟩
    · exact ⟨i, false, hj, eround (fun k => by rw [slices_BinarySearch_int_int.l0]) (eneg (by omega) (eneg (by omega) (enow rfl))), h1, h2⟩
  | succ d ih =>
    intro i j hd hij hj h1 h2
    by_cases c : i < j
    · have hm : wrap64 (IntKind.u64.wrap (wrap64 ((i : Int) + (j : Int))) / 2) = (((i + j) / 2 : Nat) : Int) := by
        rw [w64 (x := (i : Int) + j) (by omega) (by omega), u64_wrap_small ((i : Int) + j) (by omega) (by omega), w64 (by omega) (by omega)]
        omega
      have hlt : (i + j) / 2 < xs.length := by omega
      have hr : rd xs (((i + j) / 2 : Nat) : Int) = xs[(i + j) / 2] := (rd_get xs _ hlt)
      cases hb : p xs[(i + j) / 2] with
      | true =>
        obtain ⟨t, b, t1, t2, t3, t4⟩ := ih ((i + j) / 2 + 1) j (by omega) (by omega) hj (fun q hq hl => mono q _ hlt (by omega) hb) h2
        refine ⟨t, b, t1, eround (fun k => by rw [slices_BinarySearch_int_int.l0]) (epos (by omega) ?_), t3, t4⟩
        rw [hm, hr]
        refine epos (by omega) (epos (by omega) (enb (hp _) ?_))
        refine epos hb ?_
        rw [w64 (by omega) (by omega)]
        exact t2
      | false =>
        obtain ⟨t, b, t1, t2, t3, t4⟩ := ih i ((i + j) / 2) (by omega) (by omega) (by omega) h1 (fun q hq hl => by
          rw [Bool.eq_false_iff]
          intro z
          rw [mono _ q hq hl z] at hb
          cases hb)
        refine ⟨t, b, t1, eround (fun k => by rw [slices_BinarySearch_int_int.l0]) (epos (by omega) ?_), t3, t4⟩
        rw [hm, hr]
        refine epos (by omega) (epos (by omega) (enb (hp _) ?_))
        exact eneg (by rw [hb]; decide) t2
    · exact by
        have e : i = j := by omega
        subst e
        by_cases hi : i < xs.length
        · by_cases c : (fun u v : Int => u = v) (rd xs (i : Int)) a
          · exact ⟨i, true, hj, eround (fun k => by rw [slices_BinarySearch_int_int.l0]) (eneg (by omega) (epos (by omega) (epos (by omega) (epos (by omega) (epos c (enow rfl)))))), h1, h2⟩
          · refine ⟨i, false, hj, eround (fun k => by rw [slices_BinarySearch_int_int.l0]) (eneg (by omega) (epos (by omega) (epos (by omega) (epos (by omega) (eneg c (enb (a := false) (by unfold slices_isNaN_int.f; simp) (eneg Bool.false_ne_true (enow rfl)))))))), h1, h2⟩
        · exact ⟨i, false, hj, eround (fun k => by rw [slices_BinarySearch_int_int.l0]) (eneg (by omega) (eneg (by omega) (enow rfl))), h1, h2⟩
theorem bsI_e (xs : List Int) (a : Int) (p : Int → Bool) (hp : ∀ y, cmp_Less_int.f y a = some (p y)) (hn : xs.length ≤ 4194304) (mono : ∀ q r (hr : r < xs.length) (hq : q ≤ r), p xs[r] = true → p xs[q] = true) :
    Ev (fun k => impl_placed_int.f k xs a) (xs.takeWhile p ++ a :: xs.dropWhile p) := by
  obtain ⟨t, b, t1, t2, t3, t4⟩ := bsI_l xs a p hp hn mono xs.length 0 xs.length (by omega) (by omega) (Nat.le_refl _) (fun q h hl => by omega) (fun q h hl => by omega)
  obtain ⟨e1, e2⟩ := cut_while p xs t t1 t3 t4
  unfold impl_placed_int.f slices_BinarySearch_int_int.f
  refine ebind t2 ?_
  refine enb (a := xs) (by unfold slices_Clone_int_int.f; simp; omega) ?_
  refine epos (by omega) (epos (by omega) (epos (by omega) (enow ?_)))
  rw [Int.toNat_natCast, e1, e2]
theorem less_I (a b : Int) : cmp_Less_int.f a b = some (decide (a < b)) := by
  unfold cmp_Less_int.f cmp_isNaN_int.f
  simp
theorem chainLt_pair : ∀ l : List Int, chainLt l = true → l.Pairwise (fun a b => a < b)
  | [], _ => List.Pairwise.nil
  | [_], _ => List.pairwise_singleton _ _
  | a :: b :: r, h => by
    simp only [chainLt, Bool.and_eq_true, decide_eq_true_eq] at h
    have ih := chainLt_pair (b :: r) h.2
    refine List.Pairwise.cons (fun c hc => ?_) ih
    rcases List.mem_cons.1 hc with rfl | hc
    · exact h.1
    · have := (List.pairwise_cons.1 ih).1 c hc
      omega
def placeI (x : Int) (l : List Int) : List Int := l.takeWhile (fun y => decide (y < x)) ++ x :: l.dropWhile (fun y => decide (y < x))
theorem placeI_len (x : Int) (l : List Int) : (placeI x l).length = l.length + 1 := by
  unfold placeI
  have := congrArg List.length (List.takeWhile_append_dropWhile (p := fun y => decide (y < x)) (l := l))
  simp only [List.length_append, List.length_cons] at this ⊢
  omega
theorem placedI_e (xs : List Int) (x : Int) (hn : xs.length ≤ 4194304) (hc : chainLt xs = true) : Ev (fun k => impl_placed_int.f k xs x) (placeI x xs) := by
  have hp := chainLt_pair xs hc
  exact bsI_e xs x (fun y => decide (y < x)) (fun y => less_I y x) hn (fun q r hr hq h => by
    rcases Nat.lt_or_eq_of_le hq with hq | rfl
    · have h2 := List.pairwise_iff_getElem.1 hp q r (by omega) hr hq
      have h3 : xs[r] < x := by simpa using h
      exact decide_eq_true (by omega)
    · exact h)
def putI (x : Int) : List Int → List Int
  | [] => [x]
  | y :: r => if y < x then y :: putI x r else if y = x then y :: r else x :: y :: r
theorem putI_new (x : Int) : ∀ l : List Int, x ∉ l → putI x l = placeI x l
  | [], _ => rfl
  | y :: r, h => by
    have ih := putI_new x r (fun z => h (by simp [z]))
    have hne : ¬ y = x := fun z => h (by simp [z])
    unfold putI
    by_cases c : y < x
    · rw [if_pos c, ih]
      simp [placeI, c]
    · rw [if_neg c, if_neg hne]
      simp [placeI, c]
theorem put_l (xs : List Int) (x : Int) (hn : xs.length ≤ 1048576) : ∀ (d i : Nat), i + d = xs.length → Ev (fun k => spec_l1Put.l0 k xs x (i : Int)) (xs.take i ++ putI x (xs.drop i)) := by
  intro d
  induction d with
  | zero =>
    intro i hi
    have e1 : xs.take i = xs := List.take_of_length_le (by omega)
    have e2 : xs.drop i = [] := List.drop_eq_nil_of_le (by omega)
    refine eround (fun k => by rw [spec_l1Put.l0]) ?_
    refine eneg (by omega) (enb rfl (epos (by omega) (epos (by omega) (enb rfl ?_))))
    rw [Int.toNat_natCast, e1, e2]
    refine epos (by simp; omega) (enb rfl (epos (by simp; omega) (enb rfl (enb rfl (epos (by simp; omega) (enow ?_))))))
    simp [putI]
  | succ d ih =>
    intro i hi
    have hlt : i < xs.length := by omega
    refine eround (fun k => by rw [spec_l1Put.l0]) ?_
    refine epos (by omega) (epos (by omega) ?_)
    rw [rd_get xs i hlt]
    have e3 : xs.drop i = xs[i] :: xs.drop (i + 1) := List.drop_eq_getElem_cons hlt
    by_cases c : xs[i] < x
    · refine epos c ?_
      rw [w64 (by omega) (by omega), e3, putI, if_pos c, show (i : Int) + 1 = ((i + 1 : Nat) : Int) by omega]
      have := ih (i + 1) (by omega)
      rw [List.take_succ_eq_append_getElem hlt, List.append_assoc] at this
      exact this
    · refine eneg c ?_
      by_cases c2 : xs[i] = x
      · refine epos c2 (enow ?_)
        rw [e3, putI, if_neg c, if_pos c2, ← e3, List.take_append_drop]
      · refine eneg c2 (enb rfl (epos (by omega) (enb rfl ?_)))
        rw [Int.toNat_natCast]
        refine epos (by simp; omega) (enb rfl (epos (by simp; omega) (enb rfl (enb rfl (epos (by simp; omega) (enow ?_))))))
        rw [e3, putI, if_neg c, if_neg c2, ← e3]
        simp
theorem put_e (xs : List Int) (x : Int) (hn : xs.length ≤ 1048576) : Ev (fun k => spec_l1Put.f k xs x) (putI x xs) := by
  have := put_l xs x hn xs.length 0 (by omega)
  rw [List.take_zero, List.nil_append, List.drop_zero] at this
  exact this
/-! the board as triples -/
abbrev Tri := Int × Int × Int
def tri (t : Tri) : List Int := [t.1, t.2.1, t.2.2]
def has3 (T : List Tri) (e b c : Int) : Bool := T.any fun t => decide (t.1 = e) && (decide (t.2.1 = b) && decide (t.2.2 = c))
def has2 (T : List Tri) (e b : Int) : Bool := T.any fun t => decide (t.1 = e) && decide (t.2.1 = b)
theorem rdT (T : List Tri) (i : Nat) (h : i < T.length) : rd_L1 (T.map tri) (i : Int) = tri T[i] := by
  have := getD_get (T.map tri) i ([] : List Int) (by simpa using h)
  rw [List.getElem_map] at this
  exact this
theorem tri0 (t : Tri) : rd (tri t) 0 = t.1 := rfl
theorem tri1 (t : Tri) : rd (tri t) 1 = t.2.1 := rfl
theorem tri2 (t : Tri) : rd (tri t) 2 = t.2.2 := rfl
theorem hs1_e (t : Tri) (e b c : Int) : impl_Board_hasSigned_1.f (tri t) e b c = some (decide (t.1 = e) && (decide (t.2.1 = b) && decide (t.2.2 = c))) := by
  unfold impl_Board_hasSigned_1.f
  rw [if_pos (by simp [tri]), tri0, tri1, tri2]
  by_cases h1 : t.1 = e
  · rw [if_pos h1, if_pos (by simp [tri])]
    by_cases h2 : t.2.1 = b
    · rw [if_pos h2, if_pos (by simp [tri])]
      by_cases h3 : t.2.2 = c <;> simp [h1, h2, h3]
    · rw [if_neg h2]
      simp [h1, h2]
  · rw [if_neg h1]
    simp [h1]
theorem bat_e (t : Tri) (e b : Int) : bd_at.f (tri t) e b = some (decide (t.1 = e) && decide (t.2.1 = b)) := by
  unfold bd_at.f
  rw [if_pos (by simp [tri]), tri0, tri1]
  by_cases h1 : t.1 = e
  · rw [if_pos h1, if_pos (by simp [tri])]
    by_cases h2 : t.2.1 = b <;> simp [h1, h2]
  · rw [if_neg h1]
    simp [h1]
theorem hsx_l (T : List Tri) (e b c : Int) (hn : T.length ≤ 1000000) : ∀ (d i : Nat), i + d = T.length → ∃ r : Int, Ev (fun k => slices_IndexFunc_240_at_239_3_3_3.l0 k (T.map tri) (T.length : Int) (i : Int) e b c) r ∧ (decide (r ≥ 0)) = has3 (T.drop i) e b c := by
  intro d
  induction d with
  | zero =>
    intro i hi
    refine ⟨-1, eround (fun k => by rw [slices_IndexFunc_240_at_239_3_3_3.l0]) (eneg (by omega) (enow rfl)), ?_⟩
    rw [List.drop_eq_nil_of_le (by omega)]
    rfl
  | succ d ih =>
    intro i hi
    have hlt : i < T.length := by omega
    obtain ⟨r, h1, h3⟩ := ih (i + 1) (by omega)
    have hc : has3 (T.drop i) e b c = ((decide (T[i].1 = e) && (decide (T[i].2.1 = b) && decide (T[i].2.2 = c))) || has3 (T.drop (i + 1)) e b c) := by
      rw [List.drop_eq_getElem_cons hlt]
      rfl
    cases hx : (decide (T[i].1 = e) && (decide (T[i].2.1 = b) && decide (T[i].2.2 = c))) with
    | true =>
      refine ⟨(i : Int), eround (fun k => by rw [slices_IndexFunc_240_at_239_3_3_3.l0]) (epos (by omega) (epos (by omega) (epos (by simp; omega) ?_))), ?_⟩
      · rw [rdT T i hlt]
        exact enb (hs1_e _ _ _ _) (epos hx (enow rfl))
      · rw [hc, hx]
        simp
    | false =>
      refine ⟨r, eround (fun k => by rw [slices_IndexFunc_240_at_239_3_3_3.l0]) (epos (by omega) (epos (by omega) (epos (by simp; omega) ?_))), ?_⟩
      · rw [rdT T i hlt]
        refine enb (hs1_e _ _ _ _) (eneg (by simp [hx]) ?_)
        rw [w64 (by omega) (by omega)]
        exact h1
      · rw [hc, hx, Bool.false_or]
        exact h3
theorem hasSigned_e (T : List Tri) (f0 f1 : Int) (l3 l4 : List Int) (e b c : Int) (hn : T.length ≤ 1000000) : Ev (fun k => impl_Board_hasSigned.f k f0 f1 (T.map tri) l3 l4 e b c) (has3 T e b c) := by
  obtain ⟨r, h1, h2⟩ := hsx_l T e b c hn T.length 0 (by omega)
  unfold impl_Board_hasSigned.f slices_ContainsFunc_226_at_239_3_3_3.f slices_IndexFunc_240_at_239_3_3_3.f
  rw [List.length_map]
  exact ebind (ebind (f := fun _ t => some (decide (t ≥ 0))) h1 (enow h2)) (enow rfl)
theorem bix_l (T : List Tri) (e b : Int) (hn : T.length ≤ 1000000) : ∀ (d i : Nat), i + d = T.length → ∃ r : Int, Ev (fun k => bd_ix.l0 k (T.map tri) (T.length : Int) (i : Int) e b) r ∧ (decide (r ≥ 0)) = has2 (T.drop i) e b := by
  intro d
  induction d with
  | zero =>
    intro i hi
    refine ⟨-1, eround (fun k => by rw [bd_ix.l0]) (eneg (by omega) (enow rfl)), ?_⟩
    rw [List.drop_eq_nil_of_le (by omega)]
    rfl
  | succ d ih =>
    intro i hi
    have hlt : i < T.length := by omega
    obtain ⟨r, h1, h3⟩ := ih (i + 1) (by omega)
    have hc : has2 (T.drop i) e b = ((decide (T[i].1 = e) && decide (T[i].2.1 = b)) || has2 (T.drop (i + 1)) e b) := by
      rw [List.drop_eq_getElem_cons hlt]
      rfl
    cases hx : (decide (T[i].1 = e) && decide (T[i].2.1 = b)) with
    | true =>
      refine ⟨(i : Int), eround (fun k => by rw [bd_ix.l0]) (epos (by omega) (epos (by omega) (epos (by simp; omega) ?_))), ?_⟩
      · rw [rdT T i hlt]
        exact enb (bat_e _ _ _) (epos hx (enow rfl))
      · rw [hc, hx]
        simp
    | false =>
      refine ⟨r, eround (fun k => by rw [bd_ix.l0]) (epos (by omega) (epos (by omega) (epos (by simp; omega) ?_))), ?_⟩
      · rw [rdT T i hlt]
        refine enb (bat_e _ _ _) (eneg (by simp [hx]) ?_)
        rw [w64 (by omega) (by omega)]
        exact h1
      · rw [hc, hx, Bool.false_or]
        exact h3
theorem bdAny_e (T : List Tri) (e b : Int) (hn : T.length ≤ 1000000) : Ev (fun k => bd_any.f k (T.map tri) e b) (has2 T e b) := by
  obtain ⟨r, h1, h2⟩ := bix_l T e b hn T.length 0 (by omega)
  unfold bd_any.f
  rw [List.length_map]
  exact ebind (f := fun _ t => some (decide (t ≥ 0))) h1 (enow h2)
theorem l13Has_l (T : List Tri) (e b c : Int) (hn : T.length ≤ 1000000) : ∀ (d i : Nat), i + d = T.length → Ev (fun k => spec_l13Has.l0 k e b c (T.map tri) (T.length : Int) (i : Int)) (if c < 0 then has2 (T.drop i) e b else has3 (T.drop i) e b c) := by
  intro d
  induction d with
  | zero =>
    intro i hi
    refine eround (fun k => by rw [spec_l13Has.l0]) (eneg (by omega) (enow ?_))
    rw [List.drop_eq_nil_of_le (by omega)]
    simp [has2, has3]
  | succ d ih =>
    intro i hi
    have hlt : i < T.length := by omega
    have h2 : has2 (T.drop i) e b = ((decide (T[i].1 = e) && decide (T[i].2.1 = b)) || has2 (T.drop (i + 1)) e b) := by
      rw [List.drop_eq_getElem_cons hlt]
      rfl
    have h3 : has3 (T.drop i) e b c = ((decide (T[i].1 = e) && (decide (T[i].2.1 = b) && decide (T[i].2.2 = c))) || has3 (T.drop (i + 1)) e b c) := by
      rw [List.drop_eq_getElem_cons hlt]
      rfl
    have hI := ih (i + 1) (by omega)
    refine eround (fun k => by rw [spec_l13Has.l0]) (epos (by omega) (epos (by omega) (epos (by simp; omega) ?_)))
    rw [rdT T i hlt, h2, h3, w64 (by omega) (by omega), tri0, tri1, tri2]
    refine epos (by simp [tri]) ?_
    by_cases c1 : T[i].1 = e
    · refine epos c1 (epos (by simp [tri]) ?_)
      by_cases c2 : T[i].2.1 = b
      · refine epos c2 ?_
        by_cases c3 : c < 0
        · exact epos c3 (enow (by simp [c1, c2, c3]))
        · refine eneg c3 (epos (by simp [tri]) ?_)
          by_cases c4 : T[i].2.2 = c
          · exact epos c4 (enow (by simp [c1, c2, c3, c4]))
          · refine eneg c4 ?_
            simpa [c1, c2, c3, c4] using hI
      · refine eneg c2 ?_
        simpa [c1, c2] using hI
    · refine eneg c1 ?_
      simpa [c1] using hI
theorem l13Has_e (T : List Tri) (f0 f1 : Int) (l3 l4 : List Int) (e b c : Int) (hn : T.length ≤ 1000000) : Ev (fun k => spec_l13Has.f k f0 f1 (T.map tri) l3 l4 e b c) (if c < 0 then has2 T e b else has3 T e b c) := by
  unfold spec_l13Has.f
  rw [List.length_map]
  exact l13Has_l T e b c hn T.length 0 (by omega)
theorem own_l (T : List Tri) (e f : Int) (X Y : List Int) (hn : T.length ≤ 1000000) : ∀ (d i : Nat) (acc : List (List Int)), i + d = T.length → acc.length = i → Ev (fun k => spec_l13Own.l0 k X Y (T.map tri) (T.length : Int) (i : Int) e f acc) (e, f, acc ++ (T.drop i).map tri, X, Y) := by
  intro d
  induction d with
  | zero =>
    intro i acc hi ha
    refine eround (fun k => by rw [spec_l13Own.l0]) (eneg (by omega) (enow ?_))
    rw [List.drop_eq_nil_of_le (by omega)]
    simp
  | succ d ih =>
    intro i acc hi ha
    have hlt : i < T.length := by omega
    refine eround (fun k => by rw [spec_l13Own.l0]) (epos (by omega) (epos (by omega) (epos (by simp; omega) (enb rfl ?_))))
    rw [rdT T i hlt, w64 (by omega) (by omega)]
    refine epos (by simp [tri]) (epos (by omega) ?_)
    have := ih (i + 1) (acc ++ [tri T[i]]) (by omega) (by simp [ha])
    rw [List.drop_eq_getElem_cons hlt, List.map_cons]
    simpa using this
theorem own_e (T : List Tri) (f e : Int) (X Y : List Int) (hn : T.length ≤ 1000000) (hX : X.length ≤ 1048576) (hY : Y.length ≤ 1048576) : Ev (fun k => spec_l13Own.f k f e (T.map tri) X Y) (f, e, T.map tri, X, Y) := by
  unfold spec_l13Own.f
  refine enb rfl (epos (by simp; omega) (enb rfl (epos (by simp; omega) ?_)))
  rw [List.length_map]
  simpa using own_l T f e X Y hn T.length 0 [] (by omega) rfl
/-! a step -/
def stepT (f0 e : Int) (T : List Tri) (L3 L4 : List Int) (a b c : Int) : Int × List Tri × List Int × Bool :=
  if a = 1 then (if b = 0 ∧ inR 0 9 c = true ∧ c ∉ L4 then (e, T, putI c L4, true) else (e, T, L4, false))
  else if a = 2 then (if inR 0 (3 * f0) b = true ∧ c ∈ L4 ∧ T.length < 200 ∧ has3 T e b c = false ∧ (b ∈ L3 ∨ has2 T e b = false) then (e, T ++ [(e, b, c)], L4, true) else (e, T, L4, false))
  else if a = 3 ∧ b = 0 ∧ c = 0 ∧ e < 20 then (e + 1, T, [], true) else (e, T, L4, false)
theorem stepT_no (f0 e : Int) (T : List Tri) (L3 L4 : List Int) (a b c : Int) (h : (stepT f0 e T L3 L4 a b c).2.2.2 = false) : stepT f0 e T L3 L4 a b c = (e, T, L4, false) := by
  unfold stepT at h ⊢
  split
  · split <;> simp_all
  · split
    · split <;> simp_all
    · split <;> simp_all
structure InvB (f0 e : Int) (T : List Tri) (L3 L4 : List Int) : Prop where
  f : inR 0 2 f0 = true
  e0 : 0 ≤ e
  e1 : e ≤ 20
  n3 : (L3.length : Int) ≤ f0
  r3 : risB 0 (3 * f0) L3 = true
  c4 : chainLt L4 = true
  r4 : ∀ x ∈ L4, 0 ≤ x ∧ x ≤ 9
  n : T.length ≤ 200
  t : ∀ t ∈ T, (0 ≤ t.1 ∧ t.1 ≤ e) ∧ (0 ≤ t.2.1 ∧ t.2.1 ≤ 3 * f0) ∧ (0 ≤ t.2.2 ∧ t.2.2 ≤ 9)
  p : T.Pairwise fun s t => s.1 ≤ t.1 ∧ (s.1 = t.1 → s.2.1 = t.2.1 → s.2.2 ≠ t.2.2 ∧ t.2.1 ∈ L3)
theorem putI_mem (x : Int) : ∀ (l : List Int) (y : Int), y ∈ putI x l → y = x ∨ y ∈ l
  | [], y, h => by simp [putI] at h; exact Or.inl h
  | z :: r, y, h => by
    unfold putI at h
    split at h
    · rcases List.mem_cons.1 h with h | h
      · exact Or.inr (by simp [h])
      · rcases putI_mem x r y h with h | h
        · exact Or.inl h
        · exact Or.inr (by simp [h])
    · split at h
      · exact Or.inr h
      · rcases List.mem_cons.1 h with h | h
        · exact Or.inl h
        · exact Or.inr h
theorem pair_chain : ∀ l : List Int, l.Pairwise (fun a b => a < b) → chainLt l = true
  | [], _ => rfl
  | [_], _ => rfl
  | a :: b :: r, h => by
    have h1 := List.pairwise_cons.1 h
    simp only [chainLt, Bool.and_eq_true, decide_eq_true_eq]
    exact ⟨h1.1 b (by simp), pair_chain (b :: r) h1.2⟩
theorem putI_pair (x : Int) : ∀ l : List Int, l.Pairwise (fun a b => a < b) → (putI x l).Pairwise (fun a b => a < b)
  | [], _ => List.pairwise_singleton _ _
  | y :: r, h => by
    have h1 := List.pairwise_cons.1 h
    unfold putI
    split
    · refine List.Pairwise.cons (fun z hz => ?_) (putI_pair x r h1.2)
      rcases putI_mem x r z hz with rfl | hz
      · assumption
      · exact h1.1 z hz
    · split
      · exact h
      · refine List.Pairwise.cons (fun z hz => ?_) h
        rcases List.mem_cons.1 hz with rfl | hz
        · omega
        · have := h1.1 z hz
          omega
theorem putI_chain (x : Int) (l : List Int) (h : chainLt l = true) : chainLt (putI x l) = true := pair_chain _ (putI_pair x l (chainLt_pair l h))
theorem lt_len : ∀ (l : List Int) (lo : Int), l.Pairwise (fun a b => a < b) → (∀ x ∈ l, lo ≤ x ∧ x ≤ 9) → l = [] ∨ (l.length : Int) + lo ≤ 10
  | [], _, _, _ => Or.inl rfl
  | y :: r, lo, h, hr => by
    have h1 := List.pairwise_cons.1 h
    refine Or.inr ?_
    obtain ⟨y0, y1⟩ := hr y (by simp)
    rcases lt_len r (y + 1) h1.2 (fun x hx => ⟨h1.1 x hx, (hr x (by simp [hx])).2⟩) with rfl | h2
    · simp; omega
    · simp only [List.length_cons]; omega
theorem InvB.len4 {f0 e : Int} {T : List Tri} {L3 L4 : List Int} (h : InvB f0 e T L3 L4) : L4.length ≤ 10 := by
  rcases lt_len L4 0 (chainLt_pair L4 h.c4) h.r4 with rfl | h1
  · simp
  · omega
theorem InvB.len3 {f0 e : Int} {T : List Tri} {L3 L4 : List Int} (h : InvB f0 e T L3 L4) : L3.length ≤ 2 := by
  have := inR_iff.1 h.f
  have := h.n3
  omega
theorem InvB.step {f0 e : Int} {T : List Tri} {L3 L4 : List Int} (h : InvB f0 e T L3 L4) (a b c : Int) : InvB f0 (stepT f0 e T L3 L4 a b c).1 (stepT f0 e T L3 L4 a b c).2.1 L3 (stepT f0 e T L3 L4 a b c).2.2.1 := by
  unfold stepT
  split
  · split
    · rename_i hc
      have := inR_iff.1 hc.2.1
      exact ⟨h.f, h.e0, h.e1, h.n3, h.r3, putI_chain c L4 h.c4, fun x hx => (putI_mem c L4 x hx).elim (fun e_ => by subst e_; exact this) (h.r4 x), h.n, h.t, h.p⟩
    · exact h
  · split
    · split
      · rename_i hc
        obtain ⟨h1, h2, h3, h4, h5⟩ := hc
        have hb := inR_iff.1 h1
        have hc := h.r4 c h2
        have e0 := h.e0
        have e1 := h.e1
        refine ⟨h.f, h.e0, h.e1, h.n3, h.r3, h.c4, h.r4, by simp; omega, fun t ht => ?_, ?_⟩
        · rcases List.mem_append.1 ht with ht | ht
          · exact h.t t ht
          · obtain rfl := List.mem_singleton.1 ht
            exact ⟨⟨by omega, Int.le_refl _⟩, hb, hc⟩
        · refine List.pairwise_append.2 ⟨h.p, List.pairwise_singleton _ _, fun s hs t ht => ?_⟩
          obtain rfl := List.mem_singleton.1 ht
          refine ⟨(h.t s hs).1.2, fun z1 z2 => ⟨fun z3 => ?_, ?_⟩⟩
          · dsimp only at z1 z2 z3
            rw [has3, List.any_eq_false] at h4
            exact h4 s hs (by simp [z1, z2, z3])
          · rcases h5 with h5 | h5
            · exact h5
            · dsimp only at z1 z2
              rw [has2, List.any_eq_false] at h5
              exact absurd (by simp [z1, z2]) (h5 s hs)
      · exact h
    · split
      · rename_i hc
        exact ⟨h.f, by have := h.e0; omega, by omega, h.n3, h.r3, rfl, by simp, h.n, fun t ht => ⟨⟨(h.t t ht).1.1, by have := (h.t t ht).1.2; omega⟩, (h.t t ht).2⟩, h.p⟩
      · exact h
def outT (r : Int × List Tri × List Int × Bool) : Int × List (List Int) × List Int × Bool := (r.1, r.2.1.map tri, r.2.2.1, r.2.2.2)
theorem member_e (f0 b : Int) (h : inR 0 2 f0 = true) : impl_isMemberOf.f f0 b = some (inR 0 (3 * f0) b) := by
  have := inR_iff.1 h
  unfold impl_isMemberOf.f
  rw [w64 (by omega) (by omega), within_eq]
  rfl
theorem sign_e {f0 e : Int} {T : List Tri} {L3 L4 : List Int} (h : InvB f0 e T L3 L4) (b c : Int) : Ev (fun k => bd_sign.f k f0 e (T.map tri) L3 L4 b c) ((stepT f0 e T L3 L4 2 b c).2.1.map tri, (stepT f0 e T L3 L4 2 b c).2.2.2) := by
  have hn := h.n
  have h3 := h.len3
  have h4 := h.len4
  have hst : stepT f0 e T L3 L4 2 b c = if inR 0 (3 * f0) b = true ∧ c ∈ L4 ∧ T.length < 200 ∧ has3 T e b c = false ∧ (b ∈ L3 ∨ has2 T e b = false) then (e, T ++ [(e, b, c)], L4, true) else (e, T, L4, false) := by
    unfold stepT
    rw [if_neg (by decide), if_pos rfl]
  rw [hst]
  unfold bd_sign.f
  refine enb (member_e _ _ h.f) ?_
  cases e1 : inR 0 (3 * f0) b with
  | false => exact eneg (by decide) (enow (by simp))
  | true =>
    refine epos rfl (ebind (coI_e L4 c (by omega)) ?_)
    by_cases e2 : c ∈ L4
    · refine epos (by simp [e2]) (ebind (hasSigned_e T f0 e L3 L4 e b c (by omega)) ?_)
      cases e3 : has3 T e b c with
      | true => exact epos rfl (enow (by simp))
      | false =>
        refine eneg (by decide) ?_
        by_cases e4 : T.length = 200
        · exact epos (by simp [e4]) (enow (by simp [e4]))
        · refine eneg (by simp; omega) (ebind (bdAny_e T e b (by omega)) ?_)
          have e5 : T.length < 200 := by omega
          cases e6 : has2 T e b with
          | true =>
            refine epos rfl (ebind (coI_e L3 b (by omega)) ?_)
            by_cases e7 : b ∈ L3
            · exact epos (by simp [e7]) (epos (by simp; omega) (enow (by simp [e2, e5, e7, tri])))
            · exact eneg (by simp [e7]) (enow (by simp [e7]))
          | false => exact eneg (by decide) (epos (by simp; omega) (enow (by simp [e2, e5, tri])))
    · exact eneg (by simp [e2]) (enow (by simp [e2]))
theorem implStep_e {f0 e : Int} {T : List Tri} {L3 L4 : List Int} (h : InvB f0 e T L3 L4) (a b c : Int) : Ev (fun k => bd_step.f k f0 e (T.map tri) L3 L4 a b c) (outT (stepT f0 e T L3 L4 a b c)) := by
  have h4 := h.len4
  have e0 := h.e0
  have e1 := h.e1
  unfold bd_step.f
  by_cases a1 : a = 1
  · refine epos a1 ?_
    subst a1
    unfold stepT
    rw [if_pos rfl]
    by_cases b0 : b = 0
    · refine epos b0 (enb (a := inR 0 9 c) (by unfold impl_isListNumber.f; rw [within_eq]; rfl) ?_)
      cases c1 : inR 0 9 c with
      | false => exact eneg (by decide) (enow (by simp [outT]))
      | true =>
        refine epos rfl (ebind (coI_e L4 c (by omega)) ?_)
        by_cases c2 : c ∈ L4
        · exact epos (by simp [c2]) (enow (by simp [outT, c2]))
        · refine eneg (by simp [c2]) (ebind (placedI_e L4 c (by omega) h.c4) (enow ?_))
          rw [← putI_new c L4 c2]
          simp [outT, c2, b0]
    · exact eneg b0 (enow (by simp [outT, b0]))
  · refine eneg a1 ?_
    by_cases a2 : a = 2
    · refine epos a2 ?_
      subst a2
      refine ebind (sign_e h b c) (enow ?_)
      unfold outT stepT
      rw [if_neg a1, if_pos rfl]
      split <;> rfl
    · refine eneg a2 ?_
      unfold stepT
      rw [if_neg a1, if_neg a2]
      by_cases a3 : a = 3
      · refine epos a3 ?_
        by_cases b0 : b = 0
        · refine epos b0 ?_
          by_cases c0 : c = 0
          · refine epos c0 ?_
            by_cases e2 : e = 20
            · exact epos e2 (enow (by simp [outT, e2]))
            · refine eneg e2 (enow ?_)
              rw [w64 (by omega) (by omega), if_pos ⟨a3, b0, c0, by omega⟩]
              rfl
          · exact eneg c0 (enow (by simp [outT, c0]))
        · exact eneg b0 (enow (by simp [outT, b0]))
      · exact eneg a3 (enow (by simp [outT, a3]))
theorem quorum_e (f0 : Int) (h : inR 0 2 f0 = true) : spec_QuorumFor.f f0 = some (3 * f0 + 1, 2 * f0 + 1, true) := by
  have ha := inR_iff.1 h
  unfold spec_QuorumFor.f
  rw [l1In_eq, h, w64 (x := 3 * f0) (by omega) (by omega), w64 (x := 2 * f0) (by omega) (by omega), w64 (x := 3 * f0 + 1) (by omega) (by omega), w64 (x := 2 * f0 + 1) (by omega) (by omega)]
  rfl
theorem specStep_e {f0 e : Int} {T : List Tri} {L3 L4 : List Int} (h : InvB f0 e T L3 L4) (a b c : Int) : Ev (fun k => spec_l13Step.f k f0 e (T.map tri) L3 L4 a b c) (outT (stepT f0 e T L3 L4 a b c)) := by
  have h3 := h.len3
  have h4 := h.len4
  have hn := h.n
  have e0 := h.e0
  have e1 := h.e1
  have hf := inR_iff.1 h.f
  unfold spec_l13Step.f
  refine enb (quorum_e f0 h.f) ?_
  dsimp only
  by_cases a1 : a = 1
  · refine epos a1 ?_
    subst a1
    unfold stepT
    rw [if_pos rfl]
    by_cases b0 : b = 0
    · refine epos b0 (enb (a := inR 0 9 c) (by unfold spec_l13List.f; rw [l1In_eq]; rfl) ?_)
      cases c1 : inR 0 9 c with
      | false => exact eneg (by decide) (enow (by simp [outT]))
      | true =>
        refine epos rfl (ebind (l1Has_e L4 c (by omega)) ?_)
        by_cases c2 : c ∈ L4
        · exact epos (by simp [c2]) (enow (by simp [outT, c2]))
        · refine eneg (by simp [c2]) (ebind (put_e L4 c (by omega)) (enow ?_))
          simp [outT, c2, b0]
    · exact eneg b0 (enow (by simp [outT, b0]))
  · refine eneg a1 ?_
    by_cases a2 : a = 2
    · refine epos a2 ?_
      subst a2
      rw [w64 (by omega) (by omega), show 3 * f0 + 1 - 1 = 3 * f0 by omega]
      refine enb (l1In_eq _ _ _) ?_
      unfold stepT
      rw [if_neg a1, if_pos rfl]
      cases d1 : inR 0 (3 * f0) b with
      | false => exact eneg (by decide) (enow (by simp [outT]))
      | true =>
        refine epos rfl (ebind (l1Has_e L4 c (by omega)) ?_)
        by_cases d2 : c ∈ L4
        · refine epos (by simp [d2]) ?_
          have hc := h.r4 c d2
          by_cases d5 : T.length < 200
          · refine epos (by simp; omega) (ebind (l13Has_e T f0 e L3 L4 e b c (by omega)) ?_)
            rw [if_neg (show ¬ c < 0 by omega)]
            cases d3 : has3 T e b c with
            | true => exact epos rfl (enow (by simp [outT]))
            | false =>
              refine eneg (by decide) (ebind (l1Has_e L3 b (by omega)) ?_)
              by_cases d7 : b ∈ L3
              · exact epos (by simp [d7]) (enow (by simp [outT, d2, d5, d7, tri]))
              · have e9 := l13Has_e T f0 e L3 L4 e b (-1) (by omega)
                rw [if_pos (show (-1 : Int) < 0 by decide)] at e9
                refine eneg (by simp [d7]) (ebind e9 ?_)
                cases d6 : has2 T e b with
                | true => exact epos rfl (enow (by simp [outT, d7]))
                | false => exact eneg (by decide) (enow (by simp [outT, d2, d5, tri]))
          · exact eneg (by simp; omega) (enow (by simp [outT, d5]))
        · exact eneg (by simp [d2]) (enow (by simp [outT, d2]))
    · refine eneg a2 ?_
      unfold stepT
      rw [if_neg a1, if_neg a2]
      by_cases a3 : a = 3
      · refine epos a3 ?_
        by_cases b0 : b = 0
        · refine epos b0 ?_
          by_cases c0 : c = 0
          · refine epos c0 ?_
            by_cases e2 : e < 20
            · refine epos e2 (enow ?_)
              rw [w64 (by omega) (by omega), if_pos ⟨a3, b0, c0, e2⟩]
              rfl
            · exact eneg e2 (enow (by simp [outT, e2]))
          · exact eneg c0 (enow (by simp [outT, c0]))
        · exact eneg b0 (enow (by simp [outT, b0]))
      · exact eneg a3 (enow (by simp [outT, a3]))
/-! the play -/
def playT (f0 : Int) (L3 : List Int) : List S158 → Int → List Tri → List Int → List Bool → Int × List Tri × List Int × List Bool
  | [], e, T, L4, did => (e, T, L4, did)
  | s :: r, e, T, L4, did => playT f0 L3 r (stepT f0 e T L3 L4 s.f0 s.f1 s.f2).1 (stepT f0 e T L3 L4 s.f0 s.f1 s.f2).2.1 (stepT f0 e T L3 L4 s.f0 s.f1 s.f2).2.2.1 (did ++ [(stepT f0 e T L3 L4 s.f0 s.f1 s.f2).2.2.2])
theorem playT_inv (f0 : Int) (L3 : List Int) : ∀ (xs : List S158) (e : Int) (T : List Tri) (L4 : List Int) (did : List Bool), InvB f0 e T L3 L4 → InvB f0 (playT f0 L3 xs e T L4 did).1 (playT f0 L3 xs e T L4 did).2.1 L3 (playT f0 L3 xs e T L4 did).2.2.1
  | [], _, _, _, _, h => h
  | s :: r, _, _, _, _, h => playT_inv f0 L3 r _ _ _ _ (h.step s.f0 s.f1 s.f2)
theorem playT_did (f0 : Int) (L3 : List Int) : ∀ (xs : List S158) (e : Int) (T : List Tri) (L4 : List Int) (did : List Bool), (playT f0 L3 xs e T L4 did).2.2.2.length = did.length + xs.length
  | [], _, _, _, _ => rfl
  | s :: r, _, _, _, _ => by
    rw [playT, playT_did f0 L3 r]
    simp
    omega
theorem rdB (xs : List S158) (i : Nat) (h : i < xs.length) : rd_T158 xs (i : Int) = xs[i] := getD_get xs i _ h
theorem implPlay_l (f0 : Int) (L3 : List Int) (xs : List S158) (hx : xs.length ≤ 60) : ∀ (d i : Nat) (e : Int) (T : List Tri) (L4 : List Int) (did : List Bool), i + d = xs.length → did.length = i → InvB f0 e T L3 L4 → Ev (fun k => impl_PlayBoard.l0 k xs (xs.length : Int) (i : Int) did f0 e (T.map tri) L3 L4) (let z := playT f0 L3 (xs.drop i) e T L4 did; (z.1, z.2.1.map tri, z.2.2.1, z.2.2.2)) := by
  intro d
  induction d with
  | zero =>
    intro i e T L4 did hi hd hI
    refine eround (fun k => by rw [impl_PlayBoard.l0]) (eneg (by omega) (enow ?_))
    rw [List.drop_eq_nil_of_le (by omega)]
    rfl
  | succ d ih =>
    intro i e T L4 did hi hd hI
    have hlt : i < xs.length := by omega
    refine eround (fun k => by rw [impl_PlayBoard.l0]) (epos (by omega) (epos (by omega) (epos (by omega) ?_)))
    rw [rdB xs i hlt, w64 (by omega) (by omega), List.drop_eq_getElem_cons hlt]
    refine ebind (implStep_e hI _ _ _) (epos (by omega) ?_)
    exact ih (i + 1) _ _ _ _ (by omega) (by simp [hd]) (hI.step _ _ _)
theorem specPlay_l (f0 : Int) (L3 : List Int) (xs : List S158) (hx : xs.length ≤ 60) : ∀ (d i : Nat) (e : Int) (T : List Tri) (L4 : List Int) (did : List Bool), i + d = xs.length → did.length = i → InvB f0 e T L3 L4 → Ev (fun k => spec_PlayBoard.l0 k xs (xs.length : Int) (i : Int) did f0 e (T.map tri) L3 L4) (let z := playT f0 L3 (xs.drop i) e T L4 did; (f0, z.1, z.2.1.map tri, L3, z.2.2.1, z.2.2.2)) := by
  intro d
  induction d with
  | zero =>
    intro i e T L4 did hi hd hI
    refine eround (fun k => by rw [spec_PlayBoard.l0]) (eneg (by omega) (enow ?_))
    rw [List.drop_eq_nil_of_le (by omega)]
    rfl
  | succ d ih =>
    intro i e T L4 did hi hd hI
    have hlt : i < xs.length := by omega
    have := hI.n
    have := hI.len3
    have := hI.len4
    refine eround (fun k => by rw [spec_PlayBoard.l0]) (epos (by omega) (epos (by omega) (epos (by omega) ?_)))
    rw [rdB xs i hlt, w64 (by omega) (by omega), List.drop_eq_getElem_cons hlt]
    refine ebind (own_e T f0 e L3 L4 (by omega) (by omega) (by omega)) ?_
    dsimp only
    refine ebind (specStep_e hI _ _ _) (epos (by omega) ?_)
    cases hq : (stepT f0 e T L3 L4 xs[i].f0 xs[i].f1 xs[i].f2).2.2.2 with
    | true =>
      refine epos hq ?_
      have := ih (i + 1) _ _ _ (did ++ [true]) (by omega) (by simp [hd]) (hI.step xs[i].f0 xs[i].f1 xs[i].f2)
      rw [playT, hq]
      exact this
    | false =>
      refine eneg (by rw [show (outT (stepT f0 e T L3 L4 xs[i].f0 xs[i].f1 xs[i].f2)).2.2.2 = false from hq]; decide) ?_
      have := ih (i + 1) e T L4 (did ++ [false]) (by omega) (by simp [hd]) hI
      rw [playT, stepT_no _ _ _ _ _ _ _ _ hq]
      exact this
theorem inv0 (a : Int) (l : List Int) (h : goodNB a l = true) : InvB a 0 [] l [] := by
  simp only [goodNB, Bool.and_eq_true, Bool.not_eq_true', decide_eq_false_iff_not] at h
  exact ⟨h.1, by omega, by omega, by omega, h.2.1, rfl, by simp, by simp, by simp, List.Pairwise.nil⟩
def playR (a : Int) (l : List Int) (xs : List S158) : Int × Int × List (List Int) × List Int × List Int × List Bool × Bool :=
  if goodNB a l = true ∧ ¬ (xs.length : Int) > 60 then (let z := playT a l xs 0 [] [] []; (a, z.1, z.2.1.map tri, l, z.2.2.1, z.2.2.2, true)) else (0, 0, [], [], [], [], false)
theorem implPlay_e (a : Int) (l : List Int) (xs : List S158) (hn : l.length ≤ 1048576) : Ev (fun k => impl_PlayBoard.f k a l xs) (playR a l xs) := by
  unfold impl_PlayBoard.f playR
  refine ebind (implNB_e a l hn) ?_
  unfold newBR
  cases hg : goodNB a l with
  | false => exact eneg (by simp) (enow (by simp))
  | true =>
    refine epos rfl ?_
    by_cases hx : (xs.length : Int) > 60
    · exact epos hx (enow (by simp [hx]))
    · refine eneg hx ?_
      have := implPlay_l a l xs (by omega) xs.length 0 0 [] [] [] (by omega) rfl (inv0 a l hg)
      refine ebind this (enow ?_)
      rw [if_pos (⟨rfl, hx⟩ : true = true ∧ ¬ (xs.length : Int) > 60)]
      rfl
theorem specPlay_e (a : Int) (l : List Int) (xs : List S158) (hn : l.length ≤ 1048576) : Ev (fun k => spec_PlayBoard.f k a l xs) (playR a l xs) := by
  unfold spec_PlayBoard.f playR
  refine ebind (specNB_e a l hn) ?_
  unfold newBR
  cases hg : goodNB a l with
  | false => exact eneg (by simp) (enow (by simp))
  | true =>
    refine epos rfl ?_
    by_cases hx : (xs.length : Int) > 60
    · exact epos hx (enow (by simp [hx]))
    · refine eneg hx ?_
      have := specPlay_l a l xs (by omega) xs.length 0 0 [] [] [] (by omega) rfl (inv0 a l hg)
      rw [List.drop_zero] at this
      refine ebind this ?_
      have hI := playT_inv a l xs 0 [] [] [] (inv0 a l hg)
      have := hI.n
      have := hI.len4
      rw [if_pos (⟨rfl, hx⟩ : true = true ∧ ¬ (xs.length : Int) > 60)]
      dsimp only [List.drop_zero]
      refine ebind (own_e _ a _ l _ (by omega) (by omega) (by omega)) (enow rfl)
theorem playR_small (a : Int) (l : List Int) (xs : List S158) (hn : l.length ≤ 1048576) : ((playR a l xs).2.2.1.length ≤ 1048576 ∧ ∀ y ∈ (playR a l xs).2.2.1, y.length ≤ 1048576) ∧ (playR a l xs).2.2.2.1.length ≤ 1048576 ∧ (playR a l xs).2.2.2.2.1.length ≤ 1048576 ∧ (playR a l xs).2.2.2.2.2.1.length ≤ 1048576 := by
  unfold playR
  split
  · rename_i h
    have hI := playT_inv a l xs 0 [] [] [] (inv0 a l h.1)
    have := hI.n
    have := hI.len4
    have hd := playT_did a l xs 0 [] [] []
    refine ⟨⟨by simp; omega, fun y hy => ?_⟩, hn, by dsimp only; omega, by dsimp only; rw [hd]; simp; omega⟩
    obtain ⟨t, _, rfl⟩ := List.mem_map.1 hy
    simp [tri]
  · simp
theorem FnExactPlayBoard : laws_FnExactPlayBoard.Pure := by
  intro a xs ys _ _ hw
  apply Ev.rounds
  unfold laws_FnExactPlayBoard.f
  by_cases hb : (xs.length : Int) > 1048576
  · exact epos hb (enow rfl)
  refine eneg hb ?_
  have hn : xs.length ≤ 1048576 := by omega
  obtain ⟨r, _, z2, z3⟩ := laws_szBoardStepS_z ys 1048576 (by omega) (by omega) (by have := hw.1; unfold maxLen at this; omega)
  refine enb z2 ?_
  by_cases hr : r < 0
  · exact epos hr (enow rfl)
  refine eneg hr ?_
  have hy := z3 (by omega)
  have e1 := laws_toIntS_e xs hn
  have e2 := laws_toBoardStepS_e ys hy
  generalize hx : (ys.map fun x => (⟨x.f0, x.f1, x.f2⟩ : S158)) = Y at e2
  have hY : Y.length ≤ 1048576 := by rw [← hx]; simpa using hy
  have e3 := specPlay_e a xs Y hn
  have e4 := implPlay_e a xs Y hn
  obtain ⟨s1, s2, s3, s4⟩ := playR_small a xs Y hn
  have e5 := laws_eqBoard_r (playR a xs Y).1 (playR a xs Y).2.1 _ _ _ s1 s2 s3
  have e6 := laws_eqBoolS_r _ s4
  have e7 := laws_eqIntS_r xs hn
  have e8 := laws_eqBoardStepS_r Y hY
  obtain ⟨_, _, q1, q2⟩ := laws_markIntS_m xs 1 hn (by omega) (by omega)
  obtain ⟨_, q3⟩ := laws_markBoardStepS_m Y (1 + 1 * xs.length) hY (by omega) (by omega)
  obtain ⟨_, _, _, t, t0, t1, q4, q5⟩ := laws_markBoard_m (playR a xs Y).1 (playR a xs Y).2.1 _ _ _ 1 s1 s2 s3 (by omega) (by omega)
  have hS := s1.1
  obtain ⟨_, _, q6, q7⟩ := laws_markBoolS_m _ t s4 (by omega) (by omega)
  repeat' first
    | exact enow rfl
    | (with_reducible refine ebind e1 ?_)
    | (with_reducible refine ebind e2 ?_)
    | (with_reducible refine ebind e3 ?_)
    | (with_reducible refine ebind e4 ?_)
    | (with_reducible refine ebind e5 ?_)
    | (with_reducible refine ebind e6 ?_)
    | (with_reducible refine ebind e7 ?_)
    | (with_reducible refine ebind e8 ?_)
    | (with_reducible refine ebind q1 ?_)
    | (with_reducible refine ebind q3 ?_)
    | (with_reducible refine ebind q4 ?_)
    | (with_reducible refine ebind q5 ?_)
    | (with_reducible refine ebind q6 ?_)
    | (with_reducible refine ebind q7 ?_)
    | (with_reducible refine enb (laws_toBoardStep_e _ _ _) ?_)
    | (with_reducible refine eround (fun k => laws_FnExactPlayBoard.j0.eq_2 _ _ _ _ _ _ _ _ _ _ _ _ _ _ _ _ _ _ _ _ _) ?_)
    | (with_reducible refine eround (fun k => laws_FnExactPlayBoard.j1.eq_2 _ _ _ _ _ _ _ _ _ _ _ _ _ _ _ _ _ _) ?_)
    | (with_reducible refine eround (fun k => laws_FnExactPlayBoard.j2.eq_2 _ _ _ _ _ _ _ _ _) ?_)
    | (with_reducible refine enb rfl ?_)
    | (with_reducible refine epos rfl ?_)
    | (refine eneg ?_ ?_; focus (first | omega | (dsimp only; omega) | (simp; done) | (simp; omega)))

end Go.Proofs.Ytkgogglnipdcfaa.Pure
