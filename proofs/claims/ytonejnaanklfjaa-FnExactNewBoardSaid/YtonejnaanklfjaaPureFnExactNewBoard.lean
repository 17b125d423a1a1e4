/- The law FnExactNewBoard, told over lists: the program's NewBoard and the reference's answer alike; nothing is written into an argument. No condition. -/
import Derived.Test.YtonejnaanklfjaaQFnExactNewBoardx7
import Derived.Test.YtonejnaanklfjaaPk
namespace Go.Proofs.Ytonejnaanklfjaa.Pure
open Go.RowKit Go.Proofs.Ytonejnaanklfjaa.QFnExactNewBoard Go.Proofs.YtonejnaanklfjaaW.PrintWords Go.Proofs.YtonejnaanklfjaaW.PrintLast Go.Proofs.YtonejnaanklfjaaW.PrintMore Go.Proofs.Ytonejnaanklfjaa
set_option linter.unusedVariables false
set_option linter.unusedSimpArgs false

open Pk
/-! laws_eqIntS -/
theorem laws_eqIntS_lr (xs : List Int) (hs : xs.length ≤ 1048576) : ∀ (d i : Nat), i + d = xs.length → Ev (fun k => laws_eqIntS.l0 k xs xs (i : Int)) true := by
  have hn := hs
  intro d
  induction d with
  | zero =>
    intro i hi
    exact eround (fun k => by rw [laws_eqIntS.l0]) (eneg (by omega) (enow rfl))
  | succ d ih =>
    intro i hi
    have hlt : i < xs.length := by omega
    refine eround (fun k => by rw [laws_eqIntS.l0]) (epos (by omega) (epos (by omega) (epos (by omega) ?_)))
    first | refine epos rfl ?_ | (refine eneg ?_ ?_; focus (simp; done))
    rw [w64 (by omega) (by omega)]
    exact ih (i + 1) (by omega)
theorem laws_eqIntS_r (xs : List Int) (hs : xs.length ≤ 1048576) : Ev (fun k => laws_eqIntS.f k xs xs) true := by
  unfold laws_eqIntS.f
  exact epos rfl (laws_eqIntS_lr xs hs xs.length 0 (by omega))
/-! laws_markIntS -/
theorem laws_markIntS_h : ∀ (d i : Nat) (xs : List Int) (m : Int), i + d = xs.length → xs.length ≤ 1048576 → 0 ≤ m → m ≤ 4611686018427387904 - 1 * d → ∃ ys : List Int, ys.length = xs.length ∧ ys.take i = xs.take i ∧
    Ev (fun k => laws_markIntS.l0 k xs m (i : Int)) (m + 1 * d, ys) ∧ Ev (fun k => laws_heldIntS.l0 k ys m (i : Int)) (m + 1 * d) := by
  intro d
  induction d with
  | zero =>
    intro i xs m hi hn h0 h1
    exact ⟨xs, rfl, rfl, eround (fun k => by rw [laws_markIntS.l0]) (eneg (by omega) (enow (by simp))), eround (fun k => by rw [laws_heldIntS.l0]) (eneg (by omega) (enow (by simp)))⟩
  | succ d ih =>
    intro i xs m hi hn h0 h1
    have hlt : i < xs.length := by omega
    have w1 : wrap64 ((i : Int) + 1) = ((i + 1 : Nat) : Int) := by rw [w64 (by omega) (by omega)]; rfl
    have v0 : wrap64 (m + 1) = m + 1 := w64 (by omega) (by omega)
    obtain ⟨ys, hl, ht, hm, hh⟩ := ih (i + 1) (xs.set ((i : Int)).toNat m) (m + 1) (by simp; omega) (by simpa using hn) (by omega) (by push_cast at h1; omega)
    have hlt' : i < ys.length := by rw [hl]; simpa using hlt
    have hy : ys[i] = m := by
      have := congrArg (fun l => l[i]?) ht
      simp only [List.getElem?_take_of_lt (Nat.lt_succ_self i), List.getElem?_eq_getElem hlt'] at this
      rw [show ((i : Int)).toNat = i by simp, List.getElem?_set_self (by simpa using hlt)] at this
      exact Option.some.inj this
    refine ⟨ys, by rw [hl]; simp, ?_, ?_, ?_⟩
    · have := congrArg (List.take i) ht
      rw [List.take_take, List.take_take, Nat.min_eq_left (by omega)] at this
      rw [this]
      simp [List.take_set_of_le]
    · refine eround (fun k => by rw [laws_markIntS.l0]) (epos (by omega) ?_)
      try simp only [w1, v0]
      refine epos (by omega) ?_
      refine enb rfl ?_
      try simp only [w1, v0]
      skip
      rw [show m + 1 * ((d + 1 : Nat) : Int) = m + 1 + 1 * (d : Int) by push_cast; omega]
      simpa using hm
    · refine eround (fun k => by rw [laws_heldIntS.l0]) (epos (by omega) (epos (by omega) ?_))
      have hr : ∀ z, ys.getD ((i : Int)).toNat z = ys[i] := fun z => getD_get ys i z hlt'
      try simp only [w1, v0]
      simp only [rd, rdOf, hr, hy]
      repeat (first | refine epos trivial ?_ | refine epos rfl ?_ | (refine eneg ?_ ?_; focus (simp; done)))
      rw [show m + 1 * ((d + 1 : Nat) : Int) = m + 1 + 1 * (d : Int) by push_cast; omega]
      exact hh
theorem laws_markIntS_m (xs : List Int) (m : Int) (hn : xs.length ≤ 1048576) (h0 : 0 ≤ m) (h1 : m ≤ 4611686018427387904 - 1 * xs.length) : ∃ ys : List Int, ys.length = xs.length ∧ Ev (fun k => laws_markIntS.f k xs m) (m + 1 * xs.length, ys) ∧ Ev (fun k => laws_heldIntS.f k ys m) (m + 1 * xs.length) := by
  obtain ⟨ys, hl, _, h⟩ := laws_markIntS_h xs.length 0 xs m (by omega) hn h0 h1
  exact ⟨ys, hl, h⟩
/-! laws_toIntS -/
theorem laws_toIntS_l (xs : List Int) (hs : xs.length ≤ 1048576) : ∀ (d i : Nat) (acc : List Int), i + d = xs.length → acc.length = xs.length → acc.take i = xs.take i → Ev (fun k => laws_toIntS.l0 k xs acc (i : Int)) xs := by
  have hn := hs
  intro d
  induction d with
  | zero =>
    intro i acc hi hl ht
    refine eround (fun k => by rw [laws_toIntS.l0]) (eneg (by omega) (enow ?_))
    rwa [List.take_of_length_le (by omega), List.take_of_length_le (by first | omega | (simp; omega))] at ht
  | succ d ih =>
    intro i acc hi hl ht
    have hlt : i < xs.length := by omega
    refine eround (fun k => by rw [laws_toIntS.l0]) (epos (by omega) (epos (by omega) ?_))
    refine epos (by omega) ?_
    rw [w64 (by omega) (by omega)]
    refine ih (i + 1) _ (by omega) (by simpa using hl) ?_
    exact take_set_succ _ _ rfl (by first | exact hlt | (simp; omega)) (by first | exact hl | simpa using hl) ht (by first | exact (getD_get xs i _ hlt).symm | (simp only [List.getElem_map]; rw [← getD_get xs i _ hlt]; rfl))
theorem laws_toIntS_e (xs : List Int) (hs : xs.length ≤ 1048576) : Ev (fun k => laws_toIntS.f k xs) xs := by
  have hn := hs
  unfold laws_toIntS.f
  exact epos (by omega) (epos (by omega) (laws_toIntS_l xs hs xs.length 0 _ (by omega) (by simp) (by simp)))
/-! laws_eqIntSS -/
theorem laws_eqIntSS_lr (xs : List (List Int)) (hs : (xs.length ≤ 1048576 ∧ ∀ y ∈ xs, y.length ≤ 1048576)) : ∀ (d i : Nat), i + d = xs.length → Ev (fun k => laws_eqIntSS.l0 k xs xs (i : Int)) true := by
  have hn := hs.1
  intro d
  induction d with
  | zero =>
    intro i hi
    exact eround (fun k => by rw [laws_eqIntSS.l0]) (eneg (by omega) (enow rfl))
  | succ d ih =>
    intro i hi
    have hlt : i < xs.length := by omega
    refine eround (fun k => by rw [laws_eqIntSS.l0]) (epos (by omega) (epos (by omega) (epos (by omega) ?_)))
    refine ebind (laws_eqIntS_r (xs.getD ((i : Int)).toNat []) (by rw [getD_get xs i _ hlt]; exact hs.2 _ (List.getElem_mem hlt))) (epos rfl ?_)
    rw [w64 (by omega) (by omega)]
    exact ih (i + 1) (by omega)
theorem laws_eqIntSS_r (xs : List (List Int)) (hs : (xs.length ≤ 1048576 ∧ ∀ y ∈ xs, y.length ≤ 1048576)) : Ev (fun k => laws_eqIntSS.f k xs xs) true := by
  unfold laws_eqIntSS.f
  exact epos rfl (laws_eqIntSS_lr xs hs xs.length 0 (by omega))
/-! laws_eqBoard -/
theorem laws_eqBoard_r (a0_0 : Int) (a0_1 : Int) (l0_2 : List (List Int)) (l0_3 : List Int) (l0_4 : List Int) (hl0_2 : (l0_2.length ≤ 1048576 ∧ ∀ y ∈ l0_2, y.length ≤ 1048576)) (hl0_3 : l0_3.length ≤ 1048576) (hl0_4 : l0_4.length ≤ 1048576) : Ev (fun k => laws_eqBoard.f k a0_0 a0_1 l0_2 l0_3 l0_4 a0_0 a0_1 l0_2 l0_3 l0_4) true := by
  unfold laws_eqBoard.f
  repeat' first
    | exact enow rfl
    | refine epos rfl ?_
    | (refine eneg ?_ ?_; focus (simp; done))
    | refine ebind (laws_eqIntS_r _ (by assumption)) ?_
    | refine ebind (laws_eqIntSS_r _ (by assumption)) ?_
/-! laws_markIntSS -/
theorem laws_markIntSS_h : ∀ (d i : Nat) (xs : List (List Int)) (m : Int), i + d = xs.length → xs.length ≤ 1048576 → (∀ (j : Nat) (h : j < xs.length), i ≤ j → xs[j].length ≤ 1048576) → 0 ≤ m → m ≤ 4611686018427387904 - 1048576 * d → ∃ (ys : List (List Int)) (t : Int), m ≤ t ∧ t ≤ m + 1048576 * d ∧ ys.length = xs.length ∧ ys.take i = xs.take i ∧ Ev (fun k => laws_markIntSS.l0 k xs m (i : Int)) (t, ys) ∧ Ev (fun k => laws_heldIntSS.l0 k ys m (i : Int)) t := by
  intro d
  induction d with
  | zero =>
    intro i xs m hi hn hs h0 h1
    exact ⟨xs, m, Int.le_refl _, by omega, rfl, rfl, eround (fun k => by rw [laws_markIntSS.l0]) (eneg (by omega) (enow rfl)), eround (fun k => by rw [laws_heldIntSS.l0]) (eneg (by omega) (enow rfl))⟩
  | succ d ih =>
    intro i xs m hi hn hs h0 h1
    have hlt : i < xs.length := by omega
    have w1 : wrap64 ((i : Int) + 1) = ((i + 1 : Nat) : Int) := by rw [w64 (by omega) (by omega)]; rfl
    have hb := hs i hlt (Nat.le_refl _)
    obtain ⟨zs, hz, m1, m2⟩ := laws_markIntS_m xs[i] m hb h0 (by push_cast at h1; omega)
    generalize he : m + 1 * (xs[i].length : Int) = m' at m1 m2
    obtain ⟨ys, t, t0, t1, hl, ht, hm, hh⟩ := ih (i + 1) (xs.set i zs) m' (by simp; omega) (by simpa using hn) (fun j h hj => by rw [List.getElem_set_ne (by omega)]; exact hs j (by simpa using h) (by omega)) (by omega) (by push_cast at h1; omega)
    have hmk : Ev (fun k => laws_markIntSS.l0 k xs m (i : Int)) (t, ys) := by
      refine eround (fun k => by rw [laws_markIntSS.l0]) (epos (by omega) (epos (by omega) ?_))
      rw [show laws_markIntSS.rd xs (i : Int) = xs[i] from getD_get xs i _ hlt]
      refine ebind m1 ?_
      rw [w1]
      exact hm
    have hlt' : i < ys.length := by rw [hl]; simpa using hlt
    have hy : ys[i] = zs := by
      have := congrArg (fun l => l[i]?) ht
      simp only [List.getElem?_take_of_lt (Nat.lt_succ_self i), List.getElem?_eq_getElem hlt'] at this
      rw [List.getElem?_set_self (by simpa using hlt)] at this
      exact Option.some.inj this
    refine ⟨ys, t, by omega, by push_cast; omega, by rw [hl]; simp, ?_, hmk, ?_⟩
    · have := congrArg (List.take i) ht
      rw [List.take_take, List.take_take, Nat.min_eq_left (by omega)] at this
      rw [this]
      simp [List.take_set_of_le]
    · refine eround (fun k => by rw [laws_heldIntSS.l0]) (epos (by omega) (epos (by omega) ?_))
      rw [show rd_L1 ys (i : Int) = ys[i] from getD_get ys i _ hlt', hy]
      refine ebind m2 (eneg (by omega) ?_)
      rw [w1]
      exact hh
theorem laws_markIntSS_m (xs : List (List Int)) (m : Int) (hs : xs.length ≤ 1048576 ∧ ∀ y ∈ xs, y.length ≤ 1048576) (h0 : 0 ≤ m) (h1 : m ≤ 4611686018427387904 - 1048576 * xs.length) : ∃ (ys : List (List Int)) (t : Int), m ≤ t ∧ t ≤ m + 1048576 * xs.length ∧ Ev (fun k => laws_markIntSS.f k xs m) (t, ys) ∧ Ev (fun k => laws_heldIntSS.f k ys m) t := by
  obtain ⟨ys, t, t0, t1, hl, h⟩ := laws_markIntSS_h xs.length 0 xs m (by omega) hs.1 (fun j h _ => hs.2 _ (List.getElem_mem h)) h0 h1
  exact ⟨ys, t, t0, t1, h.2⟩
/-! laws_markBoard -/
theorem laws_markBoard_m (a0_0 : Int) (a0_1 : Int) (l0_2 : List (List Int)) (l0_3 : List Int) (l0_4 : List Int) (m : Int) (hl0_2 : (l0_2.length ≤ 1048576 ∧ ∀ y ∈ l0_2, y.length ≤ 1048576)) (hl0_3 : l0_3.length ≤ 1048576) (hl0_4 : l0_4.length ≤ 1048576) (h0 : 0 ≤ m) (h1 : m ≤ 2305843009213693952) : ∃ (yl0_2 : List (List Int)) (yl0_3 : List Int) (yl0_4 : List Int) (t : Int), m ≤ t ∧ t ≤ m + 1099513724928 ∧ Ev (fun k => laws_markBoard.f k a0_0 a0_1 l0_2 l0_3 l0_4 m) (t, yl0_2, yl0_3, yl0_4) ∧ Ev (fun k => laws_heldBoard.f k a0_0 a0_1 yl0_2 yl0_3 yl0_4 m) t := by
  have ll0_2 := hl0_2.1
  obtain ⟨yl0_2, t0, a0, b0, e0, g0⟩ := laws_markIntSS_m l0_2 m hl0_2 (by omega) (by omega)
  obtain ⟨yl0_3, _, e1, g1⟩ := laws_markIntS_m l0_3 t0 hl0_3 (by omega) (by omega)
  generalize z1 : t0 + 1 * (l0_3.length : Int) = t1 at e1 g1
  obtain ⟨yl0_4, _, e2, g2⟩ := laws_markIntS_m l0_4 t1 hl0_4 (by omega) (by omega)
  generalize z2 : t1 + 1 * (l0_4.length : Int) = t2 at e2 g2
  refine ⟨yl0_2, yl0_3, yl0_4, t2, by omega, by omega, ?_, ?_⟩
  · unfold laws_markBoard.f
    exact ebind e0 (ebind e1 (ebind e2 (enow rfl)))
  · unfold laws_heldBoard.f
    repeat' first
    | exact enow rfl
    | (with_reducible refine ebind g0 ?_)
    | (with_reducible refine ebind g1 ?_)
    | (with_reducible refine ebind g2 ?_)
    | (refine eneg ?_ ?_; focus omega)
def inR (lo hi x : Int) : Bool := decide (x ≥ lo) && decide (x ≤ hi)
theorem inR_iff {lo hi x : Int} : inR lo hi x = true ↔ lo ≤ x ∧ x ≤ hi := by simp [inR]
theorem l1In_eq (a lo hi : Int) : spec_l1In.f a lo hi = some (inR lo hi a) := by
  unfold spec_l1In.f inR
  by_cases h : a ≥ lo <;> simp [h]
theorem within_eq (a lo hi : Int) : impl_within.f a lo hi = some (inR lo hi a) := by
  unfold impl_within.f inR
  by_cases h : a ≥ lo <;> simp [h]
theorem allWithin_l (xs : List Int) (lo up : Int) (hn : xs.length ≤ 9223372036854775807) : ∀ (d i : Nat), i + d = xs.length → Ev (fun k => impl_allWithin.l0 k lo up xs (xs.length : Int) (i : Int)) ((xs.drop i).all (inR lo up)) := by
  intro d
  induction d with
  | zero =>
    intro i hi
    refine eround (fun k => by rw [impl_allWithin.l0]) ?_
    refine eneg (by omega) (enow ?_)
    rw [List.drop_eq_nil_of_le (by omega)]; rfl
  | succ d ih =>
    intro i hi
    have hlt : i < xs.length := by omega
    refine eround (fun k => by rw [impl_allWithin.l0]) ?_
    refine epos (by omega) (epos (by omega) (epos (by omega) ?_))
    rw [rd_get xs i hlt, List.drop_eq_getElem_cons hlt, List.all_cons]
    refine enb (within_eq _ _ _) ?_
    cases h : inR lo up xs[i] with
    | true =>
      refine epos rfl ?_
      rw [w64 (by omega) (by omega)]
      simpa using ih (i + 1) (by omega)
    | false => exact eneg (by simp) (enow (by simp))
theorem allWithin_e (xs : List Int) (lo up : Int) (hn : xs.length ≤ 9223372036854775807) : Ev (fun k => impl_allWithin.f k xs lo up) (xs.all (inR lo up)) :=
  allWithin_l xs lo up hn xs.length 0 (by omega)
def chainLt : List Int → Bool
  | a :: b :: r => decide (a < b) && chainLt (b :: r)
  | _ => true
theorem chainLt_drop (xs : List Int) (i : Nat) (h : i + 1 < xs.length) : chainLt (xs.drop i) = (decide (xs[i] < xs[i + 1]) && chainLt (xs.drop (i + 1))) := by
  rw [List.drop_eq_getElem_cons (show i < xs.length by omega), List.drop_eq_getElem_cons h]; rfl
theorem chainLt_end (xs : List Int) (i : Nat) (h : xs.length ≤ i + 1) : chainLt (xs.drop i) = true := by
  have : (xs.drop i).length ≤ 1 := by simp; omega
  match hx : xs.drop i, this with
  | [], _ => rfl
  | [_], _ => rfl
  | _ :: _ :: _, h => simp at h
def risB (lo up : Int) (xs : List Int) : Bool := xs.all (inR lo up) && chainLt xs
theorem specRis_l (xs : List Int) (lo up : Int) (hn : xs.length ≤ 9223372036854775807) : ∀ (d i : Nat), i + d = xs.length → Ev (fun k => spec_l1Rising.l0 k xs lo up xs (xs.length : Int) (i : Int)) ((xs.drop i).all (inR lo up) && chainLt (xs.drop (i - 1))) := by
  intro d
  induction d with
  | zero =>
    intro i hi
    refine eround (fun k => by rw [spec_l1Rising.l0]) (eneg (by omega) (enow ?_))
    rw [List.drop_eq_nil_of_le (by omega), chainLt_end xs _ (by omega)]; rfl
  | succ d ih =>
    intro i hi
    have hlt : i < xs.length := by omega
    refine eround (fun k => by rw [spec_l1Rising.l0]) (epos (by omega) (epos (by omega) (epos (by omega) ?_)))
    rw [rd_get xs i hlt, List.drop_eq_getElem_cons hlt, w64 (by omega) (by omega), w64 (by omega) (by omega), List.all_cons]
    refine enb (l1In_eq _ _ _) ?_
    cases e : inR lo up xs[i] with
    | false => exact eneg (by decide) (enow (by simp))
    | true =>
      refine epos rfl ?_
      have hI := ih (i + 1) (by omega)
      by_cases h0 : i = 0
      · subst h0
        refine eneg (by simp) ?_
        simpa [List.drop_one] using hI
      · obtain ⟨j, rfl⟩ : ∃ j, i = j + 1 := ⟨i - 1, by omega⟩
        refine epos (by omega) (epos (by omega) (epos (by omega) ?_))
        rw [show ((j + 1 : Nat) : Int) - 1 = (j : Int) by omega, rd_get xs j (by omega), show j + 1 - 1 = j by omega, chainLt_drop xs j (by omega)]
        simp only [Nat.add_sub_cancel] at hI
        by_cases h1 : xs[j] ≥ xs[j + 1]
        · exact epos h1 (enow (by simp; omega))
        · refine eneg h1 ?_
          simpa [show xs[j] < xs[j + 1] by omega] using hI
theorem specRis_e (xs : List Int) (lo up : Int) (hn : xs.length ≤ 9223372036854775807) : Ev (fun k => spec_l1Rising.f k xs lo up) (risB lo up xs) := by
  unfold spec_l1Rising.f
  simpa [risB] using specRis_l xs lo up hn xs.length 0 (by omega)
theorem implRis_l (xs : List Int) (lo up : Int) (hn : xs.length ≤ 9223372036854775807) : ∀ (d i : Nat), i + 1 + d = xs.length → Ev (fun k => impl_isRising.l0 k xs lo up ((i + 1 : Nat) : Int)) (xs.all (inR lo up) && chainLt (xs.drop i)) := by
  intro d
  induction d with
  | zero =>
    intro i hi
    refine eround (fun k => by rw [impl_isRising.l0]) (eneg (by omega) (ebind (allWithin_e xs lo up hn) (enow ?_)))
    rw [chainLt_end xs _ (by omega)]; simp
  | succ d ih =>
    intro i hi
    have e1 : wrap64 (((i + 1 : Nat) : Int) - 1) = (i : Int) := by rw [w64 (by omega) (by omega)]; omega
    have e2 : wrap64 (((i + 1 : Nat) : Int) + 1) = ((i + 1 + 1 : Nat) : Int) := by rw [w64 (by omega) (by omega)]; omega
    refine eround (fun k => by rw [impl_isRising.l0]) (epos (by omega) ?_)
    rw [e1, e2, rd_get xs i (by omega), rd_get xs (i + 1) (by omega), chainLt_drop xs i (by omega)]
    refine epos (by omega) (epos (by omega) (epos (by omega) ?_))
    by_cases h1 : xs[i] ≥ xs[i + 1]
    · exact epos h1 (enow (by simp; omega))
    · refine eneg h1 ?_
      simpa [show xs[i] < xs[i + 1] by omega] using ih (i + 1) (by omega)
theorem implRis_e (xs : List Int) (lo up : Int) (hn : xs.length ≤ 9223372036854775807) : Ev (fun k => impl_isRising.f k xs lo up) (risB lo up xs) := by
  unfold impl_isRising.f risB
  by_cases h : xs.length = 0
  · obtain rfl := List.eq_nil_of_length_eq_zero h
    refine eround (fun k => by rw [impl_isRising.l0]) (eneg (by simp) (ebind (allWithin_e [] lo up (by simp)) (enow (by simp [chainLt]))))
  · simpa using implRis_l xs lo up hn (xs.length - 1) 0 (by omega)
def goodNB (a : Int) (l : List Int) : Bool := inR 0 2 a && (risB 0 (3 * a) l && !decide ((l.length : Int) > a))
def newBR (a : Int) (l : List Int) : Int × Int × List (List Int) × List Int × List Int × Bool := if goodNB a l then (a, 0, [], l, [], true) else (0, 0, [], [], [], false)
theorem specGB0_e (a : Int) (l : List Int) (hn : l.length ≤ 1048576) : Ev (fun k => spec_GoodBoard.f k a 0 [] l []) (goodNB a l) := by
  unfold spec_GoodBoard.f goodNB
  have hj : ∀ m, Ev (fun k => spec_GoodBoard.j0 k m true a 0 [] l []) false := fun m => eround (fun k => by rw [spec_GoodBoard.j0]) (epos rfl (enow rfl))
  cases e : inR 0 2 a with
  | false =>
    refine enb (a := (0, 0, false)) (by unfold spec_QuorumFor.f; rw [l1In_eq, e]; rfl) (eneg (by decide) ?_)
    exact hj _
  | true =>
    have ha := inR_iff.1 e
    refine enb (a := (3 * a + 1, 2 * a + 1, true)) (by unfold spec_QuorumFor.f; rw [l1In_eq, e, w64 (x := 3 * a) (by omega) (by omega), w64 (x := 2 * a) (by omega) (by omega), w64 (x := 3 * a + 1) (by omega) (by omega), w64 (x := 2 * a + 1) (by omega) (by omega)]; rfl) (epos rfl ?_)
    dsimp only
    rw [w64 (by omega) (by omega), show 3 * a + 1 - 1 = 3 * a by omega]
    refine ebind (specRis_e l 0 (3 * a) (by omega)) ?_
    cases e2 : risB 0 (3 * a) l with
    | false => exact eneg (by decide) (hj _)
    | true =>
      refine epos rfl ?_
      by_cases h : (l.length : Int) > a
      · refine epos h ?_
        simpa [h] using hj (3 * a + 1)
      · refine eneg h (enb (l1In_eq _ _ _) (epos (by decide) (ebind (specRis_e [] 0 9 (by simp)) (epos (by decide) ?_))))
        refine eround (fun k => by rw [spec_GoodBoard.j0]) (eneg (by simp) (eround (fun k => by rw [spec_GoodBoard.l0]) (eneg (by simp) (enow ?_))))
        simp; omega
theorem implGB0_e (a : Int) (l : List Int) (hn : l.length ≤ 1048576) : Ev (fun k => impl_GoodBoard.f k a 0 [] l []) (goodNB a l) := by
  unfold impl_GoodBoard.f goodNB
  have hj : Ev (fun k => impl_GoodBoard.j0 k true a 0 [] l []) false := eround (fun k => by rw [impl_GoodBoard.j0]) (epos rfl (enow rfl))
  refine enb (a := inR 0 2 a) (by unfold impl_areFaults.f; rw [within_eq]; rfl) ?_
  cases e : inR 0 2 a with
  | false => exact eneg (by decide) hj
  | true =>
    have ha := inR_iff.1 e
    refine epos rfl (enb (within_eq _ _ _) (epos (by decide) ?_))
    by_cases h : (l.length : Int) > a
    · refine epos h ?_
      simpa [h] using hj
    · refine eneg h ?_
      rw [w64 (by omega) (by omega)]
      refine ebind (implRis_e l 0 (3 * a) (by omega)) ?_
      cases e2 : risB 0 (3 * a) l with
      | false => exact eneg (by decide) hj
      | true =>
        refine epos rfl (ebind (implRis_e [] 0 9 (by simp)) (epos (by decide) ?_))
        refine eround (fun k => by rw [impl_GoodBoard.j0]) (eneg (by simp) (eround (fun k => by rw [impl_GoodBoard.l0]) (eneg (by simp) (enow ?_))))
        simp; omega
theorem specNB_e (a : Int) (l : List Int) (hn : l.length ≤ 1048576) : Ev (fun k => spec_NewBoard.f k a l) (newBR a l) := by
  unfold spec_NewBoard.f newBR
  refine enb rfl (epos (by simp; omega) (enb rfl ?_))
  refine ebind (specGB0_e a ([] ++ l) (by simpa using hn)) ?_
  rw [List.nil_append]
  cases goodNB a l with
  | false => exact eneg (by decide) (enow rfl)
  | true => exact epos rfl (enow rfl)
theorem implNB_e (a : Int) (l : List Int) (hn : l.length ≤ 1048576) : Ev (fun k => impl_NewBoard.f k a l) (newBR a l) := by
  unfold impl_NewBoard.f newBR
  refine enb (a := l) (by unfold slices_Clone_int_int.f; simp; omega) ?_
  refine ebind (implGB0_e a l hn) ?_
  cases goodNB a l with
  | false => exact eneg (by decide) (enow rfl)
  | true => exact epos rfl (enow rfl)
theorem newBR_small (a : Int) (l : List Int) (hn : l.length ≤ 1048576) : ((newBR a l).2.2.1.length ≤ 1048576 ∧ ∀ y ∈ (newBR a l).2.2.1, y.length ≤ 1048576) ∧ (newBR a l).2.2.2.1.length ≤ 1048576 ∧ (newBR a l).2.2.2.2.1.length ≤ 1048576 := by
  unfold newBR
  split <;> simp [hn]
theorem FnExactNewBoard : laws_FnExactNewBoard.Pure := by
  intro a xs _ _ _ _
  apply Ev.rounds
  unfold laws_FnExactNewBoard.f
  by_cases hb : (xs.length : Int) > 1048576
  · exact epos hb (enow rfl)
  refine eneg hb ?_
  have hn : xs.length ≤ 1048576 := by omega
  have e1 := laws_toIntS_e xs hn
  have e2 := specNB_e a xs hn
  have e3 := implNB_e a xs hn
  obtain ⟨s1, s2, s3⟩ := newBR_small a xs hn
  have e4 := laws_eqBoard_r (newBR a xs).1 (newBR a xs).2.1 _ _ _ s1 s2 s3
  have e5 := laws_eqIntS_r xs hn
  obtain ⟨_, _, q2, q3⟩ := laws_markIntS_m xs 1 hn (by omega) (by omega)
  obtain ⟨_, _, _, t, t0, t1, q4, q5⟩ := laws_markBoard_m (newBR a xs).1 (newBR a xs).2.1 _ _ _ 1 s1 s2 s3 (by omega) (by omega)
  repeat' first
    | exact enow rfl
    | (with_reducible refine ebind e1 ?_)
    | (with_reducible refine ebind e2 ?_)
    | (with_reducible refine ebind e3 ?_)
    | (with_reducible refine ebind e4 ?_)
    | (with_reducible refine ebind e5 ?_)
    | (with_reducible refine ebind q2 ?_)
    | (with_reducible refine ebind q4 ?_)
    | (with_reducible refine ebind q5 ?_)
    | (with_reducible refine eround (fun k => laws_FnExactNewBoard.j0.eq_2 _ _ _ _ _ _ _ _ _ _ _ _ _ _ _ _ _) ?_)
    | (with_reducible refine eround (fun k => laws_FnExactNewBoard.j1.eq_2 _ _ _ _ _ _ _ _ _ _ _ _ _ _ _) ?_)
    | (with_reducible refine eround (fun k => laws_FnExactNewBoard.j2.eq_2 _ _ _ _ _ _ _ _) ?_)
    | (with_reducible refine enb rfl ?_)
    | (with_reducible refine epos rfl ?_)
    | (refine eneg ?_ ?_; focus (first | omega | (dsimp only; omega) | (simp; done) | (simp; omega)))

end Go.Proofs.Ytonejnaanklfjaa.Pure
