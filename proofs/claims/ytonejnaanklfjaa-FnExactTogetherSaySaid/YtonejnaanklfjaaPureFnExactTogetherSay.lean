/- The law FnExactTogetherSay, told over lists: the program's TogetherSay and the reference's answer alike; nothing is written into an argument. No condition. -/
import Derived.Test.YtonejnaanklfjaaQFnExactTogetherSayx8
import Derived.Test.YtonejnaanklfjaaPk
namespace Go.Proofs.Ytonejnaanklfjaa.Pure
open Go.RowKit Go.Proofs.Ytonejnaanklfjaa.QFnExactTogetherSay Go.Proofs.YtonejnaanklfjaaW.PrintWords Go.Proofs.YtonejnaanklfjaaW.PrintLast Go.Proofs.YtonejnaanklfjaaW.PrintMore Go.Proofs.Ytonejnaanklfjaa
set_option linter.unusedVariables false
set_option linter.unusedSimpArgs false

open Pk
/-! laws_szIntS -/
theorem laws_szIntS_z (xs : List Int) (m : Int) (h0 : 0 ≤ m) (h1 : m ≤ 1048576) (hw : xs.length ≤ 9223372036854775807) : ∃ r, r ≤ m ∧ laws_szIntS.f xs m = some r ∧ (0 ≤ r → xs.length ≤ 1048576) := by
  unfold laws_szIntS.f
  rw [w64 (by omega) (by omega)]
  by_cases h : m - (xs.length : Int) < 0
  · exact ⟨-1, by omega, if_pos h, fun h => by omega⟩
  · exact ⟨_, by omega, if_neg h, fun _ => by omega⟩
/-! laws_szIntSS -/
theorem laws_szIntSS_l (xs : List (List Int)) (hw : xs.length ≤ 9223372036854775807 ∧ ∀ y ∈ xs, y.length ≤ 9223372036854775807) : ∀ (d i : Nat) (m : Int), i + d = xs.length → 0 ≤ m → m ≤ 1048576 → ∃ r, r ≤ m ∧ Ev (fun k => laws_szIntSS.l0 k xs m (i : Int)) r ∧ (0 ≤ r → ∀ y ∈ xs.drop i, y.length ≤ 1048576) := by
  have hn := hw.1
  intro d
  induction d with
  | zero =>
    intro i m hi h0 h1
    exact ⟨m, Int.le_refl _, eround (fun k => by rw [laws_szIntSS.l0]) (eneg (by omega) (enow rfl)), fun _ y hy => by rw [List.drop_eq_nil_of_le (by omega)] at hy; simp at hy⟩
  | succ d ih =>
    intro i m hi h0 h1
    have hlt : i < xs.length := by omega
    have hg : rd_L1 xs (i : Int) = xs[i] := getD_get xs i _ hlt
    have hy := hw.2 _ (List.getElem_mem hlt)
    obtain ⟨t, t1, t2, t3⟩ := laws_szIntS_z xs[i] m h0 h1 hy
    by_cases ht : t < 0
    · refine ⟨-1, by omega, eround (fun k => by rw [laws_szIntSS.l0]) (epos (by omega) (epos (by omega) ?_)), fun h => by omega⟩
      rw [hg]
      exact enb t2 (epos ht (enow rfl))
    · obtain ⟨r, r1, r2, r3⟩ := ih (i + 1) t (by omega) (by omega) (by omega)
      refine ⟨r, by omega, eround (fun k => by rw [laws_szIntSS.l0]) (epos (by omega) (epos (by omega) ?_)), fun h y hy' => ?_⟩
      · rw [hg, w64 (x := (i : Int) + 1) (by omega) (by omega)]
        refine enb t2 (eneg ht ?_)
        exact r2
      · rw [List.drop_eq_getElem_cons hlt] at hy'
        rcases List.mem_cons.1 hy' with rfl | hy'
        · exact t3 (by omega)
        · exact r3 h y hy'
theorem laws_szIntSS_z (xs : List (List Int)) (m : Int) (h0 : 0 ≤ m) (h1 : m ≤ 1048576) (hw : xs.length ≤ 9223372036854775807 ∧ ∀ y ∈ xs, y.length ≤ 9223372036854775807) : ∃ r, r ≤ m ∧ Ev (fun k => laws_szIntSS.f k xs m) r ∧ (0 ≤ r → xs.length ≤ 1048576 ∧ ∀ y ∈ xs, y.length ≤ 1048576) := by
  have hn := hw.1
  unfold laws_szIntSS.f
  rw [w64 (by omega) (by omega)]
  by_cases h : m - (xs.length : Int) < 0
  · exact ⟨-1, by omega, epos h (enow rfl), fun h => by omega⟩
  · obtain ⟨r, r1, r2, r3⟩ := laws_szIntSS_l xs hw xs.length 0 (m - xs.length) (by omega) (by omega) (by omega)
    exact ⟨r, by omega, eneg h r2, fun h => ⟨by omega, fun y hy => r3 h y hy⟩⟩
/-! laws_szTable -/
theorem laws_szTable_z (a0_0 : Int) (l0_1 : List (List Int)) (l0_2 : List Int) (m : Int) (h0 : 0 ≤ m) (h1 : m ≤ 1048576) (hwl0_1 : l0_1.length ≤ 9223372036854775807 ∧ ∀ y ∈ l0_1, y.length ≤ 9223372036854775807) (hwl0_2 : l0_2.length ≤ 9223372036854775807) : ∃ r, r ≤ m ∧ Ev (fun k => laws_szTable.f k a0_0 l0_1 l0_2 m) r ∧ (0 ≤ r → (l0_1.length ≤ 1048576 ∧ ∀ y ∈ l0_1, y.length ≤ 1048576) ∧ (l0_2.length ≤ 1048576)) := by
  unfold laws_szTable.f
  obtain ⟨r0, l0, e0, c0⟩ := laws_szIntSS_z l0_1 m (by omega) (by omega) hwl0_1
  by_cases z0 : r0 < 0
  · exact ⟨-1, by omega, (ebind e0 (epos z0 (enow rfl))), fun h => by omega⟩
  obtain ⟨r1, l1, e1, c1⟩ := laws_szIntS_z l0_2 r0 (by omega) (by omega) hwl0_2
  by_cases z1 : r1 < 0
  · exact ⟨-1, by omega, (ebind e0 (eneg z0 (enb e1 (epos z1 (enow rfl))))), fun h => by omega⟩
  exact ⟨r1, by omega, (ebind e0 (eneg z0 (enb e1 (eneg z1 (enow rfl))))), fun _ => ⟨c0 (by omega), c1 (by omega)⟩⟩
/-! laws_toIntS -/
theorem laws_toIntS_l (xs : List Int) (hs : xs.length ≤ 1048576) : ∀ (d i : Nat) (acc : List Int), i + d = xs.length → acc.length = xs.length → acc.take i = xs.take i → Ev (fun k => laws_toIntS.l0 k xs acc (i : Int)) xs := by
  have hn := hs
  intro d
  induction d with
  | zero =>
    intro i acc hi hl ht
    refine eround (fun k => by rw [laws_toIntS.l0]) (eneg (by omega) (enow ?_))
    rwa [List.take_of_length_le (by omega), List.take_of_length_le (by first | omega | (simp; omega))] at ht
  | succ d ih =>
    intro i acc hi hl ht
    have hlt : i < xs.length := by omega
    refine eround (fun k => by rw [laws_toIntS.l0]) (epos (by omega) (epos (by omega) ?_))
    refine epos (by omega) ?_
    rw [w64 (by omega) (by omega)]
    refine ih (i + 1) _ (by omega) (by simpa using hl) ?_
    exact take_set_succ _ _ rfl (by first | exact hlt | (simp; omega)) (by first | exact hl | simpa using hl) ht (by first | exact (getD_get xs i _ hlt).symm | (simp only [List.getElem_map]; rw [← getD_get xs i _ hlt]; rfl))
theorem laws_toIntS_e (xs : List Int) (hs : xs.length ≤ 1048576) : Ev (fun k => laws_toIntS.f k xs) xs := by
  have hn := hs
  unfold laws_toIntS.f
  exact epos (by omega) (epos (by omega) (laws_toIntS_l xs hs xs.length 0 _ (by omega) (by simp) (by simp)))
/-! laws_toIntSS -/
theorem laws_toIntSS_l (xs : List (List Int)) (hs : (xs.length ≤ 1048576 ∧ ∀ y ∈ xs, y.length ≤ 1048576)) : ∀ (d i : Nat) (acc : List (List Int)), i + d = xs.length → acc.length = xs.length → acc.take i = xs.take i → Ev (fun k => laws_toIntSS.l0 k xs acc (i : Int)) xs := by
  have hn := hs.1
  intro d
  induction d with
  | zero =>
    intro i acc hi hl ht
    refine eround (fun k => by rw [laws_toIntSS.l0]) (eneg (by omega) (enow ?_))
    rwa [List.take_of_length_le (by omega), List.take_of_length_le (by first | omega | (simp; omega))] at ht
  | succ d ih =>
    intro i acc hi hl ht
    have hlt : i < xs.length := by omega
    refine eround (fun k => by rw [laws_toIntSS.l0]) (epos (by omega) (epos (by omega) ?_))
    refine ebind (laws_toIntS_e _ (by show (xs.getD ((i : Int)).toNat []).length ≤ _; rw [getD_get xs i _ hlt]; exact hs.2 _ (List.getElem_mem hlt))) (epos (by omega) ?_)
    rw [w64 (by omega) (by omega)]
    refine ih (i + 1) _ (by omega) (by simpa using hl) ?_
    exact take_set_succ _ _ rfl (by first | exact hlt | (simp; omega)) (by first | exact hl | simpa using hl) ht (by first | exact (getD_get xs i _ hlt).symm | (simp only [List.getElem_map]; rw [← getD_get xs i _ hlt]; rfl))
theorem laws_toIntSS_e (xs : List (List Int)) (hs : (xs.length ≤ 1048576 ∧ ∀ y ∈ xs, y.length ≤ 1048576)) : Ev (fun k => laws_toIntSS.f k xs) xs := by
  have hn := hs.1
  unfold laws_toIntSS.f
  exact epos (by omega) (epos (by omega) (laws_toIntSS_l xs hs xs.length 0 _ (by omega) (by simp) (by simp)))
/-! laws_toTable -/
theorem laws_toTable_e (a0_0 : Int) (l0_1 : List (List Int)) (l0_2 : List Int) (hl0_1 : (l0_1.length ≤ 1048576 ∧ ∀ y ∈ l0_1, y.length ≤ 1048576)) (hl0_2 : l0_2.length ≤ 1048576) : Ev (fun k => laws_toTable.f k a0_0 l0_1 l0_2) (a0_0, l0_1, l0_2) := by
  unfold laws_toTable.f
  exact ebind (laws_toIntSS_e l0_1 hl0_1) (ebind (laws_toIntS_e l0_2 hl0_2) (enow rfl))
/-! laws_eqIntS -/
theorem laws_eqIntS_lr (xs : List Int) (hs : xs.length ≤ 1048576) : ∀ (d i : Nat), i + d = xs.length → Ev (fun k => laws_eqIntS.l0 k xs xs (i : Int)) true := by
  have hn := hs
  intro d
  induction d with
  | zero =>
    intro i hi
    exact eround (fun k => by rw [laws_eqIntS.l0]) (eneg (by omega) (enow rfl))
  | succ d ih =>
    intro i hi
    have hlt : i < xs.length := by omega
    refine eround (fun k => by rw [laws_eqIntS.l0]) (epos (by omega) (epos (by omega) (epos (by omega) ?_)))
    first | refine epos rfl ?_ | (refine eneg ?_ ?_; focus (simp; done))
    rw [w64 (by omega) (by omega)]
    exact ih (i + 1) (by omega)
theorem laws_eqIntS_r (xs : List Int) (hs : xs.length ≤ 1048576) : Ev (fun k => laws_eqIntS.f k xs xs) true := by
  unfold laws_eqIntS.f
  exact epos rfl (laws_eqIntS_lr xs hs xs.length 0 (by omega))
/-! laws_eqIntSS -/
theorem laws_eqIntSS_lr (xs : List (List Int)) (hs : (xs.length ≤ 1048576 ∧ ∀ y ∈ xs, y.length ≤ 1048576)) : ∀ (d i : Nat), i + d = xs.length → Ev (fun k => laws_eqIntSS.l0 k xs xs (i : Int)) true := by
  have hn := hs.1
  intro d
  induction d with
  | zero =>
    intro i hi
    exact eround (fun k => by rw [laws_eqIntSS.l0]) (eneg (by omega) (enow rfl))
  | succ d ih =>
    intro i hi
    have hlt : i < xs.length := by omega
    refine eround (fun k => by rw [laws_eqIntSS.l0]) (epos (by omega) (epos (by omega) (epos (by omega) ?_)))
    refine ebind (laws_eqIntS_r (xs.getD ((i : Int)).toNat []) (by rw [getD_get xs i _ hlt]; exact hs.2 _ (List.getElem_mem hlt))) (epos rfl ?_)
    rw [w64 (by omega) (by omega)]
    exact ih (i + 1) (by omega)
theorem laws_eqIntSS_r (xs : List (List Int)) (hs : (xs.length ≤ 1048576 ∧ ∀ y ∈ xs, y.length ≤ 1048576)) : Ev (fun k => laws_eqIntSS.f k xs xs) true := by
  unfold laws_eqIntSS.f
  exact epos rfl (laws_eqIntSS_lr xs hs xs.length 0 (by omega))
/-! laws_eqTable -/
theorem laws_eqTable_r (a0_0 : Int) (l0_1 : List (List Int)) (l0_2 : List Int) (hl0_1 : (l0_1.length ≤ 1048576 ∧ ∀ y ∈ l0_1, y.length ≤ 1048576)) (hl0_2 : l0_2.length ≤ 1048576) : Ev (fun k => laws_eqTable.f k a0_0 l0_1 l0_2 a0_0 l0_1 l0_2) true := by
  unfold laws_eqTable.f
  repeat' first
    | exact enow rfl
    | refine epos rfl ?_
    | (refine eneg ?_ ?_; focus (simp; done))
    | refine ebind (laws_eqIntS_r _ (by assumption)) ?_
    | refine ebind (laws_eqIntSS_r _ (by assumption)) ?_
/-! laws_markIntS -/
theorem laws_markIntS_h : ∀ (d i : Nat) (xs : List Int) (m : Int), i + d = xs.length → xs.length ≤ 1048576 → 0 ≤ m → m ≤ 4611686018427387904 - 1 * d → ∃ ys : List Int, ys.length = xs.length ∧ ys.take i = xs.take i ∧
    Ev (fun k => laws_markIntS.l0 k xs m (i : Int)) (m + 1 * d, ys) ∧ Ev (fun k => laws_heldIntS.l0 k ys m (i : Int)) (m + 1 * d) := by
  intro d
  induction d with
  | zero =>
    intro i xs m hi hn h0 h1
    exact ⟨xs, rfl, rfl, eround (fun k => by rw [laws_markIntS.l0]) (eneg (by omega) (enow (by simp))), eround (fun k => by rw [laws_heldIntS.l0]) (eneg (by omega) (enow (by simp)))⟩
  | succ d ih =>
    intro i xs m hi hn h0 h1
    have hlt : i < xs.length := by omega
    have w1 : wrap64 ((i : Int) + 1) = ((i + 1 : Nat) : Int) := by rw [w64 (by omega) (by omega)]; rfl
    have v0 : wrap64 (m + 1) = m + 1 := w64 (by omega) (by omega)
    obtain ⟨ys, hl, ht, hm, hh⟩ := ih (i + 1) (xs.set ((i : Int)).toNat m) (m + 1) (by simp; omega) (by simpa using hn) (by omega) (by push_cast at h1; omega)
    have hlt' : i < ys.length := by rw [hl]; simpa using hlt
    have hy : ys[i] = m := by
      have := congrArg (fun l => l[i]?) ht
      simp only [List.getElem?_take_of_lt (Nat.lt_succ_self i), List.getElem?_eq_getElem hlt'] at this
      rw [show ((i : Int)).toNat = i by simp, List.getElem?_set_self (by simpa using hlt)] at this
      exact Option.some.inj this
    refine ⟨ys, by rw [hl]; simp, ?_, ?_, ?_⟩
    · have := congrArg (List.take i) ht
      rw [List.take_take, List.take_take, Nat.min_eq_left (by omega)] at this
      rw [this]
      simp [List.take_set_of_le]
    · refine eround (fun k => by rw [laws_markIntS.l0]) (epos (by omega) ?_)
      try simp only [w1, v0]
      refine epos (by omega) ?_
      refine enb rfl ?_
      try simp only [w1, v0]
      skip
      rw [show m + 1 * ((d + 1 : Nat) : Int) = m + 1 + 1 * (d : Int) by push_cast; omega]
      simpa using hm
    · refine eround (fun k => by rw [laws_heldIntS.l0]) (epos (by omega) (epos (by omega) ?_))
      have hr : ∀ z, ys.getD ((i : Int)).toNat z = ys[i] := fun z => getD_get ys i z hlt'
      try simp only [w1, v0]
      simp only [rd, rdOf, hr, hy]
      repeat (first | refine epos trivial ?_ | refine epos rfl ?_ | (refine eneg ?_ ?_; focus (simp; done)))
      rw [show m + 1 * ((d + 1 : Nat) : Int) = m + 1 + 1 * (d : Int) by push_cast; omega]
      exact hh
theorem laws_markIntS_m (xs : List Int) (m : Int) (hn : xs.length ≤ 1048576) (h0 : 0 ≤ m) (h1 : m ≤ 4611686018427387904 - 1 * xs.length) : ∃ ys : List Int, ys.length = xs.length ∧ Ev (fun k => laws_markIntS.f k xs m) (m + 1 * xs.length, ys) ∧ Ev (fun k => laws_heldIntS.f k ys m) (m + 1 * xs.length) := by
  obtain ⟨ys, hl, _, h⟩ := laws_markIntS_h xs.length 0 xs m (by omega) hn h0 h1
  exact ⟨ys, hl, h⟩
/-! laws_markIntSS -/
theorem laws_markIntSS_h : ∀ (d i : Nat) (xs : List (List Int)) (m : Int), i + d = xs.length → xs.length ≤ 1048576 → (∀ (j : Nat) (h : j < xs.length), i ≤ j → xs[j].length ≤ 1048576) → 0 ≤ m → m ≤ 4611686018427387904 - 1048576 * d → ∃ (ys : List (List Int)) (t : Int), m ≤ t ∧ t ≤ m + 1048576 * d ∧ ys.length = xs.length ∧ Ev (fun k => laws_markIntSS.l0 k xs m (i : Int)) (t, ys) := by
  intro d
  induction d with
  | zero =>
    intro i xs m hi hn hs h0 h1
    exact ⟨xs, m, Int.le_refl _, by omega, rfl, eround (fun k => by rw [laws_markIntSS.l0]) (eneg (by omega) (enow rfl))⟩
  | succ d ih =>
    intro i xs m hi hn hs h0 h1
    have hlt : i < xs.length := by omega
    have w1 : wrap64 ((i : Int) + 1) = ((i + 1 : Nat) : Int) := by rw [w64 (by omega) (by omega)]; rfl
    have hb := hs i hlt (Nat.le_refl _)
    obtain ⟨zs, hz, m1, m2⟩ := laws_markIntS_m xs[i] m hb h0 (by push_cast at h1; omega)
    generalize he : m + 1 * (xs[i].length : Int) = m' at m1 m2
    obtain ⟨ys, t, t0, t1, hl, hm⟩ := ih (i + 1) (xs.set i zs) m' (by simp; omega) (by simpa using hn) (fun j h hj => by rw [List.getElem_set_ne (by omega)]; exact hs j (by simpa using h) (by omega)) (by omega) (by push_cast at h1; omega)
    have hmk : Ev (fun k => laws_markIntSS.l0 k xs m (i : Int)) (t, ys) := by
      refine eround (fun k => by rw [laws_markIntSS.l0]) (epos (by omega) (epos (by omega) ?_))
      rw [show laws_markIntSS.rd xs (i : Int) = xs[i] from getD_get xs i _ hlt]
      refine ebind m1 ?_
      rw [w1]
      exact hm
    exact ⟨ys, t, by omega, by push_cast; omega, by rw [hl]; simp, hmk⟩
theorem laws_markIntSS_m (xs : List (List Int)) (m : Int) (hs : xs.length ≤ 1048576 ∧ ∀ y ∈ xs, y.length ≤ 1048576) (h0 : 0 ≤ m) (h1 : m ≤ 4611686018427387904 - 1048576 * xs.length) : ∃ (ys : List (List Int)) (t : Int), m ≤ t ∧ t ≤ m + 1048576 * xs.length ∧ Ev (fun k => laws_markIntSS.f k xs m) (t, ys) := by
  obtain ⟨ys, t, t0, t1, hl, h⟩ := laws_markIntSS_h xs.length 0 xs m (by omega) hs.1 (fun j h _ => hs.2 _ (List.getElem_mem h)) h0 h1
  exact ⟨ys, t, t0, t1, h⟩
/-! laws_markTable -/
theorem laws_markTable_m (a0_0 : Int) (l0_1 : List (List Int)) (l0_2 : List Int) (m : Int) (hl0_1 : (l0_1.length ≤ 1048576 ∧ ∀ y ∈ l0_1, y.length ≤ 1048576)) (hl0_2 : l0_2.length ≤ 1048576) (h0 : 0 ≤ m) (h1 : m ≤ 2305843009213693952) : ∃ (yl0_1 : List (List Int)) (yl0_2 : List Int) (t : Int), m ≤ t ∧ t ≤ m + 1099512676352 ∧ Ev (fun k => laws_markTable.f k a0_0 l0_1 l0_2 m) (t, yl0_1, yl0_2) := by
  have ll0_1 := hl0_1.1
  obtain ⟨yl0_1, t0, a0, b0, e0⟩ := laws_markIntSS_m l0_1 m hl0_1 (by omega) (by omega)
  obtain ⟨yl0_2, _, e1, g1⟩ := laws_markIntS_m l0_2 t0 hl0_2 (by omega) (by omega)
  generalize z1 : t0 + 1 * (l0_2.length : Int) = t1 at e1 g1
  refine ⟨yl0_1, yl0_2, t1, by omega, by omega, ?_⟩
  · unfold laws_markTable.f
    exact ebind e0 (ebind e1 (enow rfl))
def inR (lo hi x : Int) : Bool := decide (x ≥ lo) && decide (x ≤ hi)
theorem inR_iff {lo hi x : Int} : inR lo hi x = true ↔ lo ≤ x ∧ x ≤ hi := by simp [inR]
theorem l1In_eq (a lo hi : Int) : spec_l1In.f a lo hi = some (inR lo hi a) := by
  unfold spec_l1In.f inR
  by_cases h : a ≥ lo <;> simp [h]
theorem l1All_l (xs : List Int) (lo up : Int) (hn : xs.length ≤ 9223372036854775807) : ∀ (d i : Nat), i + d = xs.length → Ev (fun k => spec_l1All.l0 k lo up xs (xs.length : Int) (i : Int)) ((xs.drop i).all (inR lo up)) := by
  intro d
  induction d with
  | zero =>
    intro i hi
    refine eround (fun k => by rw [spec_l1All.l0]) ?_
    refine eneg (by omega) (enow ?_)
    rw [List.drop_eq_nil_of_le (by omega)]; rfl
  | succ d ih =>
    intro i hi
    have hlt : i < xs.length := by omega
    refine eround (fun k => by rw [spec_l1All.l0]) ?_
    refine epos (by omega) (epos (by omega) (epos (by omega) ?_))
    rw [rd_get xs i hlt, List.drop_eq_getElem_cons hlt, List.all_cons]
    refine enb (l1In_eq _ _ _) ?_
    cases h : inR lo up xs[i] with
    | true =>
      refine epos rfl ?_
      rw [w64 (by omega) (by omega)]
      simpa using ih (i + 1) (by omega)
    | false => exact eneg (by simp) (enow (by simp))
theorem l1All_e (xs : List Int) (lo up : Int) (hn : xs.length ≤ 9223372036854775807) : Ev (fun k => spec_l1All.f k xs lo up) (xs.all (inR lo up)) :=
  l1All_l xs lo up hn xs.length 0 (by omega)
theorem within_eq (a lo hi : Int) : impl_within.f a lo hi = some (inR lo hi a) := by
  unfold impl_within.f inR
  by_cases h : a ≥ lo <;> simp [h]
theorem allWithin_l (xs : List Int) (lo up : Int) (hn : xs.length ≤ 9223372036854775807) : ∀ (d i : Nat), i + d = xs.length → Ev (fun k => impl_allWithin.l0 k lo up xs (xs.length : Int) (i : Int)) ((xs.drop i).all (inR lo up)) := by
  intro d
  induction d with
  | zero =>
    intro i hi
    refine eround (fun k => by rw [impl_allWithin.l0]) ?_
    refine eneg (by omega) (enow ?_)
    rw [List.drop_eq_nil_of_le (by omega)]; rfl
  | succ d ih =>
    intro i hi
    have hlt : i < xs.length := by omega
    refine eround (fun k => by rw [impl_allWithin.l0]) ?_
    refine epos (by omega) (epos (by omega) (epos (by omega) ?_))
    rw [rd_get xs i hlt, List.drop_eq_getElem_cons hlt, List.all_cons]
    refine enb (within_eq _ _ _) ?_
    cases h : inR lo up xs[i] with
    | true =>
      refine epos rfl ?_
      rw [w64 (by omega) (by omega)]
      simpa using ih (i + 1) (by omega)
    | false => exact eneg (by simp) (enow (by simp))
theorem allWithin_e (xs : List Int) (lo up : Int) (hn : xs.length ≤ 9223372036854775807) : Ev (fun k => impl_allWithin.f k xs lo up) (xs.all (inR lo up)) :=
  allWithin_l xs lo up hn xs.length 0 (by omega)
/-- all elements, each with its place, from place i on -/
def allI {α : Type} (p : Nat → α → Bool) : Nat → List α → Bool
  | _, [] => true
  | i, x :: xs => p i x && allI p (i + 1) xs
theorem allI_congr {α : Type} {p q : Nat → α → Bool} : ∀ (xs : List α) (i : Nat), (∀ j x, i ≤ j → j < i + xs.length → p j x = q j x) → allI p i xs = allI q i xs
  | [], _, _ => rfl
  | x :: xs, i, h => by
    simp only [allI]
    rw [h i x (Nat.le_refl _) (by simp), allI_congr xs (i + 1) (fun j y h1 h2 => h j y (by omega) (by simp only [List.length_cons]; omega))]
theorem l1Same_l (xs ys : List Int) (hl : xs.length = ys.length) (hn : xs.length ≤ 9223372036854775807) : ∀ (d i : Nat), i + d = xs.length → Ev (fun k => spec_l1Same.l0 k xs ys (xs.length : Int) (i : Int)) (decide (xs.drop i = ys.drop i)) := by
  intro d
  induction d with
  | zero =>
    intro i hi
    refine eround (fun k => by rw [spec_l1Same.l0]) (eneg (by omega) (enow ?_))
    rw [List.drop_eq_nil_of_le (show xs.length ≤ i by omega), List.drop_eq_nil_of_le (show ys.length ≤ i by omega)]; rfl
  | succ d ih =>
    intro i hi
    have hlt : i < xs.length := by omega
    have hlt' : i < ys.length := by omega
    refine eround (fun k => by rw [spec_l1Same.l0]) (epos (by omega) (epos (by omega) (epos (by omega) (epos (by omega) ?_))))
    rw [rd_get xs i hlt, rd_get ys i hlt', List.drop_eq_getElem_cons hlt, List.drop_eq_getElem_cons hlt']
    by_cases h : xs[i] = ys[i]
    · refine epos h ?_
      rw [w64 (by omega) (by omega)]
      simp only [h, List.cons.injEq, true_and]
      exact ih (i + 1) (by omega)
    · exact eneg h (enow (by simp only [List.cons.injEq, h, false_and, decide_false]))
theorem l1Same_e (xs ys : List Int) (hn : xs.length ≤ 9223372036854775807) : Ev (fun k => spec_l1Same.f k xs ys) (decide (xs = ys)) := by
  unfold spec_l1Same.f
  by_cases hl : xs.length = ys.length
  · exact epos (by omega) (l1Same_l xs ys hl hn xs.length 0 (by omega))
  · refine eneg (by omega) (enow ?_)
    have : xs ≠ ys := fun h => hl (by rw [h])
    simp [this]
theorem slEq_l (xs ys : List Int) (hl : xs.length = ys.length) (hn : xs.length ≤ 9223372036854775807) : ∀ (d i : Nat), i + d = xs.length → Ev (fun k => slices_Equal_int_int.l0 k xs ys (xs.length : Int) (i : Int)) (decide (xs.drop i = ys.drop i)) := by
  intro d
  induction d with
  | zero =>
    intro i hi
    refine eround (fun k => by rw [slices_Equal_int_int.l0]) (eneg (by omega) (enow ?_))
    rw [List.drop_eq_nil_of_le (show xs.length ≤ i by omega), List.drop_eq_nil_of_le (show ys.length ≤ i by omega)]; rfl
  | succ d ih =>
    intro i hi
    have hlt : i < xs.length := by omega
    have hlt' : i < ys.length := by omega
    refine eround (fun k => by rw [slices_Equal_int_int.l0]) (epos (by omega) (epos (by omega) (epos (by omega) (epos (by omega) ?_))))
    rw [rd_get xs i hlt, rd_get ys i hlt', List.drop_eq_getElem_cons hlt, List.drop_eq_getElem_cons hlt']
    by_cases h : xs[i] = ys[i]
    · refine epos h ?_
      rw [w64 (by omega) (by omega)]
      simp only [h, List.cons.injEq, true_and]
      exact ih (i + 1) (by omega)
    · exact eneg h (enow (by simp only [List.cons.injEq, h, false_and, decide_false]))
theorem slEq_e (xs ys : List Int) (hn : xs.length ≤ 9223372036854775807) : Ev (fun k => slices_Equal_int_int.f k xs ys) (decide (xs = ys)) := by
  unfold slices_Equal_int_int.f
  by_cases hl : xs.length = ys.length
  · exact epos (by omega) (slEq_l xs ys hl hn xs.length 0 (by omega))
  · refine eneg (by omega) (enow ?_)
    have : xs ≠ ys := fun h => hl (by rw [h])
    simp [this]
def inP (h : Int) (r : List Int) : Bool := decide ((r.length : Int) = 2) && (inR 0 (wrap64 (h - 1)) (rd r 0) && (inR 0 (wrap64 (h - 1)) (rd r 1) && !decide (rd r 0 ≥ rd r 1)))
def newP (ps : List (List Int)) (i : Nat) (r : List Int) : Bool := !((ps.take i).any fun p => decide (p = r))
def endT (h : Int) (ps : List (List Int)) (cs : List Int) : Bool := inR 1 6 h && (decide ((ps.length : Int) ≤ 15) && (decide ((cs.length : Int) = (ps.length : Int)) && cs.all (inR 0 255)))
def goodTb (h : Int) (ps : List (List Int)) (cs : List Int) : Bool := allI (fun i r => inP h r && newP ps i r) 0 ps && endT h ps cs
def smallP (ps : List (List Int)) : Prop := ps.length ≤ 1048576 ∧ ∀ p ∈ ps, p.length ≤ 1048576
theorem specGTb_end (h : Int) (ps : List (List Int)) (cs : List Int) (hc : cs.length ≤ 1048576) : Ev (fun k => ((spec_l1In.f h 1 6).bind fun t111 => (if t111 = true then (if (ps.length : Int) ≤ 15 then (if (cs.length : Int) = (ps.length : Int) then ((spec_l1All.f k cs 0 255).bind fun t112 => (some t112)) else (some false)) else (some false)) else (some false)))) (endT h ps cs) := by
  unfold endT
  refine enb (l1In_eq _ _ _) ?_
  cases h1 : inR 1 6 h with
  | false => exact eneg (by decide) (enow (by simp))
  | true =>
    refine epos rfl ?_
    by_cases h2 : (ps.length : Int) ≤ 15
    · refine epos h2 ?_
      by_cases h3 : (cs.length : Int) = (ps.length : Int)
      · exact epos h3 (ebind (l1All_e cs 0 255 (by omega)) (enow (by simp [h2, h3])))
      · exact eneg h3 (enow (by simp [h3]))
    · exact eneg h2 (enow (by simp [h2]))
theorem specGTb_l1 (h : Int) (ps : List (List Int)) (cs : List Int) (hs : smallP ps) (r : List Int) (hr : r.length ≤ 1048576) (i : Nat) (hi : i ≤ ps.length) (R : Bool) (H : Ev (fun k => spec_GoodTable.l0 k ps (ps.length : Int) (wrap64 ((i : Int) + 1)) h ps cs) R) :
    ∀ (d j : Nat), j + d = i → Ev (fun k => spec_GoodTable.l1 k r ps (ps.length : Int) (i : Int) (ps.take i) ((ps.take i).length : Int) (j : Int) h ps cs) (!(((ps.take i).drop j).any fun p => decide (p = r)) && R) := by
  have hn := hs.1
  have hl : (ps.take i).length = i := by simp; omega
  intro d
  induction d with
  | zero =>
    intro j hj
    refine eround (fun k => by rw [spec_GoodTable.l1]) (eneg (by omega) ?_)
    rw [List.drop_eq_nil_of_le (by omega)]
    simpa using H
  | succ d ih =>
    intro j hj
    have hlt : j < (ps.take i).length := by omega
    refine eround (fun k => by rw [spec_GoodTable.l1]) (epos (by omega) (epos (by omega) (epos (by omega) ?_)))
    rw [show rd_L1 (ps.take i) (j : Int) = (ps.take i)[j] from getD_get _ j _ hlt, List.drop_eq_getElem_cons hlt, List.any_cons]
    refine ebind (l1Same_e _ _ (by omega)) ?_
    generalize (ps.take i)[j] = q
    by_cases e : q = r
    · exact epos (by simp [e]) (enow (by simp [e]))
    · refine eneg (by simpa using fun x : r = q => e x.symm) ?_
      rw [w64 (x := (j : Int) + 1) (by omega) (by omega), decide_eq_false e, Bool.false_or]
      exact ih (j + 1) (by omega)
theorem specGTb_l (h : Int) (ps : List (List Int)) (cs : List Int) (hs : smallP ps) (hc : cs.length ≤ 1048576) : ∀ (d i : Nat), i + d = ps.length → Ev (fun k => spec_GoodTable.l0 k ps (ps.length : Int) (i : Int) h ps cs) (allI (fun i r => inP h r && newP ps i r) i (ps.drop i) && endT h ps cs) := by
  have hn := hs.1
  intro d
  induction d with
  | zero =>
    intro i hi
    refine eround (fun k => by rw [spec_GoodTable.l0]) (eneg (by omega) ?_)
    rw [List.drop_eq_nil_of_le (by omega)]
    exact specGTb_end h ps cs hc
  | succ d ih =>
    intro i hi
    have hlt : i < ps.length := by omega
    refine eround (fun k => by rw [spec_GoodTable.l0]) (epos (by omega) (epos (by omega) (epos (by omega) ?_)))
    rw [show rd_L1 ps (i : Int) = ps[i] from getD_get _ i _ hlt, List.drop_eq_getElem_cons hlt]
    have hr := hs.2 _ (List.getElem_mem hlt)
    generalize ps[i] = r at hr
    have K : ∀ b : Bool, Ev (fun k => spec_GoodTable.j1 k (i : Int) r ps (ps.length : Int) (i : Int) b h ps cs) (!b && (newP ps i r && (allI (fun i r => inP h r && newP ps i r) (i + 1) (ps.drop (i + 1)) && endT h ps cs))) := by
      intro b
      refine eround (fun k => by rw [spec_GoodTable.j1]) ?_
      cases b with
      | true => exact epos rfl (enow rfl)
      | false =>
        refine eneg (by decide) (epos (by omega) (epos (by omega) (enb rfl ?_)))
        have := specGTb_l1 h ps cs hs r hr i (by omega) _ (by rw [w64 (by omega) (by omega)]; exact ih (i + 1) (by omega)) i 0 (by omega)
        exact this
    simp only [allI]
    rw [Bool.and_assoc, Bool.and_assoc]
    unfold inP
    by_cases h1 : (r.length : Int) = 2
    · refine epos h1 (epos (by omega) (enb (l1In_eq _ _ _) ?_))
      cases h2 : inR 0 (wrap64 (h - 1)) (rd r 0) with
      | false => refine eneg (by decide) ?_; simpa [h2] using K true
      | true =>
        refine epos rfl (epos (by omega) (enb (l1In_eq _ _ _) ?_))
        cases h3 : inR 0 (wrap64 (h - 1)) (rd r 1) with
        | false => refine eneg (by decide) ?_; simpa [h2, h3] using K true
        | true => refine epos rfl ?_; rw [decide_eq_true h1, Bool.true_and, Bool.true_and, Bool.true_and]; exact K (decide (rd r 0 ≥ rd r 1))
    · refine eneg h1 ?_
      simpa [h1] using K true
theorem specGTb_e (h : Int) (ps : List (List Int)) (cs : List Int) (hs : smallP ps) (hc : cs.length ≤ 1048576) : Ev (fun k => spec_GoodTable.f k h ps cs) (goodTb h ps cs) := specGTb_l h ps cs hs hc ps.length 0 (by omega)
theorem implGTb1_e (p r : List Int) (hn : p.length ≤ 1048576) : Ev (fun k => impl_GoodTable_1.f k p r) (decide (p = r)) := by
  unfold impl_GoodTable_1.f
  exact ebind (slEq_e p r (by omega)) (enow rfl)
theorem ixP_l (ps : List (List Int)) (hs : smallP ps) (r : List Int) : ∀ (d i : Nat), i + d = ps.length → ∃ x : Int, Ev (fun k => slices_IndexFunc_156_at_111_51.l0 k ps (ps.length : Int) (i : Int) r) x ∧ (x ≥ 0 ↔ (ps.drop i).any (fun p => decide (p = r)) = true) := by
  have hn := hs.1
  intro d
  induction d with
  | zero =>
    intro i hi
    refine ⟨-1, eround (fun k => by rw [slices_IndexFunc_156_at_111_51.l0]) (eneg (by omega) (enow rfl)), ?_⟩
    rw [List.drop_eq_nil_of_le (by omega)]; simp
  | succ d ih =>
    intro i hi
    have hlt : i < ps.length := by omega
    obtain ⟨x, h1, h3⟩ := ih (i + 1) (by omega)
    rw [List.drop_eq_getElem_cons hlt, List.any_cons]
    by_cases e : ps[i] = r
    · refine ⟨(i : Int), eround (fun k => by rw [slices_IndexFunc_156_at_111_51.l0]) (epos (by omega) (epos (by omega) (epos (by omega) ?_))), by simp [e]⟩
      rw [show rd_L1 ps (i : Int) = ps[i] from getD_get _ i _ hlt]
      exact ebind (implGTb1_e _ _ (hs.2 _ (List.getElem_mem hlt))) (epos (by simp [e]) (enow rfl))
    · refine ⟨x, eround (fun k => by rw [slices_IndexFunc_156_at_111_51.l0]) (epos (by omega) (epos (by omega) (epos (by omega) ?_))), by rw [decide_eq_false e, Bool.false_or]; exact h3⟩
      rw [show rd_L1 ps (i : Int) = ps[i] from getD_get _ i _ hlt]
      refine ebind (implGTb1_e _ _ (hs.2 _ (List.getElem_mem hlt))) (eneg (by simp [e]) ?_)
      rw [w64 (by omega) (by omega)]
      exact h1
theorem coP_e (ps : List (List Int)) (hs : smallP ps) (r : List Int) : Ev (fun k => slices_ContainsFunc_110_at_111_51.f k ps r) (ps.any (fun p => decide (p = r))) := by
  obtain ⟨x, h1, h3⟩ := ixP_l ps hs r ps.length 0 (by omega)
  refine ebind (f := fun _ t => some (decide (t ≥ 0))) h1 (enow ?_)
  rw [List.drop_zero] at h3
  cases e : ps.any (fun p => decide (p = r)) with
  | true => rw [e] at h3; simpa using h3
  | false => rw [e] at h3; simpa using h3
theorem smallP_take {ps : List (List Int)} (hs : smallP ps) (i : Nat) : smallP (ps.take i) := ⟨by simp; have := hs.1; omega, fun p hp => hs.2 p (List.mem_of_mem_take hp)⟩
theorem inP_impl (h : Int) (h1 : inR 1 6 h = true) (r : List Int) : inP h r = (decide ((r.length : Int) = 2) && (!decide (rd r 0 < 0) && (!decide (rd r 0 ≥ rd r 1) && !decide (rd r 1 ≥ h)))) := by
  rw [inR_iff] at h1
  unfold inP
  rw [w64 (by omega) (by omega), Bool.eq_iff_iff]
  simp only [Bool.and_eq_true, inR_iff, decide_eq_true_eq, Bool.not_eq_true', decide_eq_false_iff_not]
  omega
theorem implGTb_l (h : Int) (h0 : inR 1 6 h = true) (ps : List (List Int)) (cs : List Int) (hs : smallP ps) : ∀ (d i : Nat), i + d = ps.length → Ev (fun k => impl_GoodTable.l0 k ps (ps.length : Int) (i : Int) h ps cs) (allI (fun i r => inP h r && newP ps i r) i (ps.drop i)) := by
  have hn := hs.1
  intro d
  induction d with
  | zero =>
    intro i hi
    refine eround (fun k => by rw [impl_GoodTable.l0]) (eneg (by omega) (enow ?_))
    rw [List.drop_eq_nil_of_le (by omega)]; rfl
  | succ d ih =>
    intro i hi
    have hlt : i < ps.length := by omega
    refine eround (fun k => by rw [impl_GoodTable.l0]) (epos (by omega) (epos (by omega) (epos (by omega) ?_)))
    rw [show rd_L1 ps (i : Int) = ps[i] from getD_get _ i _ hlt, List.drop_eq_getElem_cons hlt]
    have hr := hs.2 _ (List.getElem_mem hlt)
    generalize ps[i] = r at hr
    have K : ∀ b : Bool, Ev (fun k => impl_GoodTable.j2 k (i : Int) ps (ps.length : Int) (i : Int) b h ps cs r) (!b && (newP ps i r && allI (fun i r => inP h r && newP ps i r) (i + 1) (ps.drop (i + 1)))) := by
      intro b
      refine eround (fun k => by rw [impl_GoodTable.j2]) ?_
      cases b with
      | true => exact epos rfl (enow rfl)
      | false =>
        refine eneg (by decide) (epos (by omega) (epos (by omega) (ebind (coP_e _ (smallP_take hs _) r) ?_)))
        rw [show ((i : Int)).toNat = i by simp, w64 (by omega) (by omega)]
        unfold newP
        cases e : (ps.take i).any (fun p => decide (p = r)) with
        | true => exact epos rfl (enow rfl)
        | false => refine eneg (by decide) ?_; simpa [newP] using ih (i + 1) (by omega)
    simp only [allI]
    rw [Bool.and_assoc, inP_impl h h0]
    by_cases h1 : (r.length : Int) = 2
    · refine epos h1 (epos (by omega) ?_)
      by_cases h2 : rd r 0 < 0
      · refine epos h2 ?_; simpa [h2] using K true
      · refine eneg h2 (epos (by omega) ?_)
        by_cases h3 : rd r 0 ≥ rd r 1
        · refine epos h3 ?_; simpa [h3] using K true
        · refine eneg h3 ?_; simpa [h1, h2, h3] using K (decide (rd r 1 ≥ h))
    · refine eneg h1 ?_
      simpa [h1] using K true
theorem implGTb_e (h : Int) (ps : List (List Int)) (cs : List Int) (hs : smallP ps) (hc : cs.length ≤ 1048576) : Ev (fun k => impl_GoodTable.f k h ps cs) (goodTb h ps cs) := by
  unfold impl_GoodTable.f goodTb endT
  have J : ∀ b, inR 1 6 h = true ∨ b = true → Ev (fun k => impl_GoodTable.j0 k b h ps cs) (!b && allI (fun i r => inP h r && newP ps i r) 0 ps) := by
    intro b hb
    refine eround (fun k => by rw [impl_GoodTable.j0]) ?_
    cases b with
    | true => exact epos rfl (enow rfl)
    | false => exact eneg (by decide) (by simpa using implGTb_l h (by simpa using hb) ps cs hs ps.length 0 (by omega))
  refine enb (within_eq _ _ _) ?_
  cases h1 : inR 1 6 h with
  | false => refine eneg (by decide) ?_; simpa using J true (Or.inr rfl)
  | true =>
    refine epos rfl ?_
    by_cases h2 : (ps.length : Int) > 15
    · refine epos h2 ?_
      have : ¬ (ps.length : Int) ≤ 15 := by omega
      simpa [this] using J true (Or.inr rfl)
    · refine eneg h2 ?_
      have : (ps.length : Int) ≤ 15 := by omega
      by_cases h3 : (cs.length : Int) = (ps.length : Int)
      · refine epos h3 (ebind (allWithin_e cs 0 255 (by omega)) ?_)
        have := J (!cs.all (inR 0 255)) (Or.inl h1)
        simpa [h3, ‹(ps.length : Int) ≤ 15›, Bool.and_comm] using this
      · refine eneg h3 ?_
        simpa [h3] using J true (Or.inr rfl)
def coinsX (a : Int) : List (List Int) → List Int → Int → Int
  | r :: ps, c :: cs, x => coinsX a ps cs (if rd r 0 = a ∨ rd r 1 = a then Go.bits .xor .i64 x c else x)
  | _, _, x => x
theorem specCo_l (a h : Int) (ps : List (List Int)) (cs : List Int) (hs : smallP ps) (hl : cs.length = ps.length) (h2 : ∀ r ∈ ps, r.length = 2) : ∀ (d i : Nat) (x : Int), i + d = ps.length → Ev (fun k => spec_l15Coins.l0 k a x ps (ps.length : Int) (i : Int) h ps cs) (coinsX a (ps.drop i) (cs.drop i) x) := by
  have hn := hs.1
  intro d
  induction d with
  | zero =>
    intro i x hi
    refine eround (fun k => by rw [spec_l15Coins.l0]) (eneg (by omega) (enow ?_))
    rw [List.drop_eq_nil_of_le (by omega)]; rfl
  | succ d ih =>
    intro i x hi
    have hlt : i < ps.length := by omega
    have hlt' : i < cs.length := by omega
    have hr := h2 _ (List.getElem_mem hlt)
    refine eround (fun k => by rw [spec_l15Coins.l0]) (epos (by omega) (epos (by omega) (epos (by omega) ?_)))
    rw [show rd_L1 ps (i : Int) = ps[i] from getD_get _ i _ hlt, rd_get cs i hlt', List.drop_eq_getElem_cons hlt, List.drop_eq_getElem_cons hlt', w64 (by omega) (by omega)]
    refine epos (by omega) ?_
    simp only [coinsX]
    by_cases e1 : rd ps[i] 0 = a
    · refine epos e1 (epos (by omega) ?_)
      rw [if_pos (Or.inl e1)]
      exact ih (i + 1) _ (by omega)
    · refine eneg e1 (epos (by omega) ?_)
      by_cases e2 : rd ps[i] 1 = a
      · refine epos e2 (epos (by omega) ?_)
        rw [if_pos (Or.inr e2)]
        exact ih (i + 1) _ (by omega)
      · refine eneg e2 ?_
        rw [if_neg (by simp [e1, e2])]
        exact ih (i + 1) _ (by omega)
theorem ixI_l (xs : List Int) (a : Int) (hn : xs.length ≤ 9223372036854775807) : ∀ (d i : Nat), i + d = xs.length → ∃ r : Int, Ev (fun k => slices_Index_int_int.l0 k xs a (xs.length : Int) (i : Int)) r ∧ (r ≥ 0 ↔ a ∈ xs.drop i) := by
  intro d
  induction d with
  | zero =>
    intro i hi
    refine ⟨-1, eround (fun k => by rw [slices_Index_int_int.l0]) (eneg (by omega) (enow rfl)), ?_⟩
    rw [List.drop_eq_nil_of_le (by omega)]; simp
  | succ d ih =>
    intro i hi
    have hlt : i < xs.length := by omega
    obtain ⟨r, h1, h3⟩ := ih (i + 1) (by omega)
    rw [List.drop_eq_getElem_cons hlt, List.mem_cons]
    by_cases e : a = xs[i]
    · refine ⟨(i : Int), eround (fun k => by rw [slices_Index_int_int.l0]) (epos (by omega) (epos (by omega) (epos (by omega) ?_))), by simp [e]⟩
      rw [rd_get xs i hlt]
      exact epos e (enow rfl)
    · refine ⟨r, eround (fun k => by rw [slices_Index_int_int.l0]) (epos (by omega) (epos (by omega) (epos (by omega) ?_))), by simp only [e, false_or]; exact h3⟩
      rw [rd_get xs i hlt]
      refine eneg e ?_
      rw [w64 (by omega) (by omega)]
      exact h1
theorem coI_e (xs : List Int) (a : Int) (hn : xs.length ≤ 9223372036854775807) : Ev (fun k => slices_Contains_int_int.f k xs a) (decide (a ∈ xs)) := by
  obtain ⟨r, h1, h3⟩ := ixI_l xs a hn xs.length 0 (by omega)
  refine ebind (f := fun _ t => some (decide (t ≥ 0))) h1 (enow ?_)
  rw [List.drop_zero] at h3
  exact decide_eq_decide.2 h3
theorem two_mem (r : List Int) (a : Int) (h : r.length = 2) : a ∈ r ↔ (rd r 0 = a ∨ rd r 1 = a) := by
  match r, h with
  | [x, y], _ => simp [rd, eq_comm]
theorem implCo_l (a h : Int) (ps : List (List Int)) (cs : List Int) (hs : smallP ps) (hl : cs.length = ps.length) (h2 : ∀ r ∈ ps, r.length = 2) : ∀ (d i : Nat) (x : Int), i + d = ps.length → Ev (fun k => impl_Table_coins.l0 k a x ps (ps.length : Int) (i : Int) h ps cs) (coinsX a (ps.drop i) (cs.drop i) x) := by
  have hn := hs.1
  intro d
  induction d with
  | zero =>
    intro i x hi
    refine eround (fun k => by rw [impl_Table_coins.l0]) (eneg (by omega) (enow ?_))
    rw [List.drop_eq_nil_of_le (by omega)]; rfl
  | succ d ih =>
    intro i x hi
    have hlt : i < ps.length := by omega
    have hlt' : i < cs.length := by omega
    have hr := h2 _ (List.getElem_mem hlt)
    refine eround (fun k => by rw [impl_Table_coins.l0]) (epos (by omega) (epos (by omega) (epos (by omega) ?_)))
    rw [show rd_L1 ps (i : Int) = ps[i] from getD_get _ i _ hlt, rd_get cs i hlt', List.drop_eq_getElem_cons hlt, List.drop_eq_getElem_cons hlt', w64 (by omega) (by omega)]
    refine ebind (coI_e _ a (by omega)) ?_
    simp only [coinsX]
    by_cases e : a ∈ ps[i]
    · refine epos (by simp [e]) (epos (by omega) ?_)
      rw [if_pos ((two_mem _ a hr).1 e)]
      exact ih (i + 1) _ (by omega)
    · refine eneg (by simp [e]) ?_
      rw [if_neg (fun z => e ((two_mem _ a hr).2 z))]
      exact ih (i + 1) _ (by omega)
theorem allI_mem {α : Type} {p : Nat → α → Bool} {q : α → Prop} (hq : ∀ i x, p i x = true → q x) : ∀ (xs : List α) (i : Nat), allI p i xs = true → ∀ x ∈ xs, q x
  | [], _, _, x, hx => by simp at hx
  | y :: ys, i, h, x, hx => by
    simp only [allI, Bool.and_eq_true] at h
    rcases List.mem_cons.1 hx with rfl | hx
    · exact hq i _ h.1
    · exact allI_mem hq ys (i + 1) h.2 x hx
theorem goodTb_two {h : Int} {ps : List (List Int)} {cs : List Int} (g : goodTb h ps cs = true) : (∀ r ∈ ps, r.length = 2) ∧ cs.length = ps.length ∧ 1 ≤ h ∧ h ≤ 6 ∧ ps.length ≤ 15 := by
  unfold goodTb endT at g
  simp only [Bool.and_eq_true, decide_eq_true_eq] at g
  have := inR_iff.1 g.2.1
  refine ⟨allI_mem (fun i r hp => ?_) ps 0 g.1, by omega, this.1, this.2, by omega⟩
  simp only [inP, Bool.and_eq_true, decide_eq_true_eq] at hp
  omega
def togX (ps : List (List Int)) (cs : List Int) : Nat → List Int → List Int
  | _, [] => []
  | i, w :: ws => Go.bits .xor .i64 (coinsX (i : Int) ps cs 0) w :: togX ps cs (i + 1) ws
theorem togX_len (ps : List (List Int)) (cs : List Int) : ∀ (ws : List Int) (i : Nat), (togX ps cs i ws).length = ws.length
  | [], _ => rfl
  | _ :: ws, i => by simp [togX, togX_len ps cs ws (i + 1)]
theorem specTog_l (h : Int) (ps : List (List Int)) (cs xs : List Int) (hs : smallP ps) (hl : cs.length = ps.length) (h2 : ∀ r ∈ ps, r.length = 2) (hn : xs.length ≤ 1048576) : ∀ (d i : Nat) (acc : List Int), i + d = xs.length → acc.length ≤ i → Ev (fun k => spec_TogetherSay.l0 k acc xs (xs.length : Int) (i : Int) h ps cs) (acc ++ togX ps cs i (xs.drop i), true) := by
  intro d
  induction d with
  | zero =>
    intro i acc hi ha
    refine eround (fun k => by rw [spec_TogetherSay.l0]) (eneg (by omega) (enow ?_))
    rw [List.drop_eq_nil_of_le (by omega)]; simp [togX]
  | succ d ih =>
    intro i acc hi ha
    have hlt : i < xs.length := by omega
    have hc := specCo_l (i : Int) h ps cs hs hl h2 ps.length 0 0 (by omega)
    refine eround (fun k => by rw [spec_TogetherSay.l0]) (epos (by omega) (epos (by omega) (epos (by omega) ?_)))
    refine ebind (g := fun k => spec_l15Coins.f k h ps cs (i : Int)) hc (epos (by omega) ?_)
    rw [rd_get xs i hlt, List.drop_eq_getElem_cons hlt, w64 (by omega) (by omega)]
    have := ih (i + 1) (acc ++ [Go.bits .xor .i64 (coinsX (i : Int) ps cs 0) xs[i]]) (by omega) (by simp; omega)
    simpa [togX] using this
theorem implTog_l (h : Int) (ps : List (List Int)) (cs xs : List Int) (hs : smallP ps) (hl : cs.length = ps.length) (h2 : ∀ r ∈ ps, r.length = 2) (hn : xs.length ≤ 1048576) : ∀ (d i : Nat) (acc : List Int), i + d = xs.length → acc.length ≤ i → Ev (fun k => impl_TogetherSay.l0 k acc xs (xs.length : Int) (i : Int) h ps cs) (acc ++ togX ps cs i (xs.drop i), true) := by
  intro d
  induction d with
  | zero =>
    intro i acc hi ha
    refine eround (fun k => by rw [impl_TogetherSay.l0]) (eneg (by omega) (enow ?_))
    rw [List.drop_eq_nil_of_le (by omega)]; simp [togX]
  | succ d ih =>
    intro i acc hi ha
    have hlt : i < xs.length := by omega
    have hc := implCo_l (i : Int) h ps cs hs hl h2 ps.length 0 0 (by omega)
    refine eround (fun k => by rw [impl_TogetherSay.l0]) (epos (by omega) (epos (by omega) (epos (by omega) ?_)))
    refine ebind (g := fun k => impl_Table_coins.f k h ps cs (i : Int)) hc (epos (by omega) ?_)
    rw [rd_get xs i hlt, List.drop_eq_getElem_cons hlt, w64 (by omega) (by omega)]
    have := ih (i + 1) (acc ++ [Go.bits .xor .i64 (coinsX (i : Int) ps cs 0) xs[i]]) (by omega) (by simp; omega)
    simpa [togX] using this
def togR (h : Int) (ps : List (List Int)) (cs xs : List Int) : List Int × Bool := if goodTb h ps cs && (decide ((xs.length : Int) = h) && xs.all (inR 0 255)) then (togX ps cs 0 xs, true) else ([], false)
theorem specTS_e (h : Int) (ps : List (List Int)) (cs xs : List Int) (hs : smallP ps) (hc : cs.length ≤ 1048576) (hn : xs.length ≤ 1048576) : Ev (fun k => spec_TogetherSay.f k h ps cs xs) (togR h ps cs xs) := by
  unfold spec_TogetherSay.f togR
  refine ebind (specGTb_e h ps cs hs hc) ?_
  cases g : goodTb h ps cs with
  | false => exact eneg (by decide) (eround (fun k => by rw [spec_TogetherSay.j0]) (epos rfl (enow (by simp))))
  | true =>
    obtain ⟨g1, g2, _⟩ := goodTb_two g
    refine epos rfl ?_
    by_cases e : (xs.length : Int) = h
    · refine epos e (ebind (l1All_e xs 0 255 (by omega)) ?_)
      cases g5 : xs.all (inR 0 255) with
      | false => exact eround (fun k => by rw [spec_TogetherSay.j0]) (epos (by decide) (enow (by simp)))
      | true =>
        have := specTog_l h ps cs xs hs g2 g1 hn xs.length 0 [] (by omega) (by simp)
        exact eround (fun k => by rw [spec_TogetherSay.j0]) (eneg (by decide) (by simpa [e] using this))
    · exact eneg e (eround (fun k => by rw [spec_TogetherSay.j0]) (epos rfl (enow (by simp [e]))))
theorem implTS_e (h : Int) (ps : List (List Int)) (cs xs : List Int) (hs : smallP ps) (hc : cs.length ≤ 1048576) (hn : xs.length ≤ 1048576) : Ev (fun k => impl_TogetherSay.f k h ps cs xs) (togR h ps cs xs) := by
  unfold impl_TogetherSay.f togR
  refine ebind (implGTb_e h ps cs hs hc) ?_
  cases g : goodTb h ps cs with
  | false => exact eneg (by decide) (eround (fun k => by rw [impl_TogetherSay.j0]) (epos rfl (enow (by simp))))
  | true =>
    obtain ⟨g1, g2, _⟩ := goodTb_two g
    refine epos rfl ?_
    by_cases e : (xs.length : Int) = h
    · refine epos e (ebind (allWithin_e xs 0 255 (by omega)) ?_)
      cases g5 : xs.all (inR 0 255) with
      | false => exact eround (fun k => by rw [impl_TogetherSay.j0]) (epos (by decide) (enow (by simp)))
      | true =>
        have := implTog_l h ps cs xs hs g2 g1 hn xs.length 0 [] (by omega) (by simp)
        exact eround (fun k => by rw [impl_TogetherSay.j0]) (eneg (by decide) (by simpa [e] using this))
    · exact eneg e (eround (fun k => by rw [impl_TogetherSay.j0]) (epos rfl (enow (by simp [e]))))
theorem FnExactTogetherSay : laws_FnExactTogetherSay.Pure := by
  intro h ps cs xs hw hx
  obtain ⟨_, w1, w2⟩ := hw
  apply Ev.rounds
  unfold laws_FnExactTogetherSay.f
  by_cases hb : (xs.length : Int) > 1048576
  · exact epos hb (enow rfl)
  refine eneg hb ?_
  have hn : xs.length ≤ 1048576 := by omega
  obtain ⟨r, _, r2, r3⟩ := laws_szTable_z h ps cs 1048576 (by omega) (by omega) ⟨w1.1, fun y hy => (w1.2 y hy).1⟩ w2.1
  refine ebind r2 ?_
  by_cases hr : r < 0
  · exact epos hr (enow rfl)
  · refine eneg hr ?_
    obtain ⟨c1, c2⟩ := r3 (by omega)
    have e1 := laws_toTable_e h ps cs c1 c2
    have e1b := laws_toIntS_e xs hn
    have e2 := specTS_e h ps cs xs c1 c2 hn
    have e3 := implTS_e h ps cs xs c1 c2 hn
    have e4 := laws_eqTable_r h ps cs c1 c2
    have hR : (togR h ps cs xs).1.length ≤ 1048576 := by
      unfold togR; split
      · simpa [togX_len] using hn
      · simp
    have e5 := laws_eqIntS_r _ hR
    have e6 := laws_eqIntS_r xs hn
    obtain ⟨_, _, t, t0, t1, q1⟩ := laws_markTable_m h ps cs 1 c1 c2 (by omega) (by omega)
    obtain ⟨_, _, q2, q3⟩ := laws_markIntS_m xs t hn (by omega) (by omega)
    obtain ⟨_, _, q4, q5⟩ := laws_markIntS_m (togR h ps cs xs).1 1 hR (by omega) (by omega)
    repeat' first
      | exact enow rfl
      | (with_reducible refine ebind e1 ?_)
      | (with_reducible refine ebind e1b ?_)
      | (with_reducible refine ebind e2 ?_)
      | (with_reducible refine ebind e3 ?_)
      | (with_reducible refine ebind e4 ?_)
      | (with_reducible refine ebind e5 ?_)
      | (with_reducible refine ebind e6 ?_)
      | (with_reducible refine ebind q1 ?_)
      | (with_reducible refine ebind q2 ?_)
      | (with_reducible refine ebind q4 ?_)
      | (with_reducible refine ebind q5 ?_)
      | (with_reducible refine eround (fun k => laws_FnExactTogetherSay.j0.eq_2 _ _ _ _ _ _ _ _ _ _ _ _ _ _) ?_)
      | (with_reducible refine eround (fun k => laws_FnExactTogetherSay.j1.eq_2 _ _ _ _ _ _ _ _ _) ?_)
      | (with_reducible refine eround (fun k => laws_FnExactTogetherSay.j2.eq_2 _ _ _ _) ?_)
      | (with_reducible refine enb rfl ?_)
      | (with_reducible refine epos rfl ?_)
      | (refine eneg ?_ ?_; focus (first | omega | (dsimp only; omega) | (simp; done) | (simp; omega)))

end Go.Proofs.Ytonejnaanklfjaa.Pure
