/- The law FnExactOtherCoins, told over lists: the program's OtherCoins and the reference's answer alike; nothing is written into an argument, and no answer leads to an argument. No condition. -/
import Derived.Test.YtpibdgknmjjolaaQFnExactOtherCoinsx9
import Derived.Test.YtpibdgknmjjolaaPk
namespace Go.Proofs.Ytpibdgknmjjolaa.Pure
open Go.RowKit Go.Proofs.Ytpibdgknmjjolaa.QFnExactOtherCoins Go.Proofs.YtpibdgknmjjolaaW.PrintWords Go.Proofs.YtpibdgknmjjolaaW.PrintLast Go.Proofs.YtpibdgknmjjolaaW.PrintMore Go.Proofs.Ytpibdgknmjjolaa
set_option linter.unusedVariables false
set_option linter.unusedSimpArgs false

open Pk
/-! laws_szIntS -/
theorem laws_szIntS_z (xs : List Int) (m : Int) (h0 : 0 ≤ m) (h1 : m ≤ 1048576) (hw : xs.length ≤ 9223372036854775807) : ∃ r, r ≤ m ∧ laws_szIntS.f xs m = some r ∧ (0 ≤ r → xs.length ≤ 1048576) := by
  unfold laws_szIntS.f
  rw [w64 (by omega) (by omega)]
  by_cases h : m - (xs.length : Int) < 0
  · exact ⟨-1, by omega, if_pos h, fun h => by omega⟩
  · exact ⟨_, by omega, if_neg h, fun _ => by omega⟩
/-! laws_szIntSS -/
theorem laws_szIntSS_l (xs : List (List Int)) (hw : xs.length ≤ 9223372036854775807 ∧ ∀ y ∈ xs, y.length ≤ 9223372036854775807) : ∀ (d i : Nat) (m : Int), i + d = xs.length → 0 ≤ m → m ≤ 1048576 → ∃ r, r ≤ m ∧ Ev (fun k => laws_szIntSS.l0 k xs m (i : Int)) r ∧ (0 ≤ r → ∀ y ∈ xs.drop i, y.length ≤ 1048576) := by
  have hn := hw.1
  intro d
  induction d with
  | zero =>
    intro i m hi h0 h1
    exact ⟨m, Int.le_refl _, eround (fun k => by rw [laws_szIntSS.l0]) (eneg (by omega) (enow rfl)), fun _ y hy => by rw [List.drop_eq_nil_of_le (by omega)] at hy; simp at hy⟩
  | succ d ih =>
    intro i m hi h0 h1
    have hlt : i < xs.length := by omega
    have hg : rd_L1 xs (i : Int) = xs[i] := getD_get xs i _ hlt
    have hy := hw.2 _ (List.getElem_mem hlt)
    obtain ⟨t, t1, t2, t3⟩ := laws_szIntS_z xs[i] m h0 h1 hy
    by_cases ht : t < 0
    · refine ⟨-1, by omega, eround (fun k => by rw [laws_szIntSS.l0]) (epos (by omega) (epos (by omega) ?_)), fun h => by omega⟩
      rw [hg]
      exact enb t2 (epos ht (enow rfl))
    · obtain ⟨r, r1, r2, r3⟩ := ih (i + 1) t (by omega) (by omega) (by omega)
      refine ⟨r, by omega, eround (fun k => by rw [laws_szIntSS.l0]) (epos (by omega) (epos (by omega) ?_)), fun h y hy' => ?_⟩
      · rw [hg, w64 (x := (i : Int) + 1) (by omega) (by omega)]
        refine enb t2 (eneg ht ?_)
        exact r2
      · rw [List.drop_eq_getElem_cons hlt] at hy'
        rcases List.mem_cons.1 hy' with rfl | hy'
        · exact t3 (by omega)
        · exact r3 h y hy'
theorem laws_szIntSS_z (xs : List (List Int)) (m : Int) (h0 : 0 ≤ m) (h1 : m ≤ 1048576) (hw : xs.length ≤ 9223372036854775807 ∧ ∀ y ∈ xs, y.length ≤ 9223372036854775807) : ∃ r, r ≤ m ∧ Ev (fun k => laws_szIntSS.f k xs m) r ∧ (0 ≤ r → xs.length ≤ 1048576 ∧ ∀ y ∈ xs, y.length ≤ 1048576) := by
  have hn := hw.1
  unfold laws_szIntSS.f
  rw [w64 (by omega) (by omega)]
  by_cases h : m - (xs.length : Int) < 0
  · exact ⟨-1, by omega, epos h (enow rfl), fun h => by omega⟩
  · obtain ⟨r, r1, r2, r3⟩ := laws_szIntSS_l xs hw xs.length 0 (m - xs.length) (by omega) (by omega) (by omega)
    exact ⟨r, by omega, eneg h r2, fun h => ⟨by omega, fun y hy => r3 h y hy⟩⟩
/-! laws_szTable -/
theorem laws_szTable_z (a0_0 : Int) (l0_1 : List (List Int)) (l0_2 : List Int) (m : Int) (h0 : 0 ≤ m) (h1 : m ≤ 1048576) (hwl0_1 : l0_1.length ≤ 9223372036854775807 ∧ ∀ y ∈ l0_1, y.length ≤ 9223372036854775807) (hwl0_2 : l0_2.length ≤ 9223372036854775807) : ∃ r, r ≤ m ∧ Ev (fun k => laws_szTable.f k a0_0 l0_1 l0_2 m) r ∧ (0 ≤ r → (l0_1.length ≤ 1048576 ∧ ∀ y ∈ l0_1, y.length ≤ 1048576) ∧ (l0_2.length ≤ 1048576)) := by
  unfold laws_szTable.f
  obtain ⟨r0, l0, e0, c0⟩ := laws_szIntSS_z l0_1 m (by omega) (by omega) hwl0_1
  by_cases z0 : r0 < 0
  · exact ⟨-1, by omega, (ebind e0 (epos z0 (enow rfl))), fun h => by omega⟩
  obtain ⟨r1, l1, e1, c1⟩ := laws_szIntS_z l0_2 r0 (by omega) (by omega) hwl0_2
  by_cases z1 : r1 < 0
  · exact ⟨-1, by omega, (ebind e0 (eneg z0 (enb e1 (epos z1 (enow rfl))))), fun h => by omega⟩
  exact ⟨r1, by omega, (ebind e0 (eneg z0 (enb e1 (eneg z1 (enow rfl))))), fun _ => ⟨c0 (by omega), c1 (by omega)⟩⟩
/-! laws_toIntS -/
theorem laws_toIntS_l (xs : List Int) (hs : xs.length ≤ 1048576) : ∀ (d i : Nat) (acc : List Int), i + d = xs.length → acc.length = xs.length → acc.take i = xs.take i → Ev (fun k => laws_toIntS.l0 k xs acc (i : Int)) xs := by
  have hn := hs
  intro d
  induction d with
  | zero =>
    intro i acc hi hl ht
    refine eround (fun k => by rw [laws_toIntS.l0]) (eneg (by omega) (enow ?_))
    rwa [List.take_of_length_le (by omega), List.take_of_length_le (by first | omega | (simp; omega))] at ht
  | succ d ih =>
    intro i acc hi hl ht
    have hlt : i < xs.length := by omega
    refine eround (fun k => by rw [laws_toIntS.l0]) (epos (by omega) (epos (by omega) ?_))
    refine epos (by omega) ?_
    rw [w64 (by omega) (by omega)]
    refine ih (i + 1) _ (by omega) (by simpa using hl) ?_
    exact take_set_succ _ _ rfl (by first | exact hlt | (simp; omega)) (by first | exact hl | simpa using hl) ht (by first | exact (getD_get xs i _ hlt).symm | (simp only [List.getElem_map]; rw [← getD_get xs i _ hlt]; rfl))
theorem laws_toIntS_e (xs : List Int) (hs : xs.length ≤ 1048576) : Ev (fun k => laws_toIntS.f k xs) xs := by
  have hn := hs
  unfold laws_toIntS.f
  exact epos (by omega) (epos (by omega) (laws_toIntS_l xs hs xs.length 0 _ (by omega) (by simp) (by simp)))
/-! laws_toIntSS -/
theorem laws_toIntSS_l (xs : List (List Int)) (hs : (xs.length ≤ 1048576 ∧ ∀ y ∈ xs, y.length ≤ 1048576)) : ∀ (d i : Nat) (acc : List (List Int)), i + d = xs.length → acc.length = xs.length → acc.take i = xs.take i → Ev (fun k => laws_toIntSS.l0 k xs acc (i : Int)) xs := by
  have hn := hs.1
  intro d
  induction d with
  | zero =>
    intro i acc hi hl ht
    refine eround (fun k => by rw [laws_toIntSS.l0]) (eneg (by omega) (enow ?_))
    rwa [List.take_of_length_le (by omega), List.take_of_length_le (by first | omega | (simp; omega))] at ht
  | succ d ih =>
    intro i acc hi hl ht
    have hlt : i < xs.length := by omega
    refine eround (fun k => by rw [laws_toIntSS.l0]) (epos (by omega) (epos (by omega) ?_))
    refine ebind (laws_toIntS_e _ (by show (xs.getD ((i : Int)).toNat []).length ≤ _; rw [getD_get xs i _ hlt]; exact hs.2 _ (List.getElem_mem hlt))) (epos (by omega) ?_)
    rw [w64 (by omega) (by omega)]
    refine ih (i + 1) _ (by omega) (by simpa using hl) ?_
    exact take_set_succ _ _ rfl (by first | exact hlt | (simp; omega)) (by first | exact hl | simpa using hl) ht (by first | exact (getD_get xs i _ hlt).symm | (simp only [List.getElem_map]; rw [← getD_get xs i _ hlt]; rfl))
theorem laws_toIntSS_e (xs : List (List Int)) (hs : (xs.length ≤ 1048576 ∧ ∀ y ∈ xs, y.length ≤ 1048576)) : Ev (fun k => laws_toIntSS.f k xs) xs := by
  have hn := hs.1
  unfold laws_toIntSS.f
  exact epos (by omega) (epos (by omega) (laws_toIntSS_l xs hs xs.length 0 _ (by omega) (by simp) (by simp)))
/-! laws_toTable -/
theorem laws_toTable_e (a0_0 : Int) (l0_1 : List (List Int)) (l0_2 : List Int) (hl0_1 : (l0_1.length ≤ 1048576 ∧ ∀ y ∈ l0_1, y.length ≤ 1048576)) (hl0_2 : l0_2.length ≤ 1048576) : Ev (fun k => laws_toTable.f k a0_0 l0_1 l0_2) (a0_0, l0_1, l0_2) := by
  unfold laws_toTable.f
  exact ebind (laws_toIntSS_e l0_1 hl0_1) (ebind (laws_toIntS_e l0_2 hl0_2) (enow rfl))
/-! laws_eqIntS -/
theorem laws_eqIntS_lr (xs : List Int) (hs : xs.length ≤ 1048576) : ∀ (d i : Nat), i + d = xs.length → Ev (fun k => laws_eqIntS.l0 k xs xs (i : Int)) true := by
  have hn := hs
  intro d
  induction d with
  | zero =>
    intro i hi
    exact eround (fun k => by rw [laws_eqIntS.l0]) (eneg (by omega) (enow rfl))
  | succ d ih =>
    intro i hi
    have hlt : i < xs.length := by omega
    refine eround (fun k => by rw [laws_eqIntS.l0]) (epos (by omega) (epos (by omega) (epos (by omega) ?_)))
    first | refine epos rfl ?_ | (refine eneg ?_ ?_; focus (simp; done))
    rw [w64 (by omega) (by omega)]
    exact ih (i + 1) (by omega)
theorem laws_eqIntS_r (xs : List Int) (hs : xs.length ≤ 1048576) : Ev (fun k => laws_eqIntS.f k xs xs) true := by
  unfold laws_eqIntS.f
  exact epos rfl (laws_eqIntS_lr xs hs xs.length 0 (by omega))
/-! laws_eqIntSS -/
theorem laws_eqIntSS_lr (xs : List (List Int)) (hs : (xs.length ≤ 1048576 ∧ ∀ y ∈ xs, y.length ≤ 1048576)) : ∀ (d i : Nat), i + d = xs.length → Ev (fun k => laws_eqIntSS.l0 k xs xs (i : Int)) true := by
  have hn := hs.1
  intro d
  induction d with
  | zero =>
    intro i hi
    exact eround (fun k => by rw [laws_eqIntSS.l0]) (eneg (by omega) (enow rfl))
  | succ d ih =>
    intro i hi
    have hlt : i < xs.length := by omega
    refine eround (fun k => by rw [laws_eqIntSS.l0]) (epos (by omega) (epos (by omega) (epos (by omega) ?_)))
    refine ebind (laws_eqIntS_r (xs.getD ((i : Int)).toNat []) (by rw [getD_get xs i _ hlt]; exact hs.2 _ (List.getElem_mem hlt))) (epos rfl ?_)
    rw [w64 (by omega) (by omega)]
    exact ih (i + 1) (by omega)
theorem laws_eqIntSS_r (xs : List (List Int)) (hs : (xs.length ≤ 1048576 ∧ ∀ y ∈ xs, y.length ≤ 1048576)) : Ev (fun k => laws_eqIntSS.f k xs xs) true := by
  unfold laws_eqIntSS.f
  exact epos rfl (laws_eqIntSS_lr xs hs xs.length 0 (by omega))
/-! laws_eqTable -/
theorem laws_eqTable_r (a0_0 : Int) (l0_1 : List (List Int)) (l0_2 : List Int) (hl0_1 : (l0_1.length ≤ 1048576 ∧ ∀ y ∈ l0_1, y.length ≤ 1048576)) (hl0_2 : l0_2.length ≤ 1048576) : Ev (fun k => laws_eqTable.f k a0_0 l0_1 l0_2 a0_0 l0_1 l0_2) true := by
  unfold laws_eqTable.f
  repeat' first
    | exact enow rfl
    | refine epos rfl ?_
    | (refine eneg ?_ ?_; focus (simp; done))
    | refine ebind (laws_eqIntS_r _ (by assumption)) ?_
    | refine ebind (laws_eqIntSS_r _ (by assumption)) ?_
/-! laws_markIntS -/
theorem laws_markIntS_h : ∀ (d i : Nat) (xs : List Int) (m : Int), i + d = xs.length → xs.length ≤ 1048576 → 0 ≤ m → m ≤ 4611686018427387904 - 1 * d → ∃ ys : List Int, ys.length = xs.length ∧ ys.take i = xs.take i ∧
    Ev (fun k => laws_markIntS.l0 k xs m (i : Int)) (m + 1 * d, ys) ∧ Ev (fun k => laws_heldIntS.l0 k ys m (i : Int)) (m + 1 * d) := by
  intro d
  induction d with
  | zero =>
    intro i xs m hi hn h0 h1
    exact ⟨xs, rfl, rfl, eround (fun k => by rw [laws_markIntS.l0]) (eneg (by omega) (enow (by simp))), eround (fun k => by rw [laws_heldIntS.l0]) (eneg (by omega) (enow (by simp)))⟩
  | succ d ih =>
    intro i xs m hi hn h0 h1
    have hlt : i < xs.length := by omega
    have w1 : wrap64 ((i : Int) + 1) = ((i + 1 : Nat) : Int) := by rw [w64 (by omega) (by omega)]; rfl
    have v0 : wrap64 (m + 1) = m + 1 := w64 (by omega) (by omega)
    obtain ⟨ys, hl, ht, hm, hh⟩ := ih (i + 1) (xs.set ((i : Int)).toNat m) (m + 1) (by simp; omega) (by simpa using hn) (by omega) (by push_cast at h1; omega)
    have hlt' : i < ys.length := by rw [hl]; simpa using hlt
    have hy : ys[i] = m := by
      have := congrArg (fun l => l[i]?) ht
      simp only [List.getElem?_take_of_lt (Nat.lt_succ_self i), List.getElem?_eq_getElem hlt'] at this
      rw [show ((i : Int)).toNat = i by simp, List.getElem?_set_self (by simpa using hlt)] at this
      exact Option.some.inj this
    refine ⟨ys, by rw [hl]; simp, ?_, ?_, ?_⟩
    · have := congrArg (List.take i) ht
      rw [List.take_take, List.take_take, Nat.min_eq_left (by omega)] at this
      rw [this]
      simp [List.take_set_of_le]
    · refine eround (fun k => by rw [laws_markIntS.l0]) (epos (by omega) ?_)
      try simp only [w1, v0]
      refine epos (by omega) ?_
      refine enb rfl ?_
      try simp only [w1, v0]
      skip
      rw [show m + 1 * ((d + 1 : Nat) : Int) = m + 1 + 1 * (d : Int) by push_cast; omega]
      simpa using hm
    · refine eround (fun k => by rw [laws_heldIntS.l0]) (epos (by omega) (epos (by omega) ?_))
      have hr : ∀ z, ys.getD ((i : Int)).toNat z = ys[i] := fun z => getD_get ys i z hlt'
      try simp only [w1, v0]
      simp only [rd, rdOf, hr, hy]
      repeat (first | refine epos trivial ?_ | refine epos rfl ?_ | (refine eneg ?_ ?_; focus (simp; done)))
      rw [show m + 1 * ((d + 1 : Nat) : Int) = m + 1 + 1 * (d : Int) by push_cast; omega]
      exact hh
theorem laws_markIntS_m (xs : List Int) (m : Int) (hn : xs.length ≤ 1048576) (h0 : 0 ≤ m) (h1 : m ≤ 4611686018427387904 - 1 * xs.length) : ∃ ys : List Int, ys.length = xs.length ∧ Ev (fun k => laws_markIntS.f k xs m) (m + 1 * xs.length, ys) ∧ Ev (fun k => laws_heldIntS.f k ys m) (m + 1 * xs.length) := by
  obtain ⟨ys, hl, _, h⟩ := laws_markIntS_h xs.length 0 xs m (by omega) hn h0 h1
  exact ⟨ys, hl, h⟩
/-! laws_markIntSS -/
theorem laws_markIntSS_h : ∀ (d i : Nat) (xs : List (List Int)) (m : Int), i + d = xs.length → xs.length ≤ 1048576 → (∀ (j : Nat) (h : j < xs.length), i ≤ j → xs[j].length ≤ 1048576) → 0 ≤ m → m ≤ 4611686018427387904 - 1048576 * d → ∃ (ys : List (List Int)) (t : Int), m ≤ t ∧ t ≤ m + 1048576 * d ∧ ys.length = xs.length ∧ ys.take i = xs.take i ∧ Ev (fun k => laws_markIntSS.l0 k xs m (i : Int)) (t, ys) ∧ Ev (fun k => laws_heldIntSS.l0 k ys m (i : Int)) t := by
  intro d
  induction d with
  | zero =>
    intro i xs m hi hn hs h0 h1
    exact ⟨xs, m, Int.le_refl _, by omega, rfl, rfl, eround (fun k => by rw [laws_markIntSS.l0]) (eneg (by omega) (enow rfl)), eround (fun k => by rw [laws_heldIntSS.l0]) (eneg (by omega) (enow rfl))⟩
  | succ d ih =>
    intro i xs m hi hn hs h0 h1
    have hlt : i < xs.length := by omega
    have w1 : wrap64 ((i : Int) + 1) = ((i + 1 : Nat) : Int) := by rw [w64 (by omega) (by omega)]; rfl
    have hb := hs i hlt (Nat.le_refl _)
    obtain ⟨zs, hz, m1, m2⟩ := laws_markIntS_m xs[i] m hb h0 (by push_cast at h1; omega)
    generalize he : m + 1 * (xs[i].length : Int) = m' at m1 m2
    obtain ⟨ys, t, t0, t1, hl, ht, hm, hh⟩ := ih (i + 1) (xs.set i zs) m' (by simp; omega) (by simpa using hn) (fun j h hj => by rw [List.getElem_set_ne (by omega)]; exact hs j (by simpa using h) (by omega)) (by omega) (by push_cast at h1; omega)
    have hmk : Ev (fun k => laws_markIntSS.l0 k xs m (i : Int)) (t, ys) := by
      refine eround (fun k => by rw [laws_markIntSS.l0]) (epos (by omega) (epos (by omega) ?_))
      rw [show laws_markIntSS.rd xs (i : Int) = xs[i] from getD_get xs i _ hlt]
      refine ebind m1 ?_
      rw [w1]
      exact hm
    have hlt' : i < ys.length := by rw [hl]; simpa using hlt
    have hy : ys[i] = zs := by
      have := congrArg (fun l => l[i]?) ht
      simp only [List.getElem?_take_of_lt (Nat.lt_succ_self i), List.getElem?_eq_getElem hlt'] at this
      rw [List.getElem?_set_self (by simpa using hlt)] at this
      exact Option.some.inj this
    refine ⟨ys, t, by omega, by push_cast; omega, by rw [hl]; simp, ?_, hmk, ?_⟩
    · have := congrArg (List.take i) ht
      rw [List.take_take, List.take_take, Nat.min_eq_left (by omega)] at this
      rw [this]
      simp [List.take_set_of_le]
    · refine eround (fun k => by rw [laws_heldIntSS.l0]) (epos (by omega) (epos (by omega) ?_))
      rw [show rd_L1 ys (i : Int) = ys[i] from getD_get ys i _ hlt', hy]
      refine ebind m2 (eneg (by omega) ?_)
      rw [w1]
      exact hh
theorem laws_markIntSS_m (xs : List (List Int)) (m : Int) (hs : xs.length ≤ 1048576 ∧ ∀ y ∈ xs, y.length ≤ 1048576) (h0 : 0 ≤ m) (h1 : m ≤ 4611686018427387904 - 1048576 * xs.length) : ∃ (ys : List (List Int)) (t : Int), m ≤ t ∧ t ≤ m + 1048576 * xs.length ∧ Ev (fun k => laws_markIntSS.f k xs m) (t, ys) ∧ Ev (fun k => laws_heldIntSS.f k ys m) t := by
  obtain ⟨ys, t, t0, t1, hl, h⟩ := laws_markIntSS_h xs.length 0 xs m (by omega) hs.1 (fun j h _ => hs.2 _ (List.getElem_mem h)) h0 h1
  exact ⟨ys, t, t0, t1, h.2⟩
/-! laws_markTable -/
theorem laws_markTable_m (a0_0 : Int) (l0_1 : List (List Int)) (l0_2 : List Int) (m : Int) (hl0_1 : (l0_1.length ≤ 1048576 ∧ ∀ y ∈ l0_1, y.length ≤ 1048576)) (hl0_2 : l0_2.length ≤ 1048576) (h0 : 0 ≤ m) (h1 : m ≤ 2305843009213693952) : ∃ (yl0_1 : List (List Int)) (yl0_2 : List Int) (t : Int), m ≤ t ∧ t ≤ m + 1099512676352 ∧ Ev (fun k => laws_markTable.f k a0_0 l0_1 l0_2 m) (t, yl0_1, yl0_2) ∧ Ev (fun k => laws_heldTable.f k a0_0 yl0_1 yl0_2 m) t := by
  have ll0_1 := hl0_1.1
  obtain ⟨yl0_1, t0, a0, b0, e0, g0⟩ := laws_markIntSS_m l0_1 m hl0_1 (by omega) (by omega)
  obtain ⟨yl0_2, _, e1, g1⟩ := laws_markIntS_m l0_2 t0 hl0_2 (by omega) (by omega)
  generalize z1 : t0 + 1 * (l0_2.length : Int) = t1 at e1 g1
  refine ⟨yl0_1, yl0_2, t1, by omega, by omega, ?_, ?_⟩
  · unfold laws_markTable.f
    exact ebind e0 (ebind e1 (enow rfl))
  · unfold laws_heldTable.f
    repeat' first
    | exact enow rfl
    | (with_reducible refine ebind g0 ?_)
    | (with_reducible refine ebind g1 ?_)
    | (refine eneg ?_ ?_; focus omega)
def inR (lo hi x : Int) : Bool := decide (x ≥ lo) && decide (x ≤ hi)
theorem inR_iff {lo hi x : Int} : inR lo hi x = true ↔ lo ≤ x ∧ x ≤ hi := by simp [inR]
theorem l1In_eq (a lo hi : Int) : spec_l1In.f a lo hi = some (inR lo hi a) := by
  unfold spec_l1In.f inR
  by_cases h : a ≥ lo <;> simp [h]
theorem l1All_l (xs : List Int) (lo up : Int) (hn : xs.length ≤ 9223372036854775807) : ∀ (d i : Nat), i + d = xs.length → Ev (fun k => spec_l1All.l0 k lo up xs (xs.length : Int) (i : Int)) ((xs.drop i).all (inR lo up)) := by
  intro d
  induction d with
  | zero =>
    intro i hi
    refine eround (fun k => by rw [spec_l1All.l0]) ?_
    refine eneg (by omega) (enow ?_)
    rw [List.drop_eq_nil_of_le (by omega)]; rfl
  | succ d ih =>
    intro i hi
    have hlt : i < xs.length := by omega
    refine eround (fun k => by rw [spec_l1All.l0]) ?_
    refine epos (by omega) (epos (by omega) (epos (by omega) ?_))
    rw [rd_get xs i hlt, List.drop_eq_getElem_cons hlt, List.all_cons]
    refine enb (l1In_eq _ _ _) ?_
    cases h : inR lo up xs[i] with
    | true =>
      refine epos rfl ?_
      rw [w64 (by omega) (by omega)]
      simpa using ih (i + 1) (by omega)
    | false => exact eneg (by simp) (enow (by simp))
theorem l1All_e (xs : List Int) (lo up : Int) (hn : xs.length ≤ 9223372036854775807) : Ev (fun k => spec_l1All.f k xs lo up) (xs.all (inR lo up)) :=
  l1All_l xs lo up hn xs.length 0 (by omega)
theorem within_eq (a lo hi : Int) : impl_within.f a lo hi = some (inR lo hi a) := by
  unfold impl_within.f inR
  by_cases h : a ≥ lo <;> simp [h]
theorem allWithin_l (xs : List Int) (lo up : Int) (hn : xs.length ≤ 9223372036854775807) : ∀ (d i : Nat), i + d = xs.length → Ev (fun k => impl_allWithin.l0 k lo up xs (xs.length : Int) (i : Int)) ((xs.drop i).all (inR lo up)) := by
  intro d
  induction d with
  | zero =>
    intro i hi
    refine eround (fun k => by rw [impl_allWithin.l0]) ?_
    refine eneg (by omega) (enow ?_)
    rw [List.drop_eq_nil_of_le (by omega)]; rfl
  | succ d ih =>
    intro i hi
    have hlt : i < xs.length := by omega
    refine eround (fun k => by rw [impl_allWithin.l0]) ?_
    refine epos (by omega) (epos (by omega) (epos (by omega) ?_))
    rw [rd_get xs i hlt, List.drop_eq_getElem_cons hlt, List.all_cons]
    refine enb (within_eq _ _ _) ?_
    cases h : inR lo up xs[i] with
    | true =>
      refine epos rfl ?_
      rw [w64 (by omega) (by omega)]
      simpa using ih (i + 1) (by omega)
    | false => exact eneg (by simp) (enow (by simp))
theorem allWithin_e (xs : List Int) (lo up : Int) (hn : xs.length ≤ 9223372036854775807) : Ev (fun k => impl_allWithin.f k xs lo up) (xs.all (inR lo up)) :=
  allWithin_l xs lo up hn xs.length 0 (by omega)
/-- all elements, each with its place, from place i on -/
def allI {α : Type} (p : Nat → α → Bool) : Nat → List α → Bool
  | _, [] => true
  | i, x :: xs => p i x && allI p (i + 1) xs
theorem allI_congr {α : Type} {p q : Nat → α → Bool} : ∀ (xs : List α) (i : Nat), (∀ j x, i ≤ j → j < i + xs.length → p j x = q j x) → allI p i xs = allI q i xs
  | [], _, _ => rfl
  | x :: xs, i, h => by
    simp only [allI]
    rw [h i x (Nat.le_refl _) (by simp), allI_congr xs (i + 1) (fun j y h1 h2 => h j y (by omega) (by simp only [List.length_cons]; omega))]
theorem l1Same_l (xs ys : List Int) (hl : xs.length = ys.length) (hn : xs.length ≤ 9223372036854775807) : ∀ (d i : Nat), i + d = xs.length → Ev (fun k => spec_l1Same.l0 k xs ys (xs.length : Int) (i : Int)) (decide (xs.drop i = ys.drop i)) := by
  intro d
  induction d with
  | zero =>
    intro i hi
    refine eround (fun k => by rw [spec_l1Same.l0]) (eneg (by omega) (enow ?_))
    rw [List.drop_eq_nil_of_le (show xs.length ≤ i by omega), List.drop_eq_nil_of_le (show ys.length ≤ i by omega)]; rfl
  | succ d ih =>
    intro i hi
    have hlt : i < xs.length := by omega
    have hlt' : i < ys.length := by omega
    refine eround (fun k => by rw [spec_l1Same.l0]) (epos (by omega) (epos (by omega) (epos (by omega) (epos (by omega) ?_))))
    rw [rd_get xs i hlt, rd_get ys i hlt', List.drop_eq_getElem_cons hlt, List.drop_eq_getElem_cons hlt']
    by_cases h : xs[i] = ys[i]
    · refine epos h ?_
      rw [w64 (by omega) (by omega)]
      simp only [h, List.cons.injEq, true_and]
      exact ih (i + 1) (by omega)
    · exact eneg h (enow (by simp only [List.cons.injEq, h, false_and, decide_false]))
theorem l1Same_e (xs ys : List Int) (hn : xs.length ≤ 9223372036854775807) : Ev (fun k => spec_l1Same.f k xs ys) (decide (xs = ys)) := by
  unfold spec_l1Same.f
  by_cases hl : xs.length = ys.length
  · exact epos (by omega) (l1Same_l xs ys hl hn xs.length 0 (by omega))
  · refine eneg (by omega) (enow ?_)
    have : xs ≠ ys := fun h => hl (by rw [h])
    simp [this]
theorem slEq_l (xs ys : List Int) (hl : xs.length = ys.length) (hn : xs.length ≤ 9223372036854775807) : ∀ (d i : Nat), i + d = xs.length → Ev (fun k => slices_Equal_int_int.l0 k xs ys (xs.length : Int) (i : Int)) (decide (xs.drop i = ys.drop i)) := by
  intro d
  induction d with
  | zero =>
    intro i hi
    refine eround (fun k => by rw [slices_Equal_int_int.l0]) (eneg (by omega) (enow ?_))
    rw [List.drop_eq_nil_of_le (show xs.length ≤ i by omega), List.drop_eq_nil_of_le (show ys.length ≤ i by omega)]; rfl
  | succ d ih =>
    intro i hi
    have hlt : i < xs.length := by omega
    have hlt' : i < ys.length := by omega
    refine eround (fun k => by rw [slices_Equal_int_int.l0]) (epos (by omega) (epos (by omega) (epos (by omega) (epos (by omega) ?_))))
    rw [rd_get xs i hlt, rd_get ys i hlt', List.drop_eq_getElem_cons hlt, List.drop_eq_getElem_cons hlt']
    by_cases h : xs[i] = ys[i]
    · refine epos h ?_
      rw [w64 (by omega) (by omega)]
      simp only [h, List.cons.injEq, true_and]
      exact ih (i + 1) (by omega)
    · exact eneg h (enow (by simp only [List.cons.injEq, h, false_and, decide_false]))
theorem slEq_e (xs ys : List Int) (hn : xs.length ≤ 9223372036854775807) : Ev (fun k => slices_Equal_int_int.f k xs ys) (decide (xs = ys)) := by
  unfold slices_Equal_int_int.f
  by_cases hl : xs.length = ys.length
  · exact epos (by omega) (slEq_l xs ys hl hn xs.length 0 (by omega))
  · refine eneg (by omega) (enow ?_)
    have : xs ≠ ys := fun h => hl (by rw [h])
    simp [this]
def inP (h : Int) (r : List Int) : Bool := decide ((r.length : Int) = 2) && (inR 0 (wrap64 (h - 1)) (rd r 0) && (inR 0 (wrap64 (h - 1)) (rd r 1) && !decide (rd r 0 ≥ rd r 1)))
def newP (ps : List (List Int)) (i : Nat) (r : List Int) : Bool := !((ps.take i).any fun p => decide (p = r))
def endT (h : Int) (ps : List (List Int)) (cs : List Int) : Bool := inR 1 6 h && (decide ((ps.length : Int) ≤ 15) && (decide ((cs.length : Int) = (ps.length : Int)) && cs.all (inR 0 255)))
def goodTb (h : Int) (ps : List (List Int)) (cs : List Int) : Bool := allI (fun i r => inP h r && newP ps i r) 0 ps && endT h ps cs
def smallP (ps : List (List Int)) : Prop := ps.length ≤ 1048576 ∧ ∀ p ∈ ps, p.length ≤ 1048576
theorem specGTb_end (h : Int) (ps : List (List Int)) (cs : List Int) (hc : cs.length ≤ 1048576) : Ev (fun k => ((spec_l1In.f h 1 6).bind fun t111 => (if t111 = true then (if (ps.length : Int) ≤ 15 then (if (cs.length : Int) = (ps.length : Int) then ((spec_l1All.f k cs 0 255).bind fun t112 => (some t112)) else (some false)) else (some false)) else (some false)))) (endT h ps cs) := by
  unfold endT
  refine enb (l1In_eq _ _ _) ?_
  cases h1 : inR 1 6 h with
  | false => exact eneg (by decide) (enow (by simp))
  | true =>
    refine epos rfl ?_
    by_cases h2 : (ps.length : Int) ≤ 15
    · refine epos h2 ?_
      by_cases h3 : (cs.length : Int) = (ps.length : Int)
      · exact epos h3 (ebind (l1All_e cs 0 255 (by omega)) (enow (by simp [h2, h3])))
      · exact eneg h3 (enow (by simp [h3]))
    · exact eneg h2 (enow (by simp [h2]))
theorem specGTb_l1 (h : Int) (ps : List (List Int)) (cs : List Int) (hs : smallP ps) (r : List Int) (hr : r.length ≤ 1048576) (i : Nat) (hi : i ≤ ps.length) (R : Bool) (H : Ev (fun k => spec_GoodTable.l0 k ps (ps.length : Int) (wrap64 ((i : Int) + 1)) h ps cs) R) :
    ∀ (d j : Nat), j + d = i → Ev (fun k => spec_GoodTable.l1 k r ps (ps.length : Int) (i : Int) (ps.take i) ((ps.take i).length : Int) (j : Int) h ps cs) (!(((ps.take i).drop j).any fun p => decide (p = r)) && R) := by
  have hn := hs.1
  have hl : (ps.take i).length = i := by simp; omega
  intro d
  induction d with
  | zero =>
    intro j hj
    refine eround (fun k => by rw [spec_GoodTable.l1]) (eneg (by omega) ?_)
    rw [List.drop_eq_nil_of_le (by omega)]
    simpa using H
  | succ d ih =>
    intro j hj
    have hlt : j < (ps.take i).length := by omega
    refine eround (fun k => by rw [spec_GoodTable.l1]) (epos (by omega) (epos (by omega) (epos (by omega) ?_)))
    rw [show rd_L1 (ps.take i) (j : Int) = (ps.take i)[j] from getD_get _ j _ hlt, List.drop_eq_getElem_cons hlt, List.any_cons]
    refine ebind (l1Same_e _ _ (by omega)) ?_
    generalize (ps.take i)[j] = q
    by_cases e : q = r
    · exact epos (by simp [e]) (enow (by simp [e]))
    · refine eneg (by simpa using fun x : r = q => e x.symm) ?_
      rw [w64 (x := (j : Int) + 1) (by omega) (by omega), decide_eq_false e, Bool.false_or]
      exact ih (j + 1) (by omega)
theorem specGTb_l (h : Int) (ps : List (List Int)) (cs : List Int) (hs : smallP ps) (hc : cs.length ≤ 1048576) : ∀ (d i : Nat), i + d = ps.length → Ev (fun k => spec_GoodTable.l0 k ps (ps.length : Int) (i : Int) h ps cs) (allI (fun i r => inP h r && newP ps i r) i (ps.drop i) && endT h ps cs) := by
  have hn := hs.1
  intro d
  induction d with
  | zero =>
    intro i hi
    refine eround (fun k => by rw [spec_GoodTable.l0]) (eneg (by omega) ?_)
    rw [List.drop_eq_nil_of_le (by omega)]
    exact specGTb_end h ps cs hc
  | succ d ih =>
    intro i hi
    have hlt : i < ps.length := by omega
    refine eround (fun k => by rw [spec_GoodTable.l0]) (epos (by omega) (epos (by omega) (epos (by omega) ?_)))
    rw [show rd_L1 ps (i : Int) = ps[i] from getD_get _ i _ hlt, List.drop_eq_getElem_cons hlt]
    have hr := hs.2 _ (List.getElem_mem hlt)
    generalize ps[i] = r at hr
    have K : ∀ b : Bool, Ev (fun k => spec_GoodTable.j1 k (i : Int) r ps (ps.length : Int) (i : Int) b h ps cs) (!b && (newP ps i r && (allI (fun i r => inP h r && newP ps i r) (i + 1) (ps.drop (i + 1)) && endT h ps cs))) := by
      intro b
      refine eround (fun k => by rw [spec_GoodTable.j1]) ?_
      cases b with
      | true => exact epos rfl (enow rfl)
      | false =>
        refine eneg (by decide) (epos (by omega) (epos (by omega) (enb rfl ?_)))
        have := specGTb_l1 h ps cs hs r hr i (by omega) _ (by rw [w64 (by omega) (by omega)]; exact ih (i + 1) (by omega)) i 0 (by omega)
        exact this
    simp only [allI]
    rw [Bool.and_assoc, Bool.and_assoc]
    unfold inP
    by_cases h1 : (r.length : Int) = 2
    · refine epos h1 (epos (by omega) (enb (l1In_eq _ _ _) ?_))
      cases h2 : inR 0 (wrap64 (h - 1)) (rd r 0) with
      | false => refine eneg (by decide) ?_; simpa [h2] using K true
      | true =>
        refine epos rfl (epos (by omega) (enb (l1In_eq _ _ _) ?_))
        cases h3 : inR 0 (wrap64 (h - 1)) (rd r 1) with
        | false => refine eneg (by decide) ?_; simpa [h2, h3] using K true
        | true => refine epos rfl ?_; rw [decide_eq_true h1, Bool.true_and, Bool.true_and, Bool.true_and]; exact K (decide (rd r 0 ≥ rd r 1))
    · refine eneg h1 ?_
      simpa [h1] using K true
theorem specGTb_e (h : Int) (ps : List (List Int)) (cs : List Int) (hs : smallP ps) (hc : cs.length ≤ 1048576) : Ev (fun k => spec_GoodTable.f k h ps cs) (goodTb h ps cs) := specGTb_l h ps cs hs hc ps.length 0 (by omega)
theorem implGTb1_e (p r : List Int) (hn : p.length ≤ 1048576) : Ev (fun k => impl_GoodTable_1.f k p r) (decide (p = r)) := by
  unfold impl_GoodTable_1.f
  exact ebind (slEq_e p r (by omega)) (enow rfl)
theorem ixP_l (ps : List (List Int)) (hs : smallP ps) (r : List Int) : ∀ (d i : Nat), i + d = ps.length → ∃ x : Int, Ev (fun k => slices_IndexFunc_147_at_126_22.l0 k ps (ps.length : Int) (i : Int) r) x ∧ (x ≥ 0 ↔ (ps.drop i).any (fun p => decide (p = r)) = true) := by
  have hn := hs.1
  intro d
  induction d with
  | zero =>
    intro i hi
    refine ⟨-1, eround (fun k => by rw [slices_IndexFunc_147_at_126_22.l0]) (eneg (by omega) (enow rfl)), ?_⟩
    rw [List.drop_eq_nil_of_le (by omega)]; simp
  | succ d ih =>
    intro i hi
    have hlt : i < ps.length := by omega
    obtain ⟨x, h1, h3⟩ := ih (i + 1) (by omega)
    rw [List.drop_eq_getElem_cons hlt, List.any_cons]
    by_cases e : ps[i] = r
    · refine ⟨(i : Int), eround (fun k => by rw [slices_IndexFunc_147_at_126_22.l0]) (epos (by omega) (epos (by omega) (epos (by omega) ?_))), by simp [e]⟩
      rw [show rd_L1 ps (i : Int) = ps[i] from getD_get _ i _ hlt]
      exact ebind (implGTb1_e _ _ (hs.2 _ (List.getElem_mem hlt))) (epos (by simp [e]) (enow rfl))
    · refine ⟨x, eround (fun k => by rw [slices_IndexFunc_147_at_126_22.l0]) (epos (by omega) (epos (by omega) (epos (by omega) ?_))), by rw [decide_eq_false e, Bool.false_or]; exact h3⟩
      rw [show rd_L1 ps (i : Int) = ps[i] from getD_get _ i _ hlt]
      refine ebind (implGTb1_e _ _ (hs.2 _ (List.getElem_mem hlt))) (eneg (by simp [e]) ?_)
      rw [w64 (by omega) (by omega)]
      exact h1
theorem coP_e (ps : List (List Int)) (hs : smallP ps) (r : List Int) : Ev (fun k => slices_ContainsFunc_125_at_126_22.f k ps r) (ps.any (fun p => decide (p = r))) := by
  obtain ⟨x, h1, h3⟩ := ixP_l ps hs r ps.length 0 (by omega)
  refine ebind (f := fun _ t => some (decide (t ≥ 0))) h1 (enow ?_)
  rw [List.drop_zero] at h3
  cases e : ps.any (fun p => decide (p = r)) with
  | true => rw [e] at h3; simpa using h3
  | false => rw [e] at h3; simpa using h3
theorem smallP_take {ps : List (List Int)} (hs : smallP ps) (i : Nat) : smallP (ps.take i) := ⟨by simp; have := hs.1; omega, fun p hp => hs.2 p (List.mem_of_mem_take hp)⟩
theorem inP_impl (h : Int) (h1 : inR 1 6 h = true) (r : List Int) : inP h r = (decide ((r.length : Int) = 2) && (!decide (rd r 0 < 0) && (!decide (rd r 0 ≥ rd r 1) && !decide (rd r 1 ≥ h)))) := by
  rw [inR_iff] at h1
  unfold inP
  rw [w64 (by omega) (by omega), Bool.eq_iff_iff]
  simp only [Bool.and_eq_true, inR_iff, decide_eq_true_eq, Bool.not_eq_true', decide_eq_false_iff_not]
  omega
theorem implGTb_l (h : Int) (h0 : inR 1 6 h = true) (ps : List (List Int)) (cs : List Int) (hs : smallP ps) : ∀ (d i : Nat), i + d = ps.length → Ev (fun k => impl_GoodTable.l0 k ps (ps.length : Int) (i : Int) h ps cs) (allI (fun i r => inP h r && newP ps i r) i (ps.drop i)) := by
  have hn := hs.1
  intro d
  induction d with
  | zero =>
    intro i hi
    refine eround (fun k => by rw [impl_GoodTable.l0]) (eneg (by omega) (enow ?_))
    rw [List.drop_eq_nil_of_le (by omega)]; rfl
  | succ d ih =>
    intro i hi
    have hlt : i < ps.length := by omega
    refine eround (fun k => by rw [impl_GoodTable.l0]) (epos (by omega) (epos (by omega) (epos (by omega) ?_)))
    rw [show rd_L1 ps (i : Int) = ps[i] from getD_get _ i _ hlt, List.drop_eq_getElem_cons hlt]
    have hr := hs.2 _ (List.getElem_mem hlt)
    generalize ps[i] = r at hr
    have K : ∀ b : Bool, Ev (fun k => impl_GoodTable.j2 k (i : Int) ps (ps.length : Int) (i : Int) b h ps cs r) (!b && (newP ps i r && allI (fun i r => inP h r && newP ps i r) (i + 1) (ps.drop (i + 1)))) := by
      intro b
      refine eround (fun k => by rw [impl_GoodTable.j2]) ?_
      cases b with
      | true => exact epos rfl (enow rfl)
      | false =>
        refine eneg (by decide) (epos (by omega) (epos (by omega) (ebind (coP_e _ (smallP_take hs _) r) ?_)))
        rw [show ((i : Int)).toNat = i by simp, w64 (by omega) (by omega)]
        unfold newP
        cases e : (ps.take i).any (fun p => decide (p = r)) with
        | true => exact epos rfl (enow rfl)
        | false => refine eneg (by decide) ?_; simpa [newP] using ih (i + 1) (by omega)
    simp only [allI]
    rw [Bool.and_assoc, inP_impl h h0]
    by_cases h1 : (r.length : Int) = 2
    · refine epos h1 (epos (by omega) ?_)
      by_cases h2 : rd r 0 < 0
      · refine epos h2 ?_; simpa [h2] using K true
      · refine eneg h2 (epos (by omega) ?_)
        by_cases h3 : rd r 0 ≥ rd r 1
        · refine epos h3 ?_; simpa [h3] using K true
        · refine eneg h3 ?_; simpa [h1, h2, h3] using K (decide (rd r 1 ≥ h))
    · refine eneg h1 ?_
      simpa [h1] using K true
theorem implGTb_e (h : Int) (ps : List (List Int)) (cs : List Int) (hs : smallP ps) (hc : cs.length ≤ 1048576) : Ev (fun k => impl_GoodTable.f k h ps cs) (goodTb h ps cs) := by
  unfold impl_GoodTable.f goodTb endT
  have J : ∀ b, inR 1 6 h = true ∨ b = true → Ev (fun k => impl_GoodTable.j0 k b h ps cs) (!b && allI (fun i r => inP h r && newP ps i r) 0 ps) := by
    intro b hb
    refine eround (fun k => by rw [impl_GoodTable.j0]) ?_
    cases b with
    | true => exact epos rfl (enow rfl)
    | false => exact eneg (by decide) (by simpa using implGTb_l h (by simpa using hb) ps cs hs ps.length 0 (by omega))
  refine enb (within_eq _ _ _) ?_
  cases h1 : inR 1 6 h with
  | false => refine eneg (by decide) ?_; simpa using J true (Or.inr rfl)
  | true =>
    refine epos rfl ?_
    by_cases h2 : (ps.length : Int) > 15
    · refine epos h2 ?_
      have : ¬ (ps.length : Int) ≤ 15 := by omega
      simpa [this] using J true (Or.inr rfl)
    · refine eneg h2 ?_
      have : (ps.length : Int) ≤ 15 := by omega
      by_cases h3 : (cs.length : Int) = (ps.length : Int)
      · refine epos h3 (ebind (allWithin_e cs 0 255 (by omega)) ?_)
        have := J (!cs.all (inR 0 255)) (Or.inl h1)
        simpa [h3, ‹(ps.length : Int) ≤ 15›, Bool.and_comm] using this
      · refine eneg h3 ?_
        simpa [h3] using J true (Or.inr rfl)
theorem allI_mem {α : Type} {p : Nat → α → Bool} {q : α → Prop} (hq : ∀ i x, p i x = true → q x) : ∀ (xs : List α) (i : Nat), allI p i xs = true → ∀ x ∈ xs, q x
  | [], _, _, x, hx => by simp at hx
  | y :: ys, i, h, x, hx => by
    simp only [allI, Bool.and_eq_true] at h
    rcases List.mem_cons.1 hx with rfl | hx
    · exact hq i _ h.1
    · exact allI_mem hq ys (i + 1) h.2 x hx
theorem goodTb_two {h : Int} {ps : List (List Int)} {cs : List Int} (g : goodTb h ps cs = true) : (∀ r ∈ ps, r.length = 2) ∧ cs.length = ps.length ∧ 1 ≤ h ∧ h ≤ 6 ∧ ps.length ≤ 15 := by
  unfold goodTb endT at g
  simp only [Bool.and_eq_true, decide_eq_true_eq] at g
  have := inR_iff.1 g.2.1
  refine ⟨allI_mem (fun i r hp => ?_) ps 0 g.1, by omega, this.1, this.2, by omega⟩
  simp only [inP, Bool.and_eq_true, decide_eq_true_eq] at hp
  omega
/-! how far the seats are: what the two ways of counting have in common -/
def adj (ps : List (List Int)) (a b : Nat) : Prop := ∃ p ∈ ps, (rd p 0 = (a : Int) ∧ rd p 1 = (b : Int)) ∨ (rd p 0 = (b : Int) ∧ rd p 1 = (a : Int))
theorem adj_symm {ps : List (List Int)} {a b : Nat} (h : adj ps a b) : adj ps b a := by
  obtain ⟨p, hp, h⟩ := h
  exact ⟨p, hp, h.symm⟩
theorem rd_set {f : List Int} {i : Nat} (j : Nat) (x : Int) (hi : i < f.length) : rd (f.set i x) (j : Int) = if i = j then x else rd f (j : Int) := by
  simp only [rd, Int.toNat_natCast, List.getD_eq_getElem?_getD, List.getElem?_set]
  by_cases h : i = j
  · subst h; simp [hi]
  · simp [h]
theorem nodup_len : ∀ (l m : List Nat), l.Nodup → (∀ x ∈ l, x ∈ m) → l.length ≤ m.length
  | [], _, _, _ => Nat.zero_le _
  | x :: l, m, hd, hs => by
    rw [List.nodup_cons] at hd
    have hx := hs x (by simp)
    have := nodup_len l (m.erase x) hd.2 (fun y hy => (List.mem_erase_of_ne (fun e => hd.1 (by rw [← e]; exact hy))).2 (hs y (by simp [hy])))
    rw [List.length_erase_of_mem hx] at this
    have hp := List.length_pos_of_mem hx
    simp only [List.length_cons]; omega
structure Dist (ps : List (List Int)) (h to_ : Nat) (f : List Int) : Prop where
  len : f.length = h
  lo : ∀ v, v < h → -1 ≤ rd f (v : Int)
  p1 : rd f (to_ : Int) = 0
  p2 : ∀ u v, u < h → v < h → adj ps u v → 0 ≤ rd f (u : Int) → 0 ≤ rd f (v : Int) ∧ rd f (v : Int) ≤ rd f (u : Int) + 1
  p3 : ∀ v, v < h → 0 ≤ rd f (v : Int) → v = to_ ∨ ∃ u, u < h ∧ adj ps u v ∧ 0 ≤ rd f (u : Int) ∧ rd f (v : Int) = rd f (u : Int) + 1
theorem Dist.le {ps : List (List Int)} {h to_ : Nat} {f g : List Int} (hf : Dist ps h to_ f) (hg : Dist ps h to_ g) : ∀ (n v : Nat), v < h → rd f (v : Int) = (n : Int) → 0 ≤ rd g (v : Int) ∧ rd g (v : Int) ≤ (n : Int) := by
  intro n
  induction n with
  | zero =>
    intro v hv e
    rcases hf.p3 v hv (by omega) with rfl | ⟨u, _, _, h1, h2⟩
    · have := hg.p1; omega
    · omega
  | succ n ih =>
    intro v hv e
    rcases hf.p3 v hv (by omega) with rfl | ⟨u, hu, ha, h1, h2⟩
    · have := hg.p1; omega
    · have := ih u hu (by omega)
      have := hg.p2 u v hu hv ha this.1
      omega
theorem Dist.eq {ps : List (List Int)} {h to_ : Nat} {f g : List Int} (hf : Dist ps h to_ f) (hg : Dist ps h to_ g) : f = g := by
  apply List.ext_getElem (by rw [hf.len, hg.len])
  intro v h1 h2
  have hv : v < h := by have := hf.len; omega
  rw [← rd_get f v h1, ← rd_get g v h2]
  have a := hf.lo v hv
  have b := hg.lo v hv
  by_cases c : 0 ≤ rd f (v : Int)
  · obtain ⟨n, e⟩ := Int.eq_ofNat_of_zero_le c
    have x := Dist.le hf hg n v hv e
    obtain ⟨m, e2⟩ := Int.eq_ofNat_of_zero_le x.1
    have y := Dist.le hg hf m v hv e2
    omega
  · by_cases d : 0 ≤ rd g (v : Int)
    · obtain ⟨m, e2⟩ := Int.eq_ofNat_of_zero_le d
      have y := Dist.le hg hf m v hv e2
      omega
    · omega
/-! what stays when a seat is met from another one -/
structure Half (ps : List (List Int)) (h to_ : Nat) (f : List Int) : Prop where
  len : f.length = h
  lo : ∀ v, v < h → -1 ≤ rd f (v : Int)
  p1 : rd f (to_ : Int) = 0
  p3 : ∀ v, v < h → 0 ≤ rd f (v : Int) → v = to_ ∨ ∃ u, u < h ∧ adj ps u v ∧ 0 ≤ rd f (u : Int) ∧ rd f (v : Int) = rd f (u : Int) + 1
theorem Half.upd {ps : List (List Int)} {h to_ : Nat} {f : List Int} (H : Half ps h to_ f) {s u : Nat} (hs : s < h) (hu : u < h) (h0 : rd f (s : Int) < 0) (h1 : 0 ≤ rd f (u : Int)) (ha : adj ps u s) : Half ps h to_ (f.set s (rd f (u : Int) + 1)) := by
  have hl := H.len
  have hr : ∀ v : Nat, rd (f.set s (rd f (u : Int) + 1)) (v : Int) = if s = v then rd f (u : Int) + 1 else rd f (v : Int) := fun v => rd_set v _ (by omega)
  refine ⟨by rw [List.length_set]; exact hl, fun v hv => ?_, ?_, fun v hv h2 => ?_⟩
  · rw [hr]; split
    · omega
    · exact H.lo v hv
  · rw [hr, if_neg (fun e => by have := H.p1; rw [← e] at this; omega)]; exact H.p1
  · rw [hr] at h2 ⊢
    by_cases e : s = v
    · subst e
      rw [if_pos rfl]
      exact Or.inr ⟨u, hu, ha, by rw [hr, if_neg (fun e => by rw [← e] at h1; omega)]; exact h1, by rw [hr, if_neg (fun e => by rw [← e] at h1; omega)]⟩
    · rw [if_neg e] at h2 ⊢
      rcases H.p3 v hv h2 with rfl | ⟨x, hx, a1, a2, a3⟩
      · exact Or.inl rfl
      · have hne : s ≠ x := fun e => by rw [← e] at a2; omega
        exact Or.inr ⟨x, hx, a1, by rw [hr, if_neg hne]; exact a2, by rw [hr, if_neg hne]; exact a3⟩
/-! the program: seats in the order in which they are met -/
structure Bfs (ps : List (List Int)) (h to_ : Nat) (f : List Int) (q : List Nat) : Prop extends Half ps h to_ f where
  qlt : ∀ x ∈ q, x < h
  mem : ∀ v, v < h → (0 ≤ rd f (v : Int) ↔ v ∈ q)
  nd : q.Nodup
  mono : ∀ (i j : Nat) (hij : i < j) (hj : j < q.length), rd f ((q[i]'(by omega) : Nat) : Int) ≤ rd f ((q[j] : Nat) : Int)
theorem Bfs.qlen {ps : List (List Int)} {h to_ : Nat} {f : List Int} {q : List Nat} (B : Bfs ps h to_ f q) : q.length ≤ h := by
  have := nodup_len q (List.range h) B.nd (fun x hx => List.mem_range.2 (B.qlt x hx))
  simpa using this
theorem Bfs.upd {ps : List (List Int)} {h to_ : Nat} {f : List Int} {q : List Nat} (B : Bfs ps h to_ f q) {s u : Nat} (hs : s < h) (hu : u < h) (h0 : rd f (s : Int) < 0) (h1 : 0 ≤ rd f (u : Int)) (ha : adj ps u s) (D : ∀ x ∈ q, rd f (x : Int) ≤ rd f (u : Int) + 1) :
    Bfs ps h to_ (f.set s (rd f (u : Int) + 1)) (q ++ [s]) := by
  have hl := B.len
  have hr : ∀ v : Nat, rd (f.set s (rd f (u : Int) + 1)) (v : Int) = if s = v then rd f (u : Int) + 1 else rd f (v : Int) := fun v => rd_set v _ (by omega)
  have hsq : s ∉ q := fun hm => by have := (B.mem s hs).2 hm; omega
  refine ⟨B.toHalf.upd hs hu h0 h1 ha, fun x hx => ?_, fun v hv => ?_, ?_, fun i j hij hj => ?_⟩
  · rcases List.mem_append.1 hx with hx | hx
    · exact B.qlt x hx
    · rw [List.mem_singleton] at hx; omega
  · rw [hr, List.mem_append, List.mem_singleton]
    by_cases e : s = v
    · rw [if_pos e]; exact ⟨fun _ => Or.inr e.symm, fun _ => by omega⟩
    · rw [if_neg e, B.mem v hv]
      exact ⟨Or.inl, fun z => z.elim id (fun z => absurd z.symm e)⟩
  · rw [List.nodup_append]
    refine ⟨B.nd, by simp, fun a ha b hb => ?_⟩
    rw [List.mem_singleton] at hb
    exact fun e => hsq (by rw [← hb, ← e]; exact ha)
  · rw [List.length_append, List.length_singleton] at hj
    have hi : i < q.length := by omega
    rw [List.getElem_append_left hi, hr, if_neg (fun e => hsq (by rw [e]; exact List.getElem_mem hi))]
    by_cases hj2 : j < q.length
    · rw [List.getElem_append_left hj2, hr, if_neg (fun e => hsq (by rw [e]; exact List.getElem_mem hj2))]
      exact B.mono i j hij hj2
    · rw [List.getElem_append_right (by omega)]
      have e : ([s] : List Nat)[j - q.length]'(by simp; omega) = s := by simp
      rw [e, hr, if_pos rfl]
      exact D _ (List.getElem_mem hi)
def castL (q : List Nat) : List Int := q.map (fun (n : Nat) => (n : Int))
theorem castL_len (q : List Nat) : (castL q).length = q.length := by simp [castL]
theorem castL_rd (q : List Nat) (k : Nat) (hk : k < q.length) : rd (castL q) (k : Int) = ((q[k] : Nat) : Int) := by
  rw [rd_get _ k (by rw [castL_len]; exact hk)]; simp [castL]
theorem castL_snoc (q : List Nat) (s : Nat) : castL q ++ [(s : Int)] = castL (q ++ [s]) := by simp [castL]
/-! pairs -/
theorem pairImpl_l (ps : List (List Int)) (hs : smallP ps) (r : List Int) : ∀ (d i : Nat), i + d = ps.length → ∃ x : Int, Ev (fun k => slices_IndexFunc_147_at_155_22.l0 k ps (ps.length : Int) (i : Int) r) x ∧ (x ≥ 0 ↔ (ps.drop i).any (fun p => decide (p = r)) = true) ∧ -1 ≤ x ∧ (x ≥ 0 → ∃ j : Nat, x = (j : Int) ∧ i ≤ j ∧ ∃ hj : j < ps.length, ps[j] = r) ∧ (∀ j (hj : j < ps.length), i ≤ j → ps[j] = r → 0 ≤ x ∧ x ≤ (j : Int)) := by
  have hn := hs.1
  intro d
  induction d with
  | zero =>
    intro i hi
    refine ⟨-1, eround (fun k => by rw [slices_IndexFunc_147_at_155_22.l0]) (eneg (by omega) (enow rfl)), ?_, by omega, by omega, fun j hj h => by omega⟩
    rw [List.drop_eq_nil_of_le (by omega)]; simp
  | succ d ih =>
    intro i hi
    have hlt : i < ps.length := by omega
    obtain ⟨x, h1, h2, h3, h4, h5⟩ := ih (i + 1) (by omega)
    have he : Ev (fun k => impl_Table_pair_1.f k ps[i] r) (decide (ps[i] = r)) := by
      have := implGTb1_e ps[i] r (by have := hs.2 _ (List.getElem_mem hlt); omega)
      exact this
    rw [List.drop_eq_getElem_cons hlt, List.any_cons]
    by_cases e : ps[i] = r
    · refine ⟨(i : Int), eround (fun k => by rw [slices_IndexFunc_147_at_155_22.l0]) (epos (by omega) (epos (by omega) (epos (by omega) ?_))), by simp [e], by omega, fun _ => ⟨i, rfl, Nat.le_refl _, hlt, e⟩, fun j hj h _ => by omega⟩
      rw [show rd_L1 ps (i : Int) = ps[i] from getD_get _ i _ hlt]
      exact ebind he (epos (by simp [e]) (enow rfl))
    · refine ⟨x, eround (fun k => by rw [slices_IndexFunc_147_at_155_22.l0]) (epos (by omega) (epos (by omega) (epos (by omega) ?_))), by simp only [e, decide_false, Bool.false_or]; exact h2, h3, fun hx => ?_, fun j hj h hj2 => ?_⟩
      · rw [show rd_L1 ps (i : Int) = ps[i] from getD_get _ i _ hlt]
        refine ebind he (eneg (by simp [e]) ?_)
        rw [w64 (by omega) (by omega)]
        exact h1
      · obtain ⟨j, q1, q2, q3⟩ := h4 hx
        exact ⟨j, q1, by omega, q3⟩
      · have : i ≠ j := fun e2 => by subst e2; exact e hj2
        exact h5 j hj (by omega) hj2
/-- Good pairs: two seats each, the lesser one first. -/
def goodP (h : Nat) (ps : List (List Int)) : Prop := smallP ps ∧ ∀ p ∈ ps, p.length = 2 ∧ 0 ≤ rd p 0 ∧ rd p 0 < rd p 1 ∧ rd p 1 < (h : Int)
theorem two_eq {p : List Int} (hp : p.length = 2) (a b : Int) : p = [a, b] ↔ rd p 0 = a ∧ rd p 1 = b := by
  match p, hp with
  | [x, y], _ => simp [rd]
theorem pair_is {h : Nat} {ps : List (List Int)} (g : goodP h ps) (a b : Nat) {p : List Int} (hp : p ∈ ps) : p = [mn (a : Int) (b : Int), mx (a : Int) (b : Int)] ↔ (rd p 0 = (a : Int) ∧ rd p 1 = (b : Int)) ∨ (rd p 0 = (b : Int) ∧ rd p 1 = (a : Int)) := by
  obtain ⟨h1, h2, h3, h4⟩ := g.2 p hp
  rw [two_eq h1]
  unfold mn mx
  by_cases c : (a : Int) < (b : Int)
  · simp only [c, if_true]
    omega
  · simp only [c, if_false]
    omega
theorem pairImpl_e {h : Nat} {ps : List (List Int)} (g : goodP h ps) (cs : List Int) (a b : Nat) : ∃ x : Int, Ev (fun k => impl_Table_pair.f k (h : Int) ps cs (a : Int) (b : Int)) x ∧ (x ≥ 0 ↔ adj ps a b) ∧ -1 ≤ x := by
  obtain ⟨x, h1, h2, h3, _⟩ := pairImpl_l ps g.1 [mn (a : Int) (b : Int), mx (a : Int) (b : Int)] ps.length 0 (by omega)
  refine ⟨x, ebind (f := fun _ t => some t) h1 (enow rfl), ?_, h3⟩
  rw [h2, List.drop_zero, List.any_eq_true]
  constructor
  · rintro ⟨p, hp, e⟩
    exact ⟨p, hp, (pair_is g a b hp).1 (of_decide_eq_true e)⟩
  · rintro ⟨p, hp, e⟩
    exact ⟨p, hp, decide_eq_true ((pair_is g a b hp).2 e)⟩
def doneQ (ps : List (List Int)) (h : Nat) (f : List Int) (q : List Nat) (k : Nat) : Prop := ∀ i, i < k → ∀ (hi : i < q.length), ∀ v, v < h → adj ps q[i] v → 0 ≤ rd f (v : Int) ∧ rd f (v : Int) ≤ rd f ((q[i] : Nat) : Int) + 1
def nearQ (f : List Int) (q : List Nat) (k : Nat) : Prop := ∀ (hk : k < q.length), ∀ x ∈ q, rd f (x : Int) ≤ rd f ((q[k] : Nat) : Int) + 1
theorem Bfs.hi {ps : List (List Int)} {h to_ : Nat} {f : List Int} {q : List Nat} (B : Bfs ps h to_ f q) (k : Nat) (hk : k < q.length) (D : nearQ f q k) (n : Nat) (hd : ∀ x ∈ q, rd f (x : Int) ≤ n) : True := trivial
theorem implFar_l1 {h to_ : Nat} (hh : h ≤ 6) {ps : List (List Int)} (g : goodP h ps) (cs : List Int) (k : Nat)
    (next : ∀ f q, k + 1 ≤ q.length → Bfs ps h to_ f q → (∀ v, v < h → rd f (v : Int) ≤ k + 1) → doneQ ps h f q (k + 1) → nearQ f q (k + 1) → ∃ f', Dist ps h to_ f' ∧ Ev (fun kk => impl_Table_far.l0 kk f (castL q) ((k + 1 : Nat) : Int) (h : Int) ps cs) f') :
    ∀ (d s : Nat) (f : List Int) (q : List Nat), s + d = h → ∀ (hk : k < q.length), Bfs ps h to_ f q → (∀ v, v < h → rd f (v : Int) ≤ k + 1) → rd f ((q[k] : Nat) : Int) ≤ k → doneQ ps h f q k → nearQ f q k → (∀ v, v < s → adj ps q[k] v → 0 ≤ rd f (v : Int)) →
    ∃ f', Dist ps h to_ f' ∧ Ev (fun kk => impl_Table_far.l1 kk f (castL q) (k : Int) (h : Int) (s : Int) (h : Int) ps cs) f' := by
  intro d
  induction d with
  | zero =>
    intro s f q hs hk B hhi huk C D E
    obtain ⟨f', h1, h2⟩ := next f q hk B hhi (fun i hi hi2 v hv ha => by
      by_cases e : i < k
      · exact C i e hi2 v hv ha
      · obtain rfl : i = k := by omega
        have h0 := E v (by omega) ha
        exact ⟨h0, D hk v ((B.mem v hv).1 h0)⟩) (fun hk2 x hx => by
      have := D hk x hx
      have := B.mono k (k + 1) (by omega) hk2
      omega)
    refine ⟨f', h1, eround (fun k => by rw [impl_Table_far.l1]) (eneg (by omega) ?_)⟩
    have := B.qlen
    rw [w64 (by omega) (by omega)]
    exact h2
  | succ d ih =>
    intro s f q hs hk B hhi huk C D E
    have hql := B.qlen
    have hlen := B.len
    have hsl : s < h := by omega
    have hu := B.qlt q[k] (List.getElem_mem hk)
    have hu0 := (B.mem q[k] hu).2 (List.getElem_mem hk)
    have w1 : wrap64 ((s : Int) + 1) = ((s + 1 : Nat) : Int) := by rw [w64 (by omega) (by omega)]; omega
    by_cases c : rd f (s : Int) < 0
    · obtain ⟨x, e1, e2, e3⟩ := pairImpl_e g cs s q[k]
      by_cases a : adj ps s q[k]
      · have B' := B.upd hsl hu c hu0 (adj_symm a) (D hk)
        have hsq : s ∉ q := fun hm => by have := (B.mem s hsl).2 hm; omega
        have hr : ∀ v : Nat, rd (f.set s (rd f ((q[k] : Nat) : Int) + 1)) (v : Int) = if s = v then rd f ((q[k] : Nat) : Int) + 1 else rd f (v : Int) := fun v => rd_set v _ (by omega)
        have hrq : ∀ i (hi : i < q.length), rd (f.set s (rd f ((q[k] : Nat) : Int) + 1)) ((q[i] : Nat) : Int) = rd f ((q[i] : Nat) : Int) := fun i hi => by rw [hr, if_neg (fun e => hsq (by rw [e]; exact List.getElem_mem hi))]
        have hq' : ∀ i (hi : i < q.length), (q ++ [s])[i]'(by simp; omega) = q[i] := fun i hi => List.getElem_append_left hi
        obtain ⟨f', h1, h2⟩ := ih (s + 1) _ (q ++ [s]) (by omega) (by simp; omega) B' (fun v hv => by rw [hr]; split; omega; exact hhi v hv) (by rw [hq' k hk, hrq k hk]; exact huk)
          (fun i hi hi2 v hv ha => by
            rw [hq' i (by omega)] at ha ⊢
            rw [hrq i (by omega), hr]
            have := C i hi (by omega) v hv ha
            rw [if_neg (fun e => by subst e; omega)]
            exact this)
          (fun hk2 x hx => by
            rw [hq' k hk, hrq k hk, hr]
            by_cases e : s = x
            · rw [if_pos e]; omega
            · rw [if_neg e]
              rcases List.mem_append.1 hx with hx | hx
              · exact D hk x hx
              · rw [List.mem_singleton] at hx; exact absurd hx.symm e)
          (fun v hv ha => by
            rw [hq' k hk] at ha
            rw [hr]
            by_cases e : s = v
            · rw [if_pos e]; omega
            · rw [if_neg e]; exact E v (by omega) ha)
        refine ⟨f', h1, eround (fun k => by rw [impl_Table_far.l1]) (epos (by omega) (epos (by omega) (epos (by omega) (epos c ?_))))⟩
        rw [castL_len, castL_rd q k hk]
        refine epos (by omega) (epos (by omega) ?_)
        refine ebind e1 ?_
        refine epos (e2.2 a) (epos (by omega) (epos (by omega) (epos (by omega) ?_)))
        rw [w1, castL_snoc, w64 (x := rd f ((q[k] : Nat) : Int) + 1) (by omega) (by omega), Int.toNat_natCast]
        exact h2
      · obtain ⟨f', h1, h2⟩ := ih (s + 1) f q (by omega) hk B hhi huk C D (fun v hv ha => by
          by_cases e : v = s
          · subst e; exact absurd (adj_symm ha) a
          · exact E v (by omega) ha)
        refine ⟨f', h1, eround (fun k => by rw [impl_Table_far.l1]) (epos (by omega) (epos (by omega) (epos (by omega) (epos c ?_))))⟩
        rw [castL_len, castL_rd q k hk]
        refine epos (by omega) (epos (by omega) ?_)
        refine ebind e1 ?_
        refine eneg (fun z => a (e2.1 z)) ?_
        rw [w1]
        exact h2
    · obtain ⟨f', h1, h2⟩ := ih (s + 1) f q (by omega) hk B hhi huk C D (fun v hv ha => by
        by_cases e : v = s
        · subst e; omega
        · exact E v (by omega) ha)
      refine ⟨f', h1, eround (fun k => by rw [impl_Table_far.l1]) (epos (by omega) (epos (by omega) (epos (by omega) (eneg c ?_))))⟩
      rw [w1]
      exact h2
theorem implFar_l0 {h to_ : Nat} (hh : h ≤ 6) {ps : List (List Int)} (g : goodP h ps) (cs : List Int) : ∀ (d k : Nat) (f : List Int) (q : List Nat), h ≤ k + d → k ≤ q.length → Bfs ps h to_ f q → (∀ v, v < h → rd f (v : Int) ≤ k) → doneQ ps h f q k → nearQ f q k →
    ∃ f', Dist ps h to_ f' ∧ Ev (fun kk => impl_Table_far.l0 kk f (castL q) (k : Int) (h : Int) ps cs) f' := by
  intro d
  have fin : ∀ (k : Nat) (f : List Int) (q : List Nat), k = q.length → Bfs ps h to_ f q → doneQ ps h f q k → ∃ f', Dist ps h to_ f' ∧ Ev (fun kk => impl_Table_far.l0 kk f (castL q) (k : Int) (h : Int) ps cs) f' := by
    intro k f q hk B C
    refine ⟨f, ⟨B.len, B.lo, B.p1, fun u v hu hv ha h0 => ?_, B.p3⟩, eround (fun k => by rw [impl_Table_far.l0]) (eneg (by rw [castL_len]; omega) (enow rfl))⟩
    obtain ⟨i, hi, e⟩ := List.getElem_of_mem ((B.mem u hu).1 h0)
    have := C i (by omega) hi v hv (by rw [e]; exact ha)
    rw [e] at this
    exact this
  induction d with
  | zero =>
    intro k f q hd hk B _ C _
    have := B.qlen
    exact fin k f q (by omega) B C
  | succ d ih =>
    intro k f q hd hk B hhi C D
    by_cases c : k < q.length
    · have hql := B.qlen
      have hu := B.qlt q[k] (List.getElem_mem c)
      obtain ⟨f', h1, h2⟩ := implFar_l1 hh g cs k (fun f q hk B hhi C D => ih (k + 1) f q (by omega) hk B (fun v hv => by have := hhi v hv; push_cast; omega) C D) h 0 f q (by omega) c B (fun v hv => by have := hhi v hv; omega) (hhi _ hu) C D (fun v hv => by omega)
      refine ⟨f', h1, eround (fun k => by rw [impl_Table_far.l0]) (epos (by rw [castL_len]; omega) ?_)⟩
      rw [B.len]
      exact h2
    · exact fin k f q (by omega) B C
theorem repl_rd (h : Nat) (v : Nat) (hv : v < h) : rd (List.replicate h (-1 : Int)) (v : Int) = -1 := by
  rw [rd_get _ v (by simp; exact hv)]; simp
theorem first_half {h to_ : Nat} (ht : to_ < h) (ps : List (List Int)) : Half ps h to_ ((List.replicate h (-1 : Int)).set to_ 0) := by
  have hr : ∀ v : Nat, rd ((List.replicate h (-1 : Int)).set to_ 0) (v : Int) = if to_ = v then 0 else rd (List.replicate h (-1 : Int)) (v : Int) := fun v => rd_set v _ (by simp; exact ht)
  refine ⟨by simp, fun v hv => ?_, by rw [hr, if_pos rfl], fun v hv h0 => ?_⟩
  · rw [hr]; split
    · omega
    · rw [repl_rd h v hv]; omega
  · rw [hr] at h0
    by_cases e : to_ = v
    · exact Or.inl e.symm
    · rw [if_neg e, repl_rd h v hv] at h0; omega
theorem first_lt {h to_ : Nat} (ht : to_ < h) (v : Nat) (hv : v < h) : rd ((List.replicate h (-1 : Int)).set to_ 0) (v : Int) = if to_ = v then 0 else -1 := by
  rw [rd_set v _ (by simp; exact ht)]
  split
  · rfl
  · exact repl_rd h v hv
theorem mul_small : ∀ n : Nat, 1 ≤ n → n ≤ 6 → bits_Mul.f 1 (n : Int) = some (0, (n : Int)) := by
  intro n h1 h6
  obtain rfl | rfl | rfl | rfl | rfl | rfl : n = 1 ∨ n = 2 ∨ n = 3 ∨ n = 4 ∨ n = 5 ∨ n = 6 := by omega
  all_goals decide
theorem implFar_e {h to_ : Nat} (h1 : 1 ≤ h) (hh : h ≤ 6) (ht : to_ < h) {ps : List (List Int)} (g : goodP h ps) (cs : List Int) : ∃ f, Dist ps h to_ f ∧ Ev (fun kk => impl_Table_far.f kk (h : Int) ps cs (to_ : Int)) f := by
  have hr := first_lt ht
  have B : Bfs ps h to_ ((List.replicate h (-1 : Int)).set to_ 0) [to_] := by
    refine ⟨first_half ht ps, fun x hx => ?_, fun v hv => ?_, by simp, fun i j hij hj => ?_⟩
    · rw [List.mem_singleton] at hx; omega
    · rw [hr v hv, List.mem_singleton]
      by_cases e : to_ = v
      · simp [e]
      · rw [if_neg e]; exact ⟨fun z => by omega, fun z => absurd z.symm e⟩
    · simp at hj; omega
  obtain ⟨f, d1, d2⟩ := implFar_l0 hh g cs h 0 _ [to_] (by omega) (by simp) B (fun v hv => by rw [hr v hv]; split <;> omega) (fun i hi => by omega) (fun hk x hx => by rw [List.mem_singleton] at hx; subst hx; simp only [List.getElem_cons_zero]; omega)
  refine ⟨f, d1, ?_⟩
  unfold impl_Table_far.f
  refine enb (a := List.replicate h (-1)) ?_ ?_
  · unfold slices_Repeat_int_int.f
    rw [if_pos (by omega), if_pos (by omega), if_pos (by rfl), mul_small h h1 hh]
    simp [rd]
  · refine epos (by omega) (epos (by simp; omega) ?_)
    rw [Int.toNat_natCast]
    exact d2
theorem wsucc {j : Nat} (h : j ≤ 1048576) : wrap64 ((j : Int) + 1) = ((j + 1 : Nat) : Int) := by rw [w64 (by omega) (by omega)]; omega
theorem wsuc {j : Nat} (h : j ≤ 1048576) : wrap64 ((j : Int) + 1) = (j : Int) + 1 := w64 (by omega) (by omega)
structure Lev (ps : List (List Int)) (h to_ : Nat) (f : List Int) (d : Nat) : Prop extends Half ps h to_ f where
  p2 : ∀ u v, u < h → v < h → adj ps u v → 0 ≤ rd f (u : Int) → rd f (u : Int) < d → 0 ≤ rd f (v : Int) ∧ rd f (v : Int) ≤ rd f (u : Int) + 1
theorem Lev.upd {ps : List (List Int)} {h to_ : Nat} {f : List Int} {d : Nat} (L : Lev ps h to_ f d) {s u : Nat} (hs : s < h) (hu : u < h) (h0 : rd f (s : Int) < 0) (h1 : rd f (u : Int) = d) (ha : adj ps u s) : Lev ps h to_ (f.set s ((d : Int) + 1)) d := by
  have hl := L.len
  have hr : ∀ v : Nat, rd (f.set s ((d : Int) + 1)) (v : Int) = if s = v then (d : Int) + 1 else rd f (v : Int) := fun v => rd_set v _ (by omega)
  have H := L.toHalf.upd hs hu h0 (by omega) ha
  rw [h1] at H
  refine ⟨H, fun x y hx hy hxy h2 h3 => ?_⟩
  have hne : s ≠ x := fun e => by rw [hr, if_pos e] at h3; omega
  rw [hr x, if_neg hne] at h2 h3
  rw [hr x, hr y, if_neg hne]
  have := L.p2 x y hx hy hxy h2 h3
  have hne2 : s ≠ y := fun e => by rw [← e] at this; omega
  rw [if_neg hne2]
  exact this
/-- One pair of a round: what it does to the numbers. -/
def stepF (d : Int) (a b : Nat) (f : List Int) : List Int := if rd f (a : Int) = d ∧ rd f (b : Int) < 0 then f.set b (d + 1) else if rd f (b : Int) = d ∧ rd f (a : Int) < 0 then f.set a (d + 1) else f
def edgeOk (f : List Int) (d : Nat) (p : List Int) : Prop := (rd f (rd p 0) = (d : Int) → 0 ≤ rd f (rd p 1)) ∧ (rd f (rd p 1) = (d : Int) → 0 ≤ rd f (rd p 0))
theorem edge_upd {h : Nat} {f : List Int} {d s : Nat} (hl : f.length = h) (hs : s < h) (h0 : rd f (s : Int) < 0) {p : List Int} {a b : Nat} (ha : rd p 0 = (a : Int)) (hb : rd p 1 = (b : Int)) (E : edgeOk f d p) : edgeOk (f.set s ((d : Int) + 1)) d p := by
  have hr : ∀ v : Nat, rd (f.set s ((d : Int) + 1)) (v : Int) = if s = v then (d : Int) + 1 else rd f (v : Int) := fun v => rd_set v _ (by omega)
  unfold edgeOk at E ⊢
  rw [ha, hb] at E ⊢
  rw [hr, hr]
  constructor
  · intro z
    split
    · omega
    · refine E.1 ?_
      split at z
      · omega
      · exact z
  · intro z
    split
    · omega
    · refine E.2 ?_
      split at z
      · omega
      · exact z
theorem stepF_ok {ps : List (List Int)} {h to_ : Nat} {f : List Int} {d : Nat} (g : goodP h ps) (L : Lev ps h to_ f d) (hi : ∀ v, v < h → rd f (v : Int) ≤ (d : Int) + 1) {p : List Int} (hp : p ∈ ps) {a b : Nat} (ha : rd p 0 = (a : Int)) (hb : rd p 1 = (b : Int)) :
    Lev ps h to_ (stepF d a b f) d ∧ (∀ v, v < h → rd (stepF d a b f) (v : Int) ≤ (d : Int) + 1) ∧ edgeOk (stepF d a b f) d p ∧ (∀ p', (∃ a b : Nat, rd p' 0 = (a : Int) ∧ rd p' 1 = (b : Int)) → edgeOk f d p' → edgeOk (stepF d a b f) d p') := by
  obtain ⟨_, g1, g2, g3⟩ := g.2 p hp
  have hl := L.len
  have hah : a < h := by omega
  have hbh : b < h := by omega
  have hab : a ≠ b := by omega
  unfold stepF
  split
  · rename_i c
    have hr : ∀ v : Nat, rd (f.set b ((d : Int) + 1)) (v : Int) = if b = v then (d : Int) + 1 else rd f (v : Int) := fun v => rd_set v _ (by omega)
    refine ⟨L.upd hbh hah c.2 c.1 ⟨p, hp, Or.inl ⟨ha, hb⟩⟩, fun v hv => ?_, ?_, fun p' ⟨x, y, hx, hy⟩ E => edge_upd hl hbh c.2 hx hy E⟩
    · rw [hr]; split
      · omega
      · exact hi v hv
    · unfold edgeOk
      rw [ha, hb, hr, hr, if_pos rfl, if_neg (fun e => hab e.symm)]
      exact ⟨fun _ => by omega, fun z => by omega⟩
  · rename_i c
    split
    · rename_i c2
      have hr : ∀ v : Nat, rd (f.set a ((d : Int) + 1)) (v : Int) = if a = v then (d : Int) + 1 else rd f (v : Int) := fun v => rd_set v _ (by omega)
      refine ⟨L.upd hah hbh c2.2 c2.1 ⟨p, hp, Or.inr ⟨ha, hb⟩⟩, fun v hv => ?_, ?_, fun p' ⟨x, y, hx, hy⟩ E => edge_upd hl hah c2.2 hx hy E⟩
      · rw [hr]; split
        · omega
        · exact hi v hv
      · unfold edgeOk
        rw [ha, hb, hr, hr, if_pos rfl, if_neg hab]
        exact ⟨fun z => by omega, fun z => by omega⟩
    · rename_i c2
      refine ⟨L, hi, ?_, fun p' _ E => E⟩
      unfold edgeOk
      rw [ha, hb]
      exact ⟨fun z => Int.not_lt.1 (fun z2 => c ⟨z, z2⟩), fun z => Int.not_lt.1 (fun z2 => c2 ⟨z, z2⟩)⟩
theorem specFar_l2 {h to_ : Nat} (hh : h ≤ 6) {ps : List (List Int)} (g : goodP h ps) (cs : List Int) (d : Nat) (hd : d < h)
    (next : ∀ f, Lev ps h to_ f d → (∀ v, v < h → rd f (v : Int) ≤ (d : Int) + 1) → (∀ p ∈ ps, edgeOk f d p) → ∃ f', Dist ps h to_ f' ∧ Ev (fun kk => spec_l15Far.l1 kk f ((d + 1 : Nat) : Int) (h : Int) ps cs) f') :
    ∀ (m j : Nat) (f : List Int), j + m = ps.length → Lev ps h to_ f d → (∀ v, v < h → rd f (v : Int) ≤ (d : Int) + 1) → (∀ p ∈ ps.take j, edgeOk f d p) →
    ∃ f', Dist ps h to_ f' ∧ Ev (fun kk => spec_l15Far.l2 kk f (d : Int) ps (ps.length : Int) (j : Int) (h : Int) ps cs) f' := by
  have hn := g.1.1
  intro m
  induction m with
  | zero =>
    intro j f hj L hi E
    rw [List.take_of_length_le (by omega)] at E
    obtain ⟨f', h1, h2⟩ := next f L hi E
    refine ⟨f', h1, eround (fun k => by rw [spec_l15Far.l2]) (eneg (by omega) ?_)⟩
    rw [w64 (by omega) (by omega)]
    exact h2
  | succ m ih =>
    intro j f hj L hi E
    have hlt : j < ps.length := by omega
    have hp := List.getElem_mem hlt
    obtain ⟨g0, g1, g2, g3⟩ := g.2 ps[j] hp
    obtain ⟨a, ha⟩ := Int.eq_ofNat_of_zero_le g1
    obtain ⟨b, hb⟩ := Int.eq_ofNat_of_zero_le (show 0 ≤ rd ps[j] 1 by omega)
    have hl := L.len
    obtain ⟨s1, s2, s3, s4⟩ := stepF_ok g L hi hp ha hb
    obtain ⟨f', h1, h2⟩ := ih (j + 1) (stepF d a b f) (by omega) s1 s2 (fun p hp' => by
      rw [List.take_succ_eq_append_getElem hlt] at hp'
      rcases List.mem_append.1 hp' with hp' | hp'
      · obtain ⟨_, k1, k2, k3⟩ := g.2 p (List.mem_of_mem_take hp')
        obtain ⟨x, hx⟩ := Int.eq_ofNat_of_zero_le k1
        obtain ⟨y, hy⟩ := Int.eq_ofNat_of_zero_le (show 0 ≤ rd p 1 by omega)
        exact s4 p ⟨x, y, hx, hy⟩ (E p hp')
      · rw [List.mem_singleton] at hp'
        rw [hp']; exact s3)
    have hj6 : j ≤ 1048576 := by omega
    have hd6 : d ≤ 1048576 := by omega
    have hne : rd (f.set b ((d : Int) + 1)) (b : Int) ≠ (d : Int) := by rw [rd_set b _ (by omega), if_pos rfl]; omega
    have b1 : (a : Int) < (f.length : Int) := by omega
    have b2 : (b : Int) < (f.length : Int) := by omega
    have b3 : (0 : Int) ≤ (a : Int) := by omega
    have b4 : (0 : Int) ≤ (b : Int) := by omega
    have b5 : (0 : Int) < (ps[j].length : Int) := by omega
    have b6 : (1 : Int) < (ps[j].length : Int) := by omega
    have b7 : (b : Int) < ((f.set b ((d : Int) + 1)).length : Int) := by rw [List.length_set]; exact b2
    refine ⟨f', h1, eround (fun k => by rw [spec_l15Far.l2]) (epos (by omega) (epos (by omega) (epos (by omega) ?_)))⟩
    rw [show rd_L1 ps (j : Int) = ps[j] from getD_get _ j _ hlt, ha, hb]
    have jf : rd f (a : Int) ≠ (d : Int) ∨ ¬ rd f (b : Int) < 0 → Ev (fun kk => spec_l15Far.j3 kk f (d : Int) ps[j] ps (ps.length : Int) (j : Int) false (h : Int) ps cs) f' := by
      intro c
      have c' : ¬ (rd f (a : Int) = (d : Int) ∧ rd f (b : Int) < 0) := fun z => c.elim (fun z2 => z2 z.1) (fun z2 => z2 z.2)
      refine eround (fun k => by rw [spec_l15Far.j3]) (eneg (by decide) (epos b6 ?_))
      rw [ha, hb]
      refine epos b4 (epos b2 ?_)
      by_cases e1 : rd f (b : Int) = (d : Int)
      · refine epos e1 (epos b5 (epos b3 (epos b1 ?_)))
        by_cases e2 : rd f (a : Int) < 0
        · refine epos e2 ?_
          rw [wsucc hj6, wsuc hd6, Int.toNat_natCast]
          have : stepF d a b f = f.set a ((d : Int) + 1) := by unfold stepF; rw [if_neg c', if_pos ⟨e1, e2⟩]
          rw [← this]; exact h2
        · refine eneg e2 ?_
          rw [wsucc hj6]
          have : stepF d a b f = f := by unfold stepF; rw [if_neg c', if_neg (fun z => e2 z.2)]
          rw [this] at h2; exact h2
      · refine eneg e1 ?_
        rw [wsucc hj6]
        have : stepF d a b f = f := by unfold stepF; rw [if_neg c', if_neg (fun z => e1 z.1)]
        rw [this] at h2; exact h2
    refine epos b5 (epos b3 (epos b1 ?_))
    by_cases e1 : rd f (a : Int) = (d : Int)
    · refine epos e1 (epos b6 (epos b4 (epos b2 ?_)))
      by_cases e2 : rd f (b : Int) < 0
      · refine eround (fun k => by rw [spec_l15Far.j3]) (epos (decide_eq_true e2) (epos b6 ?_))
        rw [ha, hb]
        refine epos b4 (epos b2 ?_)
        refine enb rfl ?_
        rw [wsuc hd6, Int.toNat_natCast]
        refine eneg hne ?_
        rw [wsucc hj6]
        have : stepF d a b f = f.set b ((d : Int) + 1) := by unfold stepF; rw [if_pos ⟨e1, e2⟩]
        rw [← this]; exact h2
      · have := jf (Or.inr e2)
        rw [decide_eq_false e2]
        exact this
    · refine eneg e1 ?_
      exact jf (Or.inl e1)
theorem Half.depth {ps : List (List Int)} {h to_ : Nat} {f : List Int} (H : Half ps h to_ f) : ∀ (n v : Nat), v < h → rd f (v : Int) = (n : Int) → ∀ m, m ≤ n → ∃ x, x < h ∧ rd f (x : Int) = (m : Int) := by
  intro n
  induction n with
  | zero => intro v hv e m hm; exact ⟨v, hv, by rw [e]; omega⟩
  | succ n ih =>
    intro v hv e m hm
    by_cases c : m = n + 1
    · exact ⟨v, hv, by rw [e, c]⟩
    · rcases H.p3 v hv (by omega) with rfl | ⟨u, hu, _, h1, h2⟩
      · have := H.p1; omega
      · exact ih u hu (by omega) m (by omega)
theorem Half.below {ps : List (List Int)} {h to_ : Nat} {f : List Int} (H : Half ps h to_ f) (v : Nat) (hv : v < h) : rd f (v : Int) < (h : Int) := by
  by_cases c : 0 ≤ rd f (v : Int)
  · obtain ⟨n, e⟩ := Int.eq_ofNat_of_zero_le c
    have := nodup_len (List.range (n + 1)) ((List.range h).map (fun (x : Nat) => (rd f (x : Int)).toNat)) List.nodup_range (fun m hm => by
      rw [List.mem_range] at hm
      obtain ⟨x, hx, e2⟩ := H.depth n v hv e m (by omega)
      exact List.mem_map.2 ⟨x, List.mem_range.2 hx, by rw [e2]; simp⟩)
    simp only [List.length_range, List.length_map] at this
    omega
  · omega
theorem specFar_l1 {h to_ : Nat} (hh : h ≤ 6) {ps : List (List Int)} (g : goodP h ps) (cs : List Int) : ∀ (m d : Nat) (f : List Int), d + m = h → Lev ps h to_ f d → (∀ v, v < h → rd f (v : Int) ≤ (d : Int)) → ∃ f', Dist ps h to_ f' ∧ Ev (fun kk => spec_l15Far.l1 kk f (d : Int) (h : Int) ps cs) f' := by
  intro m
  induction m with
  | zero =>
    intro d f hd L hi
    obtain rfl : d = h := by omega
    exact ⟨f, ⟨L.len, L.lo, L.p1, fun u v hu hv ha h0 => L.p2 u v hu hv ha h0 (L.toHalf.below u hu), L.p3⟩, eround (fun k => by rw [spec_l15Far.l1]) (eneg (by omega) (enow rfl))⟩
  | succ m ih =>
    intro d f hd L hi
    obtain ⟨f', h1, h2⟩ := specFar_l2 hh g cs d (by omega) (fun f L hi E => ih (d + 1) f (by omega) ⟨L.toHalf, fun u v hu hv ha h0 hlt => by
      by_cases c : rd f (u : Int) < (d : Int)
      · exact L.p2 u v hu hv ha h0 c
      · have e : rd f (u : Int) = (d : Int) := by push_cast at hlt; omega
        obtain ⟨p, hp, hx⟩ := ha
        have E := E p hp
        unfold edgeOk at E
        have hv2 := hi v hv
        rcases hx with ⟨x1, x2⟩ | ⟨x1, x2⟩
        · rw [x1, x2] at E; exact ⟨E.1 e, by omega⟩
        · rw [x1, x2] at E; exact ⟨E.2 e, by omega⟩⟩ (fun v hv => by have := hi v hv; push_cast; omega)) ps.length 0 f (by omega) L (fun v hv => by have := hi v hv; omega) (fun p hp => by simp at hp)
    refine ⟨f', h1, eround (fun k => by rw [spec_l15Far.l1]) (epos (by omega) ?_)⟩
    exact h2
theorem specFar_l0 {h to_ : Nat} (ht : to_ < h) (hh : h ≤ 6) {ps : List (List Int)} (g : goodP h ps) (cs : List Int) : ∀ (m s : Nat), s + m = h → ∃ f', Dist ps h to_ f' ∧ Ev (fun kk => spec_l15Far.l0 kk (to_ : Int) (List.replicate s (-1)) (s : Int) (h : Int) ps cs) f' := by
  intro m
  induction m with
  | zero =>
    intro s hs
    obtain rfl : s = h := by omega
    have hr := first_lt ht
    obtain ⟨f', h1, h2⟩ := specFar_l1 hh g cs s 0 _ (by omega) ⟨first_half ht ps, fun u v hu hv ha h0 hlt => by omega⟩ (fun v hv => by rw [hr v hv]; split <;> omega)
    refine ⟨f', h1, eround (fun k => by rw [spec_l15Far.l0]) (eneg (by omega) (epos (by omega) (epos (by simp; omega) ?_)))⟩
    rw [Int.toNat_natCast]
    exact h2
  | succ m ih =>
    intro s hs
    obtain ⟨f', h1, h2⟩ := ih (s + 1) (by omega)
    refine ⟨f', h1, eround (fun k => by rw [spec_l15Far.l0]) (epos (by omega) (epos (by simp; omega) ?_))⟩
    rw [w64 (by omega) (by omega), show List.replicate s (-1 : Int) ++ [-1] = List.replicate (s + 1) (-1) by rw [List.replicate_succ']]
    exact h2
theorem far_both {h to_ : Nat} (h1 : 1 ≤ h) (hh : h ≤ 6) (ht : to_ < h) {ps : List (List Int)} (g : goodP h ps) (cs : List Int) : ∃ f, Dist ps h to_ f ∧ Ev (fun kk => impl_Table_far.f kk (h : Int) ps cs (to_ : Int)) f ∧ Ev (fun kk => spec_l15Far.f kk (h : Int) ps cs (to_ : Int)) f := by
  obtain ⟨f, d1, e1⟩ := implFar_e h1 hh ht g cs
  obtain ⟨f2, d2, e2⟩ := specFar_l0 ht hh g cs h 0 (by omega)
  obtain rfl := d1.eq d2
  exact ⟨f, d1, e1, e2⟩
theorem goodP_of {h : Int} {ps : List (List Int)} {cs : List Int} (hs : smallP ps) (g : goodTb h ps cs = true) : ∃ n : Nat, h = (n : Int) ∧ 1 ≤ n ∧ n ≤ 6 ∧ goodP n ps := by
  obtain ⟨_, _, g3, g4, _⟩ := goodTb_two g
  obtain ⟨n, rfl⟩ := Int.eq_ofNat_of_zero_le (show 0 ≤ h by omega)
  refine ⟨n, rfl, by omega, by omega, hs, allI_mem (fun i r hp => ?_) ps 0 (by unfold goodTb at g; simp only [Bool.and_eq_true] at g; exact g.1)⟩
  simp only [inP, Bool.and_eq_true, decide_eq_true_eq, Bool.not_eq_true', decide_eq_false_iff_not] at hp
  rw [w64 (by omega) (by omega), inR_iff, inR_iff] at hp
  omega
/-! the pair of two seats, and the way between two -/
theorem pairSpec_l {h : Nat} {ps : List (List Int)} (g : goodP h ps) (a b : Nat) : ∀ (d i : Nat), i + d = ps.length → ∃ x : Int, Ev (fun k => spec_l15Pair.l0 k (a : Int) (b : Int) ps (ps.length : Int) (i : Int)) x ∧ -1 ≤ x ∧ (x ≥ 0 → ∃ j : Nat, x = (j : Int) ∧ i ≤ j ∧ ∃ hj : j < ps.length, ps[j] = [mn (a : Int) (b : Int), mx (a : Int) (b : Int)]) ∧ (∀ j (hj : j < ps.length), i ≤ j → ps[j] = [mn (a : Int) (b : Int), mx (a : Int) (b : Int)] → 0 ≤ x ∧ x ≤ (j : Int)) := by
  have hn := g.1.1
  intro d
  induction d with
  | zero =>
    intro i hi
    exact ⟨-1, eround (fun k => by rw [spec_l15Pair.l0]) (eneg (by omega) (enow rfl)), by omega, by omega, fun j hj h => by omega⟩
  | succ d ih =>
    intro i hi
    have hlt : i < ps.length := by omega
    obtain ⟨x, h1, h3, h4, h5⟩ := ih (i + 1) (by omega)
    have hl : ps[i].length = 2 := (g.2 _ (List.getElem_mem hlt)).1
    have E := pair_is g a b (List.getElem_mem hlt)
    have er : rd_L1 ps (i : Int) = ps[i] := getD_get _ i _ hlt
    have hw : wrap64 ((i : Int) + 1) = ((i + 1 : Nat) : Int) := wsucc (by omega)
    by_cases e : ps[i] = [mn (a : Int) (b : Int), mx (a : Int) (b : Int)]
    · refine ⟨(i : Int), eround (fun k => by rw [spec_l15Pair.l0]) (epos (by omega) (epos (by omega) (epos (by omega) ?_))), by omega, fun _ => ⟨i, rfl, Nat.le_refl _, hlt, e⟩, fun j hj h _ => by omega⟩
      rw [er]
      refine epos (by omega) ?_
      by_cases c0 : rd ps[i] 0 = (a : Int)
      · refine epos c0 (epos (by omega) ?_)
        by_cases c1 : rd ps[i] 1 = (b : Int)
        · exact epos c1 (enow rfl)
        · have := E.1 e
          refine eneg c1 (epos (by omega) (epos (by omega) (enow rfl)))
      · have := E.1 e
        exact eneg c0 (epos (by omega) (epos (by omega) (epos (by omega) (enow rfl))))
    · have ne : ¬ ((rd ps[i] 0 = (a : Int) ∧ rd ps[i] 1 = (b : Int)) ∨ (rd ps[i] 0 = (b : Int) ∧ rd ps[i] 1 = (a : Int))) := fun h => e (E.2 h)
      refine ⟨x, eround (fun k => by rw [spec_l15Pair.l0]) (epos (by omega) (epos (by omega) (epos (by omega) ?_))), h3, fun hx => ?_, fun j hj h hj2 => ?_⟩
      · rw [er, hw]
        refine epos (by omega) ?_
        by_cases c0 : rd ps[i] 0 = (a : Int)
        · refine epos c0 (epos (by omega) ?_)
          refine eneg (fun c1 => ne (Or.inl ⟨c0, c1⟩)) ?_
          by_cases c2 : rd ps[i] 0 = (b : Int)
          · exact epos c2 (eneg (fun c1 => ne (Or.inr ⟨c2, c1⟩)) h1)
          · exact eneg c2 h1
        · refine eneg c0 ?_
          by_cases c2 : rd ps[i] 0 = (b : Int)
          · exact epos c2 (epos (by omega) (eneg (fun c1 => ne (Or.inr ⟨c2, c1⟩)) h1))
          · exact eneg c2 h1
      · obtain ⟨j, q1, q2, q3⟩ := h4 hx
        exact ⟨j, q1, by omega, q3⟩
      · have : i ≠ j := fun e2 => by subst e2; exact e hj2
        exact h5 j hj (by omega) hj2
theorem pair_both {h : Nat} {ps : List (List Int)} (g : goodP h ps) (cs : List Int) (a b : Nat) : ∃ x : Int, Ev (fun k => impl_Table_pair.f k (h : Int) ps cs (a : Int) (b : Int)) x ∧ Ev (fun k => spec_l15Pair.f k (h : Int) ps cs (a : Int) (b : Int)) x ∧ (x ≥ 0 ↔ adj ps a b) ∧ -1 ≤ x ∧ x < (ps.length : Int) := by
  obtain ⟨x, h1, h2, h3, h4, h5⟩ := pairImpl_l ps g.1 [mn (a : Int) (b : Int), mx (a : Int) (b : Int)] ps.length 0 (by omega)
  obtain ⟨y, k1, k3, k4, k5⟩ := pairSpec_l g a b ps.length 0 (by omega)
  have hxy : x = y := by
    by_cases cx : x ≥ 0
    · obtain ⟨j, q1, _, q3, q4⟩ := h4 cx
      obtain ⟨r1, r2⟩ := k5 j q3 (Nat.zero_le _) q4
      obtain ⟨j2, s1, _, s3, s4⟩ := k4 r1
      have := h5 j2 s3 (Nat.zero_le _) s4
      omega
    · by_cases cy : y ≥ 0
      · obtain ⟨j2, s1, _, s3, s4⟩ := k4 cy
        have := h5 j2 s3 (Nat.zero_le _) s4
        omega
      · omega
  subst hxy
  refine ⟨x, ebind (f := fun _ t => some t) h1 (enow rfl), k1, ?_, h3, ?_⟩
  · rw [h2, List.drop_zero, List.any_eq_true]
    constructor
    · rintro ⟨p, hp, e⟩
      exact ⟨p, hp, (pair_is g a b hp).1 (of_decide_eq_true e)⟩
    · rintro ⟨p, hp, e⟩
      exact ⟨p, hp, decide_eq_true ((pair_is g a b hp).2 e)⟩
  · by_cases cx : x ≥ 0
    · obtain ⟨j, q1, _, q3, q4⟩ := h4 cx
      omega
    · omega
theorem least (P : Nat → Prop) : ∀ (n u : Nat), u ≤ n → P u → ∃ m, m ≤ u ∧ P m ∧ ∀ s, s < m → ¬ P s := by
  intro n
  induction n with
  | zero => intro u hu h; exact ⟨u, Nat.le_refl _, h, fun s hs => by omega⟩
  | succ n ih =>
    intro u hu h
    by_cases c : ∃ s, s < u ∧ P s
    · obtain ⟨s, s1, s2⟩ := c
      obtain ⟨m, m1, m2, m3⟩ := ih s (by omega) s2
      exact ⟨m, by omega, m2, m3⟩
    · exact ⟨u, Nat.le_refl _, h, fun s hs hp => c ⟨s, hs, hp⟩⟩
theorem implWay_l1 {h to_ : Nat} (hh : h ≤ 6) {ps : List (List Int)} (g : goodP h ps) (cs : List Int) {f : List Int} (hf : f.length = h) (a u n : Nat) (ha : a < h) (hu : u < h) (hn : rd f (a : Int) = (n : Int) + 1) (hn6 : n ≤ 6) (h1 : rd f (u : Int) = (n : Int) ∧ adj ps a u) (h2 : ∀ s, s < u → ¬ (rd f (s : Int) = (n : Int) ∧ adj ps a s)) (out : List Int) (ho : out.length ≤ 1000) {x : Int} (hx : Ev (fun k => impl_Table_pair.f k (h : Int) ps cs (a : Int) (u : Int)) x) (hx0 : x ≥ 0) {R : List Int × Bool} (hr : Ev (fun k => impl_Table_way.l0 k (u : Int) (to_ : Int) f (out ++ [x]) (h : Int) ps cs) R) : ∀ d s : Nat, s + d = u → Ev (fun k => impl_Table_way.l1 k (a : Int) (to_ : Int) f out (s : Int) (h : Int) ps cs) R := by
  have hw : wrap64 (rd f (a : Int) - 1) = (n : Int) := by rw [hn, w64 (by omega) (by omega)]; omega
  intro d
  induction d with
  | zero =>
    intro s hs
    obtain rfl : s = u := by omega
    refine eround (fun k => by rw [impl_Table_way.l1]) (epos (by omega) (epos (by omega) (epos (by omega) (epos (by omega) (epos (by rw [hw]; exact h1.1) ?_)))))
    exact ebind hx (eneg (by omega) (ebind hx (epos (by omega) hr)))
  | succ d ih =>
    intro s hs
    refine eround (fun k => by rw [impl_Table_way.l1]) (epos (by omega) (epos (by omega) (epos (by omega) (epos (by omega) ?_))))
    have hi := ih (s + 1) (by omega)
    rw [hw, wsucc (by omega)]
    by_cases c : rd f (s : Int) = (n : Int)
    · refine epos c ?_
      obtain ⟨y, y1, y2, y3⟩ := pairImpl_e g cs a s
      refine ebind y1 (epos ?_ hi)
      have := h2 s (by omega)
      have : ¬ y ≥ 0 := fun q => this ⟨c, y2.1 q⟩
      omega
    · exact eneg c hi
theorem specWay_j2 {h to_ : Nat} {ps : List (List Int)} (cs : List Int) {f : List Int} (a u s : Nat) (b : Bool) (hb : b = false) (out : List Int) (ho : out.length ≤ 1000) {x : Int} (hx : Ev (fun k => spec_l15Pair.f k (h : Int) ps cs (a : Int) (u : Int)) x) {R : List Int × Bool} (hr : Ev (fun k => spec_l15Way.l0 k (u : Int) (to_ : Int) f (out ++ [x]) (h : Int) ps cs) R) : Ev (fun k => spec_l15Way.j2 k (a : Int) (to_ : Int) f out (u : Int) (s : Int) b (h : Int) ps cs) R := by
  subst hb
  refine eround (fun k => by rw [spec_l15Way.j2]) (eneg (by decide) ?_)
  exact ebind hx (epos (by omega) hr)
theorem specWay_l1 {h to_ : Nat} (hh : h ≤ 6) {ps : List (List Int)} (g : goodP h ps) (cs : List Int) {f : List Int} (hf : f.length = h) (a u n : Nat) (ha : a < h) (hu : u < h) (hn : rd f (a : Int) = (n : Int) + 1) (hn6 : n ≤ 6) (h1 : rd f (u : Int) = (n : Int) ∧ adj ps a u) (h2 : ∀ s, s < u → ¬ (rd f (s : Int) = (n : Int) ∧ adj ps a s)) (out : List Int) (ho : out.length ≤ 1000) {x : Int} (hx : Ev (fun k => spec_l15Pair.f k (h : Int) ps cs (a : Int) (u : Int)) x) (hx0 : x ≥ 0) {R : List Int × Bool} (hr : Ev (fun k => spec_l15Way.l0 k (u : Int) (to_ : Int) f (out ++ [x]) (h : Int) ps cs) R) : ∀ d s : Nat, s + d = u → Ev (fun k => spec_l15Way.l1 k (a : Int) (to_ : Int) f out (-1) (s : Int) (h : Int) ps cs) R := by
  have hw : wrap64 (rd f (a : Int) - 1) = (n : Int) := by rw [hn, w64 (by omega) (by omega)]; omega
  intro d
  induction d with
  | zero =>
    intro s hs
    obtain rfl : s = u := by omega
    refine eround (fun k => by rw [spec_l15Way.l1]) (epos (by omega) ?_)
    refine eround (fun k => by rw [spec_l15Way.j2]) (epos (by decide) ?_)
    refine ebind hx (epos hx0 (epos (by omega) (epos (by omega) (epos (by omega) (epos (by omega) (epos (by rw [hw]; exact h1.1) ?_))))))
    rw [wsucc (by omega)]
    refine eround (fun k => by rw [spec_l15Way.l1]) ?_
    by_cases c : ((s + 1 : Nat) : Int) < (h : Int)
    · exact epos c (specWay_j2 cs a s (s + 1) _ (by simp) out ho hx hr)
    · exact eneg c (specWay_j2 cs a s (s + 1) _ rfl out ho hx hr)
  | succ d ih =>
    intro s hs
    refine eround (fun k => by rw [spec_l15Way.l1]) (epos (by omega) ?_)
    refine eround (fun k => by rw [spec_l15Way.j2]) (epos (by decide) ?_)
    have hi := ih (s + 1) (by omega)
    rw [hw, wsucc (by omega)]
    obtain ⟨y, y0, y1, y2, y3, _⟩ := pair_both g cs a s
    refine ebind y1 ?_
    by_cases c2 : y ≥ 0
    · refine epos c2 (epos (by omega) (epos (by omega) (epos (by omega) (epos (by omega) (eneg ?_ hi)))))
      exact fun c => h2 s (by omega) ⟨c, y2.1 c2⟩
    · exact eneg c2 hi
theorem way_both {h to_ : Nat} (hh : h ≤ 6) {ps : List (List Int)} (g : goodP h ps) (cs : List Int) {f : List Int} (D : Dist ps h to_ f) (ht : to_ < h) : ∀ (n a : Nat) (out : List Int), a < h → rd f (a : Int) = (n : Int) → out.length + n ≤ 6 → (∀ y ∈ out, 0 ≤ y ∧ y < (ps.length : Int)) →
    ∃ l : List Int, (l.length ≤ 6 ∧ ∀ y ∈ l, 0 ≤ y ∧ y < (ps.length : Int)) ∧ Ev (fun k => impl_Table_way.l0 k (a : Int) (to_ : Int) f out (h : Int) ps cs) (l, true) ∧ Ev (fun k => spec_l15Way.l0 k (a : Int) (to_ : Int) f out (h : Int) ps cs) (l, true) := by
  intro n
  induction n with
  | zero =>
    intro a out ha hn ho hy
    have e : a = to_ := by
      rcases D.p3 a ha (by omega) with e | ⟨u, _, _, h1, h2⟩
      · exact e
      · omega
    subst e
    exact ⟨out, ⟨by omega, hy⟩, eround (fun k => by rw [impl_Table_way.l0]) (epos rfl (enow rfl)), eround (fun k => by rw [spec_l15Way.l0]) (epos rfl (enow rfl))⟩
  | succ n ih =>
    intro a out ha hn ho hy
    have hne : (a : Int) ≠ (to_ : Int) := fun e => by
      have := D.p1
      rw [← e] at this
      omega
    obtain ⟨u, u1, u2, u3, u4⟩ : ∃ u, u < h ∧ adj ps u a ∧ 0 ≤ rd f (u : Int) ∧ rd f (a : Int) = rd f (u : Int) + 1 := by
      rcases D.p3 a ha (by omega) with e | e
      · exact absurd (by rw [e]) hne
      · exact e
    obtain ⟨m, m1, m2, m3⟩ := least (fun s => rd f (s : Int) = (n : Int) ∧ adj ps a s) u u (Nat.le_refl _) ⟨by omega, adj_symm u2⟩
    obtain ⟨x, x1, x2, x3, x4, x5⟩ := pair_both g cs a m
    have x0 := x3.2 m2.2
    obtain ⟨l, l1, l2, l3⟩ := ih m (out ++ [x]) (by omega) m2.1 (by simp only [List.length_append, List.length_cons, List.length_nil]; omega) (fun y hy2 => by
      rcases List.mem_append.1 hy2 with q | q
      · exact hy y q
      · rw [List.mem_singleton.1 q]; exact ⟨x0, x5⟩)
    have hn' : rd f (a : Int) = (n : Int) + 1 := by omega
    refine ⟨l, l1, eround (fun k => by rw [impl_Table_way.l0]) (eneg hne ?_), eround (fun k => by rw [spec_l15Way.l0]) (eneg hne ?_)⟩
    · exact implWay_l1 hh g cs D.len a m n ha (by omega) hn' (by omega) m2 m3 out (by omega) x1 x0 l2 m 0 (by omega)
    · exact specWay_l1 hh g cs D.len a m n ha (by omega) hn' (by omega) m2 m3 out (by omega) x2 x0 l3 m 0 (by omega)
theorem wayf_both {h a b : Nat} (h1 : 1 ≤ h) (hh : h ≤ 6) (ha : a < h) (hb : b < h) {ps : List (List Int)} (g : goodP h ps) (cs : List Int) : ∃ R : List Int × Bool, (R.1.length ≤ 6 ∧ ∀ y ∈ R.1, 0 ≤ y ∧ y < (ps.length : Int)) ∧ Ev (fun k => impl_Table_way.f k (h : Int) ps cs (a : Int) (b : Int)) R ∧ Ev (fun k => spec_l15Way.f k (h : Int) ps cs (a : Int) (b : Int)) R := by
  obtain ⟨f, D, e1, e2⟩ := far_both h1 hh hb g cs
  unfold impl_Table_way.f spec_l15Way.f
  have hl := D.len
  by_cases c : rd f (a : Int) < 0
  · exact ⟨([], false), by simp, ebind e1 (epos (by omega) (epos (by omega) (epos c (enow rfl)))), ebind e2 (epos (by omega) (epos (by omega) (epos c (enow rfl))))⟩
  · obtain ⟨n, hn⟩ := Int.eq_ofNat_of_zero_le (show 0 ≤ rd f (a : Int) by omega)
    have hd : rd f (a : Int) < (h : Int) := Half.below (ps := ps) (to_ := b) ⟨D.len, D.lo, D.p1, D.p3⟩ a ha
    obtain ⟨l, l1, l2, l3⟩ := way_both hh g cs D hb n a [] ha hn (by simp; omega) (by simp)
    exact ⟨(l, true), l1, ebind e1 (epos (by omega) (epos (by omega) (eneg c l2))), ebind e2 (epos (by omega) (epos (by omega) (eneg c l3)))⟩
theorem way_e (h : Int) (ps : List (List Int)) (cs : List Int) (a b : Int) (hs : smallP ps) (hc : cs.length ≤ 1048576) : ∃ R : List Int × Bool, (R.1.length ≤ 6 ∧ ∀ y ∈ R.1, 0 ≤ y ∧ y < (cs.length : Int)) ∧ Ev (fun k => impl_WayBetween.f k h ps cs a b) R ∧ (∃ t : Bool, Ev (fun k => spec_l15Two.f k h ps cs a b) t ∧ (t = false → R = ([], false)) ∧ (t = true → Ev (fun k => spec_l15Way.f k h ps cs a b) R)) := by
  unfold impl_WayBetween.f spec_l15Two.f
  have e1 := implGTb_e h ps cs hs hc
  have e2 := specGTb_e h ps cs hs hc
  cases g : goodTb h ps cs with
  | false =>
    rw [g] at e1 e2
    exact ⟨([], false), by simp, ebind e1 (eneg (by decide) (enow rfl)), false, ebind e2 (eneg (by decide) (enow rfl)), fun _ => rfl, by simp⟩
  | true =>
    rw [g] at e1 e2
    obtain ⟨n, rfl, n1, n6, gp⟩ := goodP_of hs g
    have hw : wrap64 ((n : Int) - 1) = (n : Int) - 1 := w64 (by omega) (by omega)
    have i1 : ∀ x : Int, Ev (fun (_ : Nat) => impl_Table_isSeat.f (n : Int) ps cs x) (inR 0 ((n : Int) - 1) x) := fun x => by
      unfold impl_Table_isSeat.f
      rw [hw, within_eq]
      exact enow rfl
    cases ca : inR 0 ((n : Int) - 1) a with
    | false =>
      have ia := i1 a
      rw [ca] at ia
      refine ⟨([], false), by simp, ebind e1 (epos rfl (ebind ia (eneg (by decide) (enow rfl)))), false, ebind e2 (epos rfl ?_), fun _ => rfl, by simp⟩
      rw [hw, l1In_eq, ca]
      exact enb rfl (eneg (by decide) (enow rfl))
    | true =>
      have ia := i1 a
      rw [ca] at ia
      cases cb : inR 0 ((n : Int) - 1) b with
      | false =>
        have ib := i1 b
        rw [cb] at ib
        refine ⟨([], false), by simp, ebind e1 (epos rfl (ebind ia (epos rfl (ebind ib (eneg (by decide) (enow rfl)))))), false, ebind e2 (epos rfl ?_), fun _ => rfl, by simp⟩
        rw [hw, l1In_eq, l1In_eq, ca, cb]
        exact enb rfl (epos rfl (enb rfl (enow rfl)))
      | true =>
        have ib := i1 b
        rw [cb] at ib
        rw [inR_iff] at ca cb
        obtain ⟨a', rfl⟩ := Int.eq_ofNat_of_zero_le ca.1
        obtain ⟨b', rfl⟩ := Int.eq_ofNat_of_zero_le cb.1
        obtain ⟨R, r0, r1, r2⟩ := wayf_both (a := a') (b := b') n1 n6 (by omega) (by omega) gp cs
        have hl := (goodTb_two g).2.1
        refine ⟨R, ⟨r0.1, fun y hy => by have := r0.2 y hy; omega⟩, ebind e1 (epos rfl (ebind ia (epos rfl (ebind ib (epos rfl (ebind (f := fun _ t => some (t.1, t.2)) r1 (enow rfl))))))), true, ebind e2 (epos rfl ?_), by simp, fun _ => r2⟩
        rw [hw, l1In_eq, l1In_eq, inR_iff.2 ca, inR_iff.2 cb]
        exact enb rfl (epos rfl (enb rfl (enow rfl)))
/-! other coins: the table copied, the coins of the way's pairs turned -/
def xorL (w : Int) : List Int → List Int → List Int
  | [], cs => cs
  | y :: l, cs => xorL w l (cs.set y.toNat (Go.bits .xor .i64 (rd cs y) w))
theorem xorL_len (w : Int) : ∀ (l cs : List Int), (xorL w l cs).length = cs.length
  | [], _ => rfl
  | y :: l, cs => by rw [xorL, xorL_len w l]; simp
theorem clone_e (l : List Int) (h : l.length ≤ 1048576) : slices_Clone_int_int.f l = some l := by
  unfold slices_Clone_int_int.f
  simp only [Option.bind_some, List.length_nil, List.nil_append]
  rw [if_pos (by omega)]
theorem implOC_l1 (w h : Int) (ps : List (List Int)) (way : List Int) (hw : way.length ≤ 6) : ∀ (d i : Nat) (cs : List Int), i + d = way.length → (∀ y ∈ way, 0 ≤ y ∧ y < (cs.length : Int)) → Ev (fun k => impl_OtherCoins.l1 k w way (way.length : Int) (i : Int) h ps cs) (h, ps, xorL w (way.drop i) cs, true) := by
  intro d
  induction d with
  | zero =>
    intro i cs hi hy
    rw [List.drop_eq_nil_of_le (by omega), xorL]
    exact eround (fun k => by rw [impl_OtherCoins.l1]) (eneg (by omega) (enow rfl))
  | succ d ih =>
    intro i cs hi hy
    have hlt : i < way.length := by omega
    have er : rd way (i : Int) = way[i] := rd_get _ i hlt
    have hq := hy _ (List.getElem_mem hlt)
    rw [List.drop_eq_getElem_cons hlt, xorL]
    refine eround (fun k => by rw [impl_OtherCoins.l1]) (epos (by omega) (epos (by omega) (epos (by omega) (epos (by omega) (epos (by omega) ?_)))))
    rw [er, wsucc (by omega)]
    exact ih (i + 1) _ (by omega) (fun y hy2 => by have := hy y hy2; simp only [List.length_set]; exact this)
theorem specOC_l1 (w h : Int) (ps : List (List Int)) (way : List Int) (hw : way.length ≤ 6) : ∀ (d i : Nat) (cs : List Int), i + d = way.length → (∀ y ∈ way, 0 ≤ y ∧ y < (cs.length : Int)) → Ev (fun k => spec_OtherCoins.l1 k w way (way.length : Int) (i : Int) h ps cs) (h, ps, xorL w (way.drop i) cs, true) := by
  intro d
  induction d with
  | zero =>
    intro i cs hi hy
    rw [List.drop_eq_nil_of_le (by omega), xorL]
    exact eround (fun k => by rw [spec_OtherCoins.l1]) (eneg (by omega) (enow rfl))
  | succ d ih =>
    intro i cs hi hy
    have hlt : i < way.length := by omega
    have er : rd way (i : Int) = way[i] := rd_get _ i hlt
    have hq := hy _ (List.getElem_mem hlt)
    rw [List.drop_eq_getElem_cons hlt, xorL]
    refine eround (fun k => by rw [spec_OtherCoins.l1]) (epos (by omega) (epos (by omega) (epos (by omega) (epos (by omega) (epos (by omega) ?_)))))
    rw [er, wsucc (by omega)]
    exact ih (i + 1) _ (by omega) (fun y hy2 => by have := hy y hy2; simp only [List.length_set]; exact this)
theorem take_snoc (ps : List (List Int)) (i : Nat) (h : i < ps.length) : ps.take i ++ [ps[i]] = ps.take (i + 1) := by
  rw [List.take_succ_eq_append_getElem h]
theorem implOC_l0 (w h : Int) (ps : List (List Int)) (hs : smallP ps) (way cs : List Int) (hw : way.length ≤ 6) (hy : ∀ y ∈ way, 0 ≤ y ∧ y < (cs.length : Int)) : ∀ d i : Nat, i + d = ps.length → Ev (fun k => impl_OtherCoins.l0 k w way cs ps (ps.length : Int) (i : Int) h (ps.take i)) (h, ps, xorL w way cs, true) := by
  have hn := hs.1
  intro d
  induction d with
  | zero =>
    intro i hi
    rw [List.take_of_length_le (by omega)]
    refine eround (fun k => by rw [impl_OtherCoins.l0]) (eneg (by omega) ?_)
    have := implOC_l1 w h ps way hw way.length 0 cs (by omega) hy
    simpa using this
  | succ d ih =>
    intro i hi
    have hlt : i < ps.length := by omega
    have er : rd_L1 ps (i : Int) = ps[i] := getD_get _ i _ hlt
    have hl := hs.2 _ (List.getElem_mem hlt)
    refine eround (fun k => by rw [impl_OtherCoins.l0]) (epos (by omega) (epos (by omega) (epos (by omega) ?_)))
    rw [er]
    refine enb (clone_e _ hl) (epos (by simp only [List.length_take]; omega) ?_)
    rw [wsucc (by omega), take_snoc ps i hlt]
    exact ih (i + 1) (by omega)
theorem specOC_l0 (w h : Int) (ps : List (List Int)) (hs : smallP ps) (way cs : List Int) (hw : way.length ≤ 6) (hy : ∀ y ∈ way, 0 ≤ y ∧ y < (cs.length : Int)) : ∀ d i : Nat, i + d = ps.length → Ev (fun k => spec_OtherCoins.l0 k w way cs ps (ps.length : Int) (i : Int) h (ps.take i)) (h, ps, xorL w way cs, true) := by
  have hn := hs.1
  intro d
  induction d with
  | zero =>
    intro i hi
    rw [List.take_of_length_le (by omega)]
    refine eround (fun k => by rw [spec_OtherCoins.l0]) (eneg (by omega) ?_)
    have := specOC_l1 w h ps way hw way.length 0 cs (by omega) hy
    simpa using this
  | succ d ih =>
    intro i hi
    have hlt : i < ps.length := by omega
    have er : rd_L1 ps (i : Int) = ps[i] := getD_get _ i _ hlt
    have hl := hs.2 _ (List.getElem_mem hlt)
    refine eround (fun k => by rw [spec_OtherCoins.l0]) (epos (by omega) (epos (by omega) (epos (by omega) ?_)))
    rw [er]
    refine enb rfl (epos (by simp only [List.length_nil]; omega) (epos (by simp only [List.length_take]; omega) ?_))
    rw [List.nil_append, wsucc (by omega), take_snoc ps i hlt]
    exact ih (i + 1) (by omega)
theorem other_e (h : Int) (ps : List (List Int)) (cs : List Int) (a b w : Int) (hs : smallP ps) (hc : cs.length ≤ 1048576) : ∃ R : Int × List (List Int) × List Int × Bool, (R.2.1.length ≤ 1048576 ∧ ∀ y ∈ R.2.1, y.length ≤ 1048576) ∧ R.2.2.1.length ≤ 1048576 ∧ Ev (fun k => impl_OtherCoins.f k h ps cs a b w) R ∧ Ev (fun k => spec_OtherCoins.f k h ps cs a b w) R := by
  obtain ⟨R, r0, r1, t, t1, t2, t3⟩ := way_e h ps cs a b hs hc
  unfold impl_OtherCoins.f spec_OtherCoins.f
  have ib : impl_isByte.f w = some (inR 0 255 w) := by unfold impl_isByte.f; rw [within_eq]; rfl
  have sb : spec_l15Byte.f w = some (inR 0 255 w) := by unfold spec_l15Byte.f; rw [l1In_eq]; rfl
  have Z : Ev (fun k => impl_OtherCoins.j0 k w R.1 true h ps cs) ((0, [], [], false) : Int × List (List Int) × List Int × Bool) := eround (fun k => by rw [impl_OtherCoins.j0]) (epos rfl (enow rfl))
  have Z2 : Ev (fun k => spec_OtherCoins.j0 k a b w true h ps cs) ((0, [], [], false) : Int × List (List Int) × List Int × Bool) := eround (fun k => by rw [spec_OtherCoins.j0]) (epos rfl (enow rfl))
  cases ht : t with
  | false =>
    subst ht
    have hR := t2 rfl
    refine ⟨(0, [], [], false), by simp, by simp, ebind r1 (eneg (by rw [hR]; decide) Z), ebind t1 (eneg (by decide) Z2)⟩
  | true =>
    subst ht
    have x := t3 rfl
    cases cw : inR 0 255 w with
    | false =>
      rw [cw] at ib sb
      refine ⟨(0, [], [], false), by simp, by simp, ebind r1 ?_, ebind t1 (epos rfl (enb sb Z2))⟩
      by_cases c : R.2 = true
      · exact epos c (enb ib Z)
      · exact eneg c Z
    | true =>
      rw [cw] at ib sb
      by_cases c : R.2 = true
      · refine ⟨(h, ps, xorL w R.1 cs, true), hs, by rw [xorL_len]; exact hc, ebind r1 (epos c (enb ib ?_)), ebind t1 (epos rfl (enb sb ?_))⟩
        · refine eround (fun k => by rw [impl_OtherCoins.j0]) (eneg (by decide) (enb (clone_e cs hc) ?_))
          exact implOC_l0 w h ps hs R.1 cs r0.1 r0.2 ps.length 0 (by omega)
        · refine eround (fun k => by rw [spec_OtherCoins.j0]) (eneg (by decide) (ebind x (epos c ?_)))
          refine enb rfl (epos (by simp only [List.length_nil]; omega) ?_)
          rw [List.nil_append]
          exact specOC_l0 w h ps hs R.1 cs r0.1 r0.2 ps.length 0 (by omega)
      · refine ⟨(0, [], [], false), by simp, by simp, ebind r1 (eneg c Z), ebind t1 (epos rfl (enb sb ?_))⟩
        exact eround (fun k => by rw [spec_OtherCoins.j0]) (eneg (by decide) (ebind x (eneg c (enow rfl))))
theorem FnExactOtherCoins : laws_FnExactOtherCoins.Pure := by
  intro h ps cs a b c hw _ _ _
  obtain ⟨_, w1, w2⟩ := hw
  apply Ev.rounds
  unfold laws_FnExactOtherCoins.f
  obtain ⟨r, _, r2, r3⟩ := laws_szTable_z h ps cs 1048576 (by omega) (by omega) ⟨w1.1, fun y hy => (w1.2 y hy).1⟩ w2.1
  refine ebind r2 ?_
  by_cases hr : r < 0
  · exact epos hr (enow rfl)
  · refine eneg hr ?_
    obtain ⟨c1, c2⟩ := r3 (by omega)
    have e1 := laws_toTable_e h ps cs c1 c2
    obtain ⟨R, s1, s2, e3, e2⟩ := other_e h ps cs a b c c1 c2
    have e4 := laws_eqTable_r h ps cs c1 c2
    have e5 := laws_eqTable_r R.1 R.2.1 R.2.2.1 s1 s2
    obtain ⟨_, _, t, t0, t1, q1, _⟩ := laws_markTable_m h ps cs 1 c1 c2 (by omega) (by omega)
    obtain ⟨_, _, t', t0', t1', q4, q5⟩ := laws_markTable_m R.1 R.2.1 R.2.2.1 1 s1 s2 (by omega) (by omega)
    repeat' first
      | exact enow rfl
      | (with_reducible refine ebind e1 ?_)
      | (with_reducible refine ebind e2 ?_)
      | (with_reducible refine ebind e3 ?_)
      | (with_reducible refine ebind e4 ?_)
      | (with_reducible refine ebind e5 ?_)
      | (with_reducible refine ebind q1 ?_)
      | (with_reducible refine ebind q4 ?_)
      | (with_reducible refine ebind q5 ?_)
      | (with_reducible refine eround (fun k => laws_FnExactOtherCoins.j0.eq_2 _ _ _ _ _ _ _ _ _ _ _ _ _ _ _ _ _ _ _) ?_)
      | (with_reducible refine eround (fun k => laws_FnExactOtherCoins.j1.eq_2 _ _ _ _ _ _ _ _ _ _ _ _ _ _ _) ?_)
      | (with_reducible refine eround (fun k => laws_FnExactOtherCoins.j2.eq_2 _ _ _ _ _ _) ?_)
      | (with_reducible refine enb rfl ?_)
      | (with_reducible refine epos rfl ?_)
      | (refine eneg ?_ ?_; focus (first | omega | (dsimp only; omega) | (simp; done) | (simp; omega)))

end Go.Proofs.Ytpibdgknmjjolaa.Pure
