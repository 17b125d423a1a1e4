/- The law FnExactPutMix, told over texts, numbers and lists: the program's PutMix and the reference's answer alike, nothing is written into the argument, and the rows of the answer lie apart. No condition. -/
import Derived.Test.YtkgogglnipdcfaaQFnExactPutMixx7
import Derived.Test.YtkgogglnipdcfaaPk
namespace Go.Proofs.Ytkgogglnipdcfaa.Pure
open Go.RowKit Go.Proofs.Ytkgogglnipdcfaa.QFnExactPutMix Go.Proofs.YtkgogglnipdcfaaW.PrintWords Go.Proofs.YtkgogglnipdcfaaW.PrintLast Go.Proofs.YtkgogglnipdcfaaW.PrintMore Go.Proofs.Ytkgogglnipdcfaa
set_option linter.unusedVariables false
set_option linter.unusedSimpArgs false

open Pk
theorem laws_markText_l : ∀ (n : Nat) (m : Int) (x : ByteArray), m ≤ n → (x.size : Int) + m ≤ 4611686018427387904 → 0 ≤ m → ∃ t, Ev (fun k => laws_markText.l0 k m x) t := by
  intro n
  induction n with
  | zero =>
    intro m x h h1 h0
    have : x.size + 1 ≤ 9223372036854775807 := by omega
    exact ⟨_, eround (fun k => by rw [laws_markText.l0]) (eneg (by omega) (epos (by omega) (enow rfl)))⟩
  | succ n ih =>
    intro m x h h1 h0
    by_cases hm : m > 0
    · have hs : ∀ d : Int, (strOfNums [d]).size = 1 := fun d => by simp [strOfNums, ByteArray.size]
      have e : Int.tdiv m 10 = m / 10 := Int.tdiv_eq_ediv_of_nonneg h0
      obtain ⟨t, ht⟩ := ih (m / 10) (strOfNums [(wrap64 (48 + (Int.tmod m 10))) % 256] ++ x) (by omega) (by rw [ByteArray.size_append, hs]; push_cast; omega) (by omega)
      refine ⟨t, eround (fun k => by rw [laws_markText.l0]) (epos hm ?_)⟩
      refine enb rfl ?_
      refine epos (by rw [hs]; omega) ?_
      rw [e, w64 (by omega) (by omega)]
      exact ht
    · have : x.size + 1 ≤ 9223372036854775807 := by omega
      exact ⟨_, eround (fun k => by rw [laws_markText.l0]) (eneg (by omega) (epos (by omega) (enow rfl)))⟩
noncomputable def mtext (m : Int) : ByteArray := theEv ByteArray.empty (fun k => laws_markText.f k m)
theorem laws_markText_m (m : Int) (h0 : 0 ≤ m) (h1 : m ≤ 4611686018427387904) : Ev (fun k => laws_markText.f k m) (mtext m) := by
  have : ∃ t, Ev (fun k => laws_markText.f k m) t := by
    unfold laws_markText.f
    by_cases h : m ≤ 0
    · exact ⟨_, epos h (enow rfl)⟩
    · obtain ⟨t, ht⟩ := laws_markText_l m.toNat m ⟨#[]⟩ (by omega) (by simp [ByteArray.size]; omega) h0
      exact ⟨t, eneg h ht⟩
  obtain ⟨t, ht⟩ := this
  exact theEv_of ht
/-! laws_szStringS -/
theorem laws_szStringS_l (xs : List ByteArray) (hw : xs.length ≤ 9223372036854775807 ∧ ∀ y ∈ xs, y.size ≤ 9223372036854775807) : ∀ (d i : Nat) (m : Int), i + d = xs.length → 0 ≤ m → m ≤ 1048576 → ∃ r, r ≤ m ∧ Ev (fun k => laws_szStringS.l0 k xs m (i : Int)) r ∧ (0 ≤ r → ∀ y ∈ xs.drop i, True) := by
  have hn := hw.1
  intro d
  induction d with
  | zero =>
    intro i m hi h0 h1
    exact ⟨m, Int.le_refl _, eround (fun k => by rw [laws_szStringS.l0]) (eneg (by omega) (enow rfl)), fun _ y hy => by rw [List.drop_eq_nil_of_le (by omega)] at hy; simp at hy⟩
  | succ d ih =>
    intro i m hi h0 h1
    have hlt : i < xs.length := by omega
    have hg : rdOf ByteArray.empty xs (i : Int) = xs[i] := getD_get xs i _ hlt
    have hy := hw.2 _ (List.getElem_mem hlt)
    have t1 : m - (xs[i].size : Int) ≤ m := by omega
    have t3 : 0 ≤ m - (xs[i].size : Int) → True := fun _ => trivial
    generalize hq : m - (xs[i].size : Int) = t at t1 t3
    by_cases ht : t < 0
    · refine ⟨-1, by omega, eround (fun k => by rw [laws_szStringS.l0]) (epos (by omega) (epos (by omega) ?_)), fun h => by omega⟩
      rw [hg]
      rw [w64 (x := m - (xs[i].size : Int)) (by omega) (by omega), hq]
      exact epos ht (enow rfl)
    · obtain ⟨r, r1, r2, r3⟩ := ih (i + 1) t (by omega) (by omega) (by omega)
      refine ⟨r, by omega, eround (fun k => by rw [laws_szStringS.l0]) (epos (by omega) (epos (by omega) ?_)), fun h y hy' => ?_⟩
      · rw [hg, w64 (x := (i : Int) + 1) (by omega) (by omega)]
        rw [w64 (x := m - (xs[i].size : Int)) (by omega) (by omega), hq]
        refine eneg ht ?_
        exact r2
      · rw [List.drop_eq_getElem_cons hlt] at hy'
        rcases List.mem_cons.1 hy' with rfl | hy'
        · exact t3 (by omega)
        · exact r3 h y hy'
theorem laws_szStringS_z (xs : List ByteArray) (m : Int) (h0 : 0 ≤ m) (h1 : m ≤ 1048576) (hw : xs.length ≤ 9223372036854775807 ∧ ∀ y ∈ xs, y.size ≤ 9223372036854775807) : ∃ r, r ≤ m ∧ Ev (fun k => laws_szStringS.f k xs m) r ∧ (0 ≤ r → xs.length ≤ 1048576) := by
  have hn := hw.1
  unfold laws_szStringS.f
  rw [w64 (by omega) (by omega)]
  by_cases h : m - (xs.length : Int) < 0
  · exact ⟨-1, by omega, epos h (enow rfl), fun h => by omega⟩
  · obtain ⟨r, r1, r2, r3⟩ := laws_szStringS_l xs hw xs.length 0 (m - xs.length) (by omega) (by omega) (by omega)
    exact ⟨r, by omega, eneg h r2, fun h => by omega⟩
/-! laws_szIntS -/
theorem laws_szIntS_z (xs : List Int) (m : Int) (h0 : 0 ≤ m) (h1 : m ≤ 1048576) (hw : xs.length ≤ 9223372036854775807) : ∃ r, r ≤ m ∧ laws_szIntS.f xs m = some r ∧ (0 ≤ r → xs.length ≤ 1048576) := by
  unfold laws_szIntS.f
  rw [w64 (by omega) (by omega)]
  by_cases h : m - (xs.length : Int) < 0
  · exact ⟨-1, by omega, if_pos h, fun h => by omega⟩
  · exact ⟨_, by omega, if_neg h, fun _ => by omega⟩
/-! laws_szMix -/
theorem laws_szMix_z (l0_0 : List ByteArray) (a0_1 : Int) (a0_2 : Int) (a0_3 : Int) (l0_4 : List Int) (m : Int) (h0 : 0 ≤ m) (h1 : m ≤ 1048576) (hwl0_0 : l0_0.length ≤ 9223372036854775807 ∧ ∀ y ∈ l0_0, y.size ≤ 9223372036854775807) (hwl0_4 : l0_4.length ≤ 9223372036854775807) : ∃ r, r ≤ m ∧ Ev (fun k => laws_szMix.f k l0_0 a0_1 a0_2 a0_3 l0_4 m) r ∧ (0 ≤ r → (l0_0.length ≤ 1048576) ∧ (l0_4.length ≤ 1048576)) := by
  unfold laws_szMix.f
  obtain ⟨r0, l0, e0, c0⟩ := laws_szStringS_z l0_0 m (by omega) (by omega) hwl0_0
  by_cases z0 : r0 < 0
  · exact ⟨-1, by omega, (ebind e0 (epos z0 (enow rfl))), fun h => by omega⟩
  obtain ⟨r1, l1, e1, c1⟩ := laws_szIntS_z l0_4 r0 (by omega) (by omega) hwl0_4
  by_cases z1 : r1 < 0
  · exact ⟨-1, by omega, (ebind e0 (eneg z0 (enb e1 (epos z1 (enow rfl))))), fun h => by omega⟩
  exact ⟨r1, by omega, (ebind e0 (eneg z0 (enb e1 (eneg z1 (enow rfl))))), fun _ => ⟨c0 (by omega), c1 (by omega)⟩⟩
/-! laws_toIntS -/
theorem laws_toIntS_l (xs : List Int) (hs : xs.length ≤ 1048576) : ∀ (d i : Nat) (acc : List Int), i + d = xs.length → acc.length = xs.length → acc.take i = xs.take i → Ev (fun k => laws_toIntS.l0 k xs acc (i : Int)) xs := by
  have hn := hs
  intro d
  induction d with
  | zero =>
    intro i acc hi hl ht
    refine eround (fun k => by rw [laws_toIntS.l0]) (eneg (by omega) (enow ?_))
    rwa [List.take_of_length_le (by omega), List.take_of_length_le (by first | omega | (simp; omega))] at ht
  | succ d ih =>
    intro i acc hi hl ht
    have hlt : i < xs.length := by omega
    refine eround (fun k => by rw [laws_toIntS.l0]) (epos (by omega) (epos (by omega) ?_))
    refine epos (by omega) ?_
    rw [w64 (by omega) (by omega)]
    refine ih (i + 1) _ (by omega) (by simpa using hl) ?_
    exact take_set_succ _ _ rfl (by first | exact hlt | (simp; omega)) (by first | exact hl | simpa using hl) ht (by first | exact (getD_get xs i _ hlt).symm | (simp only [List.getElem_map]; rw [← getD_get xs i _ hlt]; rfl))
theorem laws_toIntS_e (xs : List Int) (hs : xs.length ≤ 1048576) : Ev (fun k => laws_toIntS.f k xs) xs := by
  have hn := hs
  unfold laws_toIntS.f
  exact epos (by omega) (epos (by omega) (laws_toIntS_l xs hs xs.length 0 _ (by omega) (by simp) (by simp)))
/-! laws_toStringS -/
theorem laws_toStringS_l (xs : List ByteArray) (hs : xs.length ≤ 1048576) : ∀ (d i : Nat) (acc : List ByteArray), i + d = xs.length → acc.length = xs.length → acc.take i = xs.take i → Ev (fun k => laws_toStringS.l0 k xs acc (i : Int)) xs := by
  have hn := hs
  intro d
  induction d with
  | zero =>
    intro i acc hi hl ht
    refine eround (fun k => by rw [laws_toStringS.l0]) (eneg (by omega) (enow ?_))
    rwa [List.take_of_length_le (by omega), List.take_of_length_le (by first | omega | (simp; omega))] at ht
  | succ d ih =>
    intro i acc hi hl ht
    have hlt : i < xs.length := by omega
    refine eround (fun k => by rw [laws_toStringS.l0]) (epos (by omega) (epos (by omega) ?_))
    refine epos (by omega) ?_
    rw [w64 (by omega) (by omega)]
    refine ih (i + 1) _ (by omega) (by simpa using hl) ?_
    exact take_set_succ _ _ rfl (by first | exact hlt | (simp; omega)) (by first | exact hl | simpa using hl) ht (by first | exact (getD_get xs i _ hlt).symm | (simp only [List.getElem_map]; rw [← getD_get xs i _ hlt]; rfl))
theorem laws_toStringS_e (xs : List ByteArray) (hs : xs.length ≤ 1048576) : Ev (fun k => laws_toStringS.f k xs) xs := by
  have hn := hs
  unfold laws_toStringS.f
  exact epos (by omega) (epos (by omega) (laws_toStringS_l xs hs xs.length 0 _ (by omega) (by simp) (by simp)))
/-! laws_toMix -/
theorem laws_toMix_e (l0_0 : List ByteArray) (a0_1 : Int) (a0_2 : Int) (a0_3 : Int) (l0_4 : List Int) (hl0_0 : l0_0.length ≤ 1048576) (hl0_4 : l0_4.length ≤ 1048576) : Ev (fun k => laws_toMix.f k l0_0 a0_1 a0_2 a0_3 l0_4) (l0_0, a0_1, a0_2, a0_3, l0_4) := by
  unfold laws_toMix.f
  exact ebind (laws_toStringS_e l0_0 hl0_0) (ebind (laws_toIntS_e l0_4 hl0_4) (enow rfl))
/-! laws_eqIntS -/
theorem laws_eqIntS_lr (xs : List Int) (hs : xs.length ≤ 1048576) : ∀ (d i : Nat), i + d = xs.length → Ev (fun k => laws_eqIntS.l0 k xs xs (i : Int)) true := by
  have hn := hs
  intro d
  induction d with
  | zero =>
    intro i hi
    exact eround (fun k => by rw [laws_eqIntS.l0]) (eneg (by omega) (enow rfl))
  | succ d ih =>
    intro i hi
    have hlt : i < xs.length := by omega
    refine eround (fun k => by rw [laws_eqIntS.l0]) (epos (by omega) (epos (by omega) (epos (by omega) ?_)))
    first | refine epos rfl ?_ | (refine eneg ?_ ?_; focus (simp; done))
    rw [w64 (by omega) (by omega)]
    exact ih (i + 1) (by omega)
theorem laws_eqIntS_r (xs : List Int) (hs : xs.length ≤ 1048576) : Ev (fun k => laws_eqIntS.f k xs xs) true := by
  unfold laws_eqIntS.f
  exact epos rfl (laws_eqIntS_lr xs hs xs.length 0 (by omega))
/-! laws_eqStringS -/
theorem laws_eqStringS_lr (xs : List ByteArray) (hs : xs.length ≤ 1048576) : ∀ (d i : Nat), i + d = xs.length → Ev (fun k => laws_eqStringS.l0 k xs xs (i : Int)) true := by
  have hn := hs
  intro d
  induction d with
  | zero =>
    intro i hi
    exact eround (fun k => by rw [laws_eqStringS.l0]) (eneg (by omega) (enow rfl))
  | succ d ih =>
    intro i hi
    have hlt : i < xs.length := by omega
    refine eround (fun k => by rw [laws_eqStringS.l0]) (epos (by omega) (epos (by omega) (epos (by omega) ?_)))
    first | refine epos rfl ?_ | (refine eneg ?_ ?_; focus (simp; done))
    rw [w64 (by omega) (by omega)]
    exact ih (i + 1) (by omega)
theorem laws_eqStringS_r (xs : List ByteArray) (hs : xs.length ≤ 1048576) : Ev (fun k => laws_eqStringS.f k xs xs) true := by
  unfold laws_eqStringS.f
  exact epos rfl (laws_eqStringS_lr xs hs xs.length 0 (by omega))
/-! laws_eqMix -/
theorem laws_eqMix_r (l0_0 : List ByteArray) (a0_1 : Int) (a0_2 : Int) (a0_3 : Int) (l0_4 : List Int) (hl0_0 : l0_0.length ≤ 1048576) (hl0_4 : l0_4.length ≤ 1048576) : Ev (fun k => laws_eqMix.f k l0_0 a0_1 a0_2 a0_3 l0_4 l0_0 a0_1 a0_2 a0_3 l0_4) true := by
  unfold laws_eqMix.f
  repeat' first
    | exact enow rfl
    | refine epos rfl ?_
    | (refine eneg ?_ ?_; focus (simp; done))
    | refine ebind (laws_eqIntS_r _ (by assumption)) ?_
    | refine ebind (laws_eqStringS_r _ (by assumption)) ?_
/-! laws_markIntS -/
theorem laws_markIntS_h : ∀ (d i : Nat) (xs : List Int) (m : Int), i + d = xs.length → xs.length ≤ 1048576 → 0 ≤ m → m ≤ 4611686018427387904 - 1 * d → ∃ ys : List Int, ys.length = xs.length ∧ ys.take i = xs.take i ∧
    Ev (fun k => laws_markIntS.l0 k xs m (i : Int)) (m + 1 * d, ys) ∧ Ev (fun k => laws_heldIntS.l0 k ys m (i : Int)) (m + 1 * d) := by
  intro d
  induction d with
  | zero =>
    intro i xs m hi hn h0 h1
    exact ⟨xs, rfl, rfl, eround (fun k => by rw [laws_markIntS.l0]) (eneg (by omega) (enow (by simp))), eround (fun k => by rw [laws_heldIntS.l0]) (eneg (by omega) (enow (by simp)))⟩
  | succ d ih =>
    intro i xs m hi hn h0 h1
    have hlt : i < xs.length := by omega
    have w1 : wrap64 ((i : Int) + 1) = ((i + 1 : Nat) : Int) := by rw [w64 (by omega) (by omega)]; rfl
    have v0 : wrap64 (m + 1) = m + 1 := w64 (by omega) (by omega)
    obtain ⟨ys, hl, ht, hm, hh⟩ := ih (i + 1) (xs.set ((i : Int)).toNat m) (m + 1) (by simp; omega) (by simpa using hn) (by omega) (by push_cast at h1; omega)
    have hlt' : i < ys.length := by rw [hl]; simpa using hlt
    have hy : ys[i] = m := by
      have := congrArg (fun l => l[i]?) ht
      simp only [List.getElem?_take_of_lt (Nat.lt_succ_self i), List.getElem?_eq_getElem hlt'] at this
      rw [show ((i : Int)).toNat = i by simp, List.getElem?_set_self (by simpa using hlt)] at this
      exact Option.some.inj this
    refine ⟨ys, by rw [hl]; simp, ?_, ?_, ?_⟩
    · have := congrArg (List.take i) ht
      rw [List.take_take, List.take_take, Nat.min_eq_left (by omega)] at this
      rw [this]
      simp [List.take_set_of_le]
    · refine eround (fun k => by rw [laws_markIntS.l0]) (epos (by omega) ?_)
      try simp only [w1, v0]
      refine epos (by omega) ?_
      refine enb rfl ?_
      try simp only [w1, v0]
      skip
      rw [show m + 1 * ((d + 1 : Nat) : Int) = m + 1 + 1 * (d : Int) by push_cast; omega]
      simpa using hm
    · refine eround (fun k => by rw [laws_heldIntS.l0]) (epos (by omega) (epos (by omega) ?_))
      have hr : ∀ z, ys.getD ((i : Int)).toNat z = ys[i] := fun z => getD_get ys i z hlt'
      try simp only [w1, v0]
      simp only [rd, rdOf, hr, hy]
      repeat (first | refine epos trivial ?_ | refine epos rfl ?_ | (refine eneg ?_ ?_; focus (simp; done)))
      rw [show m + 1 * ((d + 1 : Nat) : Int) = m + 1 + 1 * (d : Int) by push_cast; omega]
      exact hh
theorem laws_markIntS_m (xs : List Int) (m : Int) (hn : xs.length ≤ 1048576) (h0 : 0 ≤ m) (h1 : m ≤ 4611686018427387904 - 1 * xs.length) : ∃ ys : List Int, ys.length = xs.length ∧ Ev (fun k => laws_markIntS.f k xs m) (m + 1 * xs.length, ys) ∧ Ev (fun k => laws_heldIntS.f k ys m) (m + 1 * xs.length) := by
  obtain ⟨ys, hl, _, h⟩ := laws_markIntS_h xs.length 0 xs m (by omega) hn h0 h1
  exact ⟨ys, hl, h⟩
/-! laws_markStringS -/
theorem laws_markStringS_h : ∀ (d i : Nat) (xs : List ByteArray) (m : Int), i + d = xs.length → xs.length ≤ 1048576 → 0 ≤ m → m ≤ 4611686018427387904 - 1 * d → ∃ ys : List ByteArray, ys.length = xs.length ∧ ys.take i = xs.take i ∧
    Ev (fun k => laws_markStringS.l0 k xs m (i : Int)) (m + 1 * d, ys) ∧ Ev (fun k => laws_heldStringS.l0 k ys m (i : Int)) (m + 1 * d) := by
  intro d
  induction d with
  | zero =>
    intro i xs m hi hn h0 h1
    exact ⟨xs, rfl, rfl, eround (fun k => by rw [laws_markStringS.l0]) (eneg (by omega) (enow (by simp))), eround (fun k => by rw [laws_heldStringS.l0]) (eneg (by omega) (enow (by simp)))⟩
  | succ d ih =>
    intro i xs m hi hn h0 h1
    have hlt : i < xs.length := by omega
    have w1 : wrap64 ((i : Int) + 1) = ((i + 1 : Nat) : Int) := by rw [w64 (by omega) (by omega)]; rfl
    have v0 : wrap64 (m + 1) = m + 1 := w64 (by omega) (by omega)
    obtain ⟨ys, hl, ht, hm, hh⟩ := ih (i + 1) (xs.set ((i : Int)).toNat (mtext m)) (m + 1) (by simp; omega) (by simpa using hn) (by omega) (by push_cast at h1; omega)
    have hlt' : i < ys.length := by rw [hl]; simpa using hlt
    have hy : ys[i] = (mtext m) := by
      have := congrArg (fun l => l[i]?) ht
      simp only [List.getElem?_take_of_lt (Nat.lt_succ_self i), List.getElem?_eq_getElem hlt'] at this
      rw [show ((i : Int)).toNat = i by simp, List.getElem?_set_self (by simpa using hlt)] at this
      exact Option.some.inj this
    refine ⟨ys, by rw [hl]; simp, ?_, ?_, ?_⟩
    · have := congrArg (List.take i) ht
      rw [List.take_take, List.take_take, Nat.min_eq_left (by omega)] at this
      rw [this]
      simp [List.take_set_of_le]
    · refine eround (fun k => by rw [laws_markStringS.l0]) (epos (by omega) ?_)
      try simp only [w1, v0]
      refine ebind (laws_markText_m _ (by omega) (by omega)) ?_
      refine epos (by omega) ?_
      refine enb rfl ?_
      try simp only [w1, v0]
      skip
      rw [show m + 1 * ((d + 1 : Nat) : Int) = m + 1 + 1 * (d : Int) by push_cast; omega]
      simpa using hm
    · refine eround (fun k => by rw [laws_heldStringS.l0]) (epos (by omega) (epos (by omega) ?_))
      have hr : ∀ z, ys.getD ((i : Int)).toNat z = ys[i] := fun z => getD_get ys i z hlt'
      try simp only [w1, v0]
      simp only [rd, rdOf, hr, hy]
      first | ((with_reducible refine ebind (laws_markText_m _ ?_ ?_) ?_); (focus omega); (focus omega)) | (repeat (first | refine epos trivial ?_ | (with_reducible refine epos rfl ?_) | (refine eneg ?_ ?_; focus (simp; done))); (with_reducible refine ebind (laws_markText_m _ ?_ ?_) ?_); (focus omega); (focus omega))
      repeat (first | refine epos trivial ?_ | refine epos rfl ?_ | (refine eneg ?_ ?_; focus (simp; done)))
      rw [show m + 1 * ((d + 1 : Nat) : Int) = m + 1 + 1 * (d : Int) by push_cast; omega]
      exact hh
theorem laws_markStringS_m (xs : List ByteArray) (m : Int) (hn : xs.length ≤ 1048576) (h0 : 0 ≤ m) (h1 : m ≤ 4611686018427387904 - 1 * xs.length) : ∃ ys : List ByteArray, ys.length = xs.length ∧ Ev (fun k => laws_markStringS.f k xs m) (m + 1 * xs.length, ys) ∧ Ev (fun k => laws_heldStringS.f k ys m) (m + 1 * xs.length) := by
  obtain ⟨ys, hl, _, h⟩ := laws_markStringS_h xs.length 0 xs m (by omega) hn h0 h1
  exact ⟨ys, hl, h⟩
/-! laws_markMix -/
theorem laws_markMix_m (l0_0 : List ByteArray) (a0_1 : Int) (a0_2 : Int) (a0_3 : Int) (l0_4 : List Int) (m : Int) (hl0_0 : l0_0.length ≤ 1048576) (hl0_4 : l0_4.length ≤ 1048576) (h0 : 0 ≤ m) (h1 : m ≤ 2305843009213693952) : ∃ (yl0_0 : List ByteArray) (yl0_4 : List Int) (t : Int), m ≤ t ∧ t ≤ m + 2097152 ∧ Ev (fun k => laws_markMix.f k l0_0 a0_1 a0_2 a0_3 l0_4 m) (t, yl0_0, yl0_4) ∧ Ev (fun k => laws_heldMix.f k yl0_0 a0_1 a0_2 a0_3 yl0_4 m) t := by
  
  obtain ⟨yl0_0, _, e0, g0⟩ := laws_markStringS_m l0_0 m hl0_0 (by omega) (by omega)
  generalize z0 : m + 1 * (l0_0.length : Int) = t0 at e0 g0
  obtain ⟨yl0_4, _, e1, g1⟩ := laws_markIntS_m l0_4 t0 hl0_4 (by omega) (by omega)
  generalize z1 : t0 + 1 * (l0_4.length : Int) = t1 at e1 g1
  refine ⟨yl0_0, yl0_4, t1, by omega, by omega, ?_, ?_⟩
  · unfold laws_markMix.f
    exact ebind e0 (ebind e1 (enow rfl))
  · unfold laws_heldMix.f
    repeat' first
    | exact enow rfl
    | (with_reducible refine ebind g0 ?_)
    | (with_reducible refine ebind g1 ?_)
    | (refine eneg ?_ ?_; focus omega)
def inR (lo hi x : Int) : Bool := decide (x ≥ lo) && decide (x ≤ hi)
theorem inR_iff {lo hi x : Int} : inR lo hi x = true ↔ lo ≤ x ∧ x ≤ hi := by simp [inR]
theorem l1In_eq (a lo hi : Int) : spec_l1In.f a lo hi = some (inR lo hi a) := by
  unfold spec_l1In.f inR
  by_cases h : a ≥ lo <;> simp [h]
theorem within_eq (a lo hi : Int) : impl_within.f a lo hi = some (inR lo hi a) := by
  unfold impl_within.f inR
  by_cases h : a ≥ lo <;> simp [h]
theorem allWithin_l (xs : List Int) (lo up : Int) (hn : xs.length ≤ 9223372036854775807) : ∀ (d i : Nat), i + d = xs.length → Ev (fun k => impl_allWithin.l0 k lo up xs (xs.length : Int) (i : Int)) ((xs.drop i).all (inR lo up)) := by
  intro d
  induction d with
  | zero =>
    intro i hi
    refine eround (fun k => by rw [impl_allWithin.l0]) ?_
    refine eneg (by omega) (enow ?_)
    rw [List.drop_eq_nil_of_le (by omega)]; rfl
  | succ d ih =>
    intro i hi
    have hlt : i < xs.length := by omega
    refine eround (fun k => by rw [impl_allWithin.l0]) ?_
    refine epos (by omega) (epos (by omega) (epos (by omega) ?_))
    rw [rd_get xs i hlt, List.drop_eq_getElem_cons hlt, List.all_cons]
    refine enb (within_eq _ _ _) ?_
    cases h : inR lo up xs[i] with
    | true =>
      refine epos rfl ?_
      rw [w64 (by omega) (by omega)]
      simpa using ih (i + 1) (by omega)
    | false => exact eneg (by simp) (enow (by simp))
theorem allWithin_e (xs : List Int) (lo up : Int) (hn : xs.length ≤ 9223372036854775807) : Ev (fun k => impl_allWithin.f k xs lo up) (xs.all (inR lo up)) :=
  allWithin_l xs lo up hn xs.length 0 (by omega)
def chainLt : List Int → Bool
  | a :: b :: r => decide (a < b) && chainLt (b :: r)
  | _ => true
theorem chainLt_drop (xs : List Int) (i : Nat) (h : i + 1 < xs.length) : chainLt (xs.drop i) = (decide (xs[i] < xs[i + 1]) && chainLt (xs.drop (i + 1))) := by
  rw [List.drop_eq_getElem_cons (show i < xs.length by omega), List.drop_eq_getElem_cons h]; rfl
theorem chainLt_end (xs : List Int) (i : Nat) (h : xs.length ≤ i + 1) : chainLt (xs.drop i) = true := by
  have : (xs.drop i).length ≤ 1 := by simp; omega
  match hx : xs.drop i, this with
  | [], _ => rfl
  | [_], _ => rfl
  | _ :: _ :: _, h => simp at h
def risB (lo up : Int) (xs : List Int) : Bool := xs.all (inR lo up) && chainLt xs
theorem specRis_l (xs : List Int) (lo up : Int) (hn : xs.length ≤ 9223372036854775807) : ∀ (d i : Nat), i + d = xs.length → Ev (fun k => spec_l1Rising.l0 k xs lo up xs (xs.length : Int) (i : Int)) ((xs.drop i).all (inR lo up) && chainLt (xs.drop (i - 1))) := by
  intro d
  induction d with
  | zero =>
    intro i hi
    refine eround (fun k => by rw [spec_l1Rising.l0]) (eneg (by omega) (enow ?_))
    rw [List.drop_eq_nil_of_le (by omega), chainLt_end xs _ (by omega)]; rfl
  | succ d ih =>
    intro i hi
    have hlt : i < xs.length := by omega
    refine eround (fun k => by rw [spec_l1Rising.l0]) (epos (by omega) (epos (by omega) (epos (by omega) ?_)))
    rw [rd_get xs i hlt, List.drop_eq_getElem_cons hlt, w64 (by omega) (by omega), w64 (by omega) (by omega), List.all_cons]
    refine enb (l1In_eq _ _ _) ?_
    cases e : inR lo up xs[i] with
    | false => exact eneg (by decide) (enow (by simp))
    | true =>
      refine epos rfl ?_
      have hI := ih (i + 1) (by omega)
      by_cases h0 : i = 0
      · subst h0
        refine eneg (by simp) ?_
        simpa [List.drop_one] using hI
      · obtain ⟨j, rfl⟩ : ∃ j, i = j + 1 := ⟨i - 1, by omega⟩
        refine epos (by omega) (epos (by omega) (epos (by omega) ?_))
        rw [show ((j + 1 : Nat) : Int) - 1 = (j : Int) by omega, rd_get xs j (by omega), show j + 1 - 1 = j by omega, chainLt_drop xs j (by omega)]
        simp only [Nat.add_sub_cancel] at hI
        by_cases h1 : xs[j] ≥ xs[j + 1]
        · exact epos h1 (enow (by simp; omega))
        · refine eneg h1 ?_
          simpa [show xs[j] < xs[j + 1] by omega] using hI
theorem specRis_e (xs : List Int) (lo up : Int) (hn : xs.length ≤ 9223372036854775807) : Ev (fun k => spec_l1Rising.f k xs lo up) (risB lo up xs) := by
  unfold spec_l1Rising.f
  simpa [risB] using specRis_l xs lo up hn xs.length 0 (by omega)
theorem implRis_l (xs : List Int) (lo up : Int) (hn : xs.length ≤ 9223372036854775807) : ∀ (d i : Nat), i + 1 + d = xs.length → Ev (fun k => impl_isRising.l0 k xs lo up ((i + 1 : Nat) : Int)) (xs.all (inR lo up) && chainLt (xs.drop i)) := by
  intro d
  induction d with
  | zero =>
    intro i hi
    refine eround (fun k => by rw [impl_isRising.l0]) (eneg (by omega) (ebind (allWithin_e xs lo up hn) (enow ?_)))
    rw [chainLt_end xs _ (by omega)]; simp
  | succ d ih =>
    intro i hi
    have e1 : wrap64 (((i + 1 : Nat) : Int) - 1) = (i : Int) := by rw [w64 (by omega) (by omega)]; omega
    have e2 : wrap64 (((i + 1 : Nat) : Int) + 1) = ((i + 1 + 1 : Nat) : Int) := by rw [w64 (by omega) (by omega)]; omega
    refine eround (fun k => by rw [impl_isRising.l0]) (epos (by omega) ?_)
    rw [e1, e2, rd_get xs i (by omega), rd_get xs (i + 1) (by omega), chainLt_drop xs i (by omega)]
    refine epos (by omega) (epos (by omega) (epos (by omega) ?_))
    by_cases h1 : xs[i] ≥ xs[i + 1]
    · exact epos h1 (enow (by simp; omega))
    · refine eneg h1 ?_
      simpa [show xs[i] < xs[i + 1] by omega] using ih (i + 1) (by omega)
theorem implRis_e (xs : List Int) (lo up : Int) (hn : xs.length ≤ 9223372036854775807) : Ev (fun k => impl_isRising.f k xs lo up) (risB lo up xs) := by
  unfold impl_isRising.f risB
  by_cases h : xs.length = 0
  · obtain rfl := List.eq_nil_of_length_eq_zero h
    refine eround (fun k => by rw [impl_isRising.l0]) (eneg (by simp) (ebind (allWithin_e [] lo up (by simp)) (enow (by simp [chainLt]))))
  · simpa using implRis_l xs lo up hn (xs.length - 1) 0 (by omega)
/-! texts in order -/
theorem u8_irr (a : UInt8) : ¬ a < a := fun z => by have := UInt8.lt_iff_toNat_lt.1 z; omega
theorem bl_irr : ∀ x : List UInt8, Op.bytesLess x x = false
  | [] => rfl
  | a :: x => by
    have h := bl_irr x
    have := u8_irr a
    simp [Op.bytesLess, this, h]
theorem bl_trans : ∀ x y z : List UInt8, Op.bytesLess x y = true → Op.bytesLess y z = true → Op.bytesLess x z = true
  | x, [], z => fun h _ => by cases x <;> simp [Op.bytesLess] at h
  | x, _ :: _, [] => fun _ h => by simp [Op.bytesLess] at h
  | [], _ :: _, _ :: _ => fun _ _ => rfl
  | a :: x, b :: y, c :: z => fun h1 h2 => by
    have ih := bl_trans x y z
    simp only [Op.bytesLess, Bool.or_eq_true, decide_eq_true_eq, Bool.and_eq_true, beq_iff_eq] at h1 h2 ⊢
    rcases h1 with h1 | ⟨rfl, h1⟩
    · rcases h2 with h2 | ⟨rfl, h2⟩
      · left
        have := UInt8.lt_iff_toNat_lt.1 h1
        have := UInt8.lt_iff_toNat_lt.1 h2
        exact UInt8.lt_iff_toNat_lt.2 (by omega)
      · exact Or.inl h1
    · rcases h2 with h2 | ⟨rfl, h2⟩
      · exact Or.inl h2
      · exact Or.inr ⟨rfl, ih h1 h2⟩
def ltT (a b : ByteArray) : Bool := Op.bytesLess a.toList b.toList
theorem ltT_irr (a : ByteArray) : ltT a a = false := bl_irr _
theorem ltT_trans {a b c : ByteArray} (h1 : ltT a b = true) (h2 : ltT b c = true) : ltT a c = true := bl_trans _ _ _ h1 h2
theorem ltT_asym {a b : ByteArray} (h : ltT a b = true) : ltT b a = false := by
  rw [Bool.eq_false_iff]
  intro h2
  have := ltT_trans h h2
  rw [ltT_irr] at this
  cases this
theorem ltT_tri {a b : ByteArray} (h1 : ltT a b = false) (h2 : ltT b a = false) : a = b := by
  have h := bytesLess_rev a.toList b.toList
  unfold ltT at h1 h2
  rw [h1, h2] at h
  have e : a.toList = b.toList := by simpa using h
  rw [ByteArray.toList_eq, ByteArray.toList_eq] at e
  exact ByteArray.ext (Array.toList_inj.1 e)
theorem leT_trans {a b c : ByteArray} (h1 : ltT b a = false) (h2 : ltT c b = false) : ltT c a = false := by
  rw [Bool.eq_false_iff]
  intro h
  cases h3 : ltT a b with
  | true =>
    have := ltT_trans h h3
    rw [h2] at this
    cases this
  | false =>
    have := ltT_tri h3 h1
    subst this
    rw [h2] at h
    cases h
def chainLe : List ByteArray → Bool
  | a :: b :: r => !ltT b a && chainLe (b :: r)
  | _ => true
theorem chainLe_pair : ∀ l : List ByteArray, chainLe l = true → l.Pairwise (fun a b => ltT b a = false)
  | [], _ => List.Pairwise.nil
  | [_], _ => List.pairwise_singleton _ _
  | a :: b :: r, h => by
    simp only [chainLe, Bool.and_eq_true, Bool.not_eq_true'] at h
    have ih := chainLe_pair (b :: r) h.2
    refine List.Pairwise.cons (fun c hc => ?_) ih
    rcases List.mem_cons.1 hc with rfl | hc
    · exact h.1
    · exact leT_trans h.1 ((List.pairwise_cons.1 ih).1 c hc)
theorem chainLe_drop (xs : List ByteArray) (i : Nat) (h : i + 1 < xs.length) : chainLe (xs.drop i) = (!ltT xs[i + 1] xs[i] && chainLe (xs.drop (i + 1))) := by
  rw [List.drop_eq_getElem_cons (show i < xs.length by omega), List.drop_eq_getElem_cons h]; rfl
theorem chainLe_end (xs : List ByteArray) (i : Nat) (h : xs.length ≤ i + 1) : chainLe (xs.drop i) = true := by
  have : (xs.drop i).length ≤ 1 := by simp; omega
  match hx : xs.drop i, this with
  | [], _ => rfl
  | [_], _ => rfl
  | _ :: _ :: _, h => simp at h
/-- x put behind all that are not above it. -/
def placeT (x : ByteArray) : List ByteArray → List ByteArray
  | [] => [x]
  | y :: r => if ltT x y = true then x :: y :: r else y :: placeT x r
theorem placeT_len (x : ByteArray) : ∀ l, (placeT x l).length = l.length + 1
  | [] => rfl
  | y :: r => by
    unfold placeT
    split
    · simp
    · simp [placeT_len x r]
theorem placeT_eq (x : ByteArray) : ∀ l : List ByteArray, l.Pairwise (fun a b => ltT b a = false) → l.takeWhile (fun y => ltT y x) ++ x :: l.dropWhile (fun y => ltT y x) = placeT x l
  | [], _ => rfl
  | y :: r, h => by
    obtain ⟨h1, h2⟩ := List.pairwise_cons.1 h
    have ih := placeT_eq x r h2
    unfold placeT
    by_cases c : ltT x y = true
    · rw [if_pos c]
      have := ltT_asym c
      simp [this]
    · rw [if_neg c]
      cases c2 : ltT y x with
      | true => simp [c2, ih]
      | false =>
        have e := ltT_tri (by simpa using c) c2
        subst e
        have hr : ∀ r : List ByteArray, (∀ z ∈ r, ltT z x = false) → placeT x r = x :: r := by
          intro r
          induction r with
          | nil => intro _; rfl
          | cons z r ih2 =>
            intro hz
            unfold placeT
            by_cases c3 : ltT x z = true
            · rw [if_pos c3]
            · rw [if_neg c3, ih2 (fun q hq => hz q (by simp [hq]))]
              rw [ltT_tri (by simpa using c3) (hz z (by simp))]
        rw [hr r h1]
        simp [c2]
theorem cut_while {α : Type} (p : α → Bool) : ∀ (l : List α) (t : Nat), t ≤ l.length → (∀ q (h : q < l.length), q < t → p l[q] = true) → (∀ q (h : q < l.length), t ≤ q → p l[q] = false) → l.take t = l.takeWhile p ∧ l.drop t = l.dropWhile p
  | [], t, _, _, _ => by simp
  | y :: r, 0, _, _, h2 => by
    have := h2 0 (by simp) (Nat.le_refl _)
    simp at this
    simp [this]
  | y :: r, t + 1, ht, h1, h2 => by
    have h0 := h1 0 (by simp) (by omega)
    simp at h0
    obtain ⟨e1, e2⟩ := cut_while p r t (by simpa using ht) (fun q hq hl => by have h := h1 (q + 1) (by simpa using hq) (by omega); rw [List.getElem_cons_succ] at h; exact h) (fun q hq hl => by have h := h2 (q + 1) (by simpa using hq) (by omega); rw [List.getElem_cons_succ] at h; exact h)
    simp [h0, e1, e2]
theorem l1Has_l (xs : List Int) (a : Int) (hn : xs.length ≤ 9223372036854775807) : ∀ (d i : Nat), i + d = xs.length → Ev (fun k => spec_l1Has.l0 k a xs (xs.length : Int) (i : Int)) (decide (a ∈ xs.drop i)) := by
  intro d
  induction d with
  | zero =>
    intro i hi
    refine eround (fun k => by rw [spec_l1Has.l0]) (eneg (by omega) (enow ?_))
    rw [List.drop_eq_nil_of_le (by omega)]; simp
  | succ d ih =>
    intro i hi
    have hlt : i < xs.length := by omega
    refine eround (fun k => by rw [spec_l1Has.l0]) (epos (by omega) (epos (by omega) (epos (by omega) ?_)))
    rw [rd_get xs i hlt, List.drop_eq_getElem_cons hlt]
    by_cases e : xs[i] = a
    · exact epos e (enow (by simp [e]))
    · refine eneg e ?_
      rw [w64 (by omega) (by omega)]
      have : decide (a ∈ xs[i] :: List.drop (i + 1) xs) = decide (a ∈ List.drop (i + 1) xs) := by
        apply decide_eq_decide.2
        rw [List.mem_cons]
        exact ⟨fun h => h.resolve_left (fun z => e z.symm), Or.inr⟩
      rw [this]
      exact ih (i + 1) (by omega)
theorem l1Has_e (xs : List Int) (a : Int) (hn : xs.length ≤ 9223372036854775807) : Ev (fun k => spec_l1Has.f k xs a) (decide (a ∈ xs)) := l1Has_l xs a hn xs.length 0 (by omega)
/-! tags -/
theorem tmod_rng (v : Int) (h0 : 0 ≤ v) : 0 ≤ Int.tmod v 4093 ∧ Int.tmod v 4093 ≤ 4092 := by
  rw [Int.tmod_eq_emod_of_nonneg h0]
  omega
theorem tag_l (s : ByteArray) (hs : s.size ≤ 9223372036854775807) : ∀ (d i : Nat) (a : Int), i + d = s.size → 0 ≤ a → a ≤ 4092 → ∃ r : Int, 0 ≤ r ∧ r ≤ 4092 ∧ Ev (fun k => impl_tag.l0 k s a (s.size : Int) (i : Int)) r ∧ Ev (fun k => spec_l8Tag.l0 k s a (i : Int)) r := by
  intro d
  induction d with
  | zero =>
    intro i a hi h0 h1
    exact ⟨a, h0, h1, eround (fun k => by rw [impl_tag.l0]) (eneg (by omega) (enow rfl)), eround (fun k => by rw [spec_l8Tag.l0]) (eneg (by omega) (enow rfl))⟩
  | succ d ih =>
    intro i a hi h0 h1
    obtain ⟨b0, b1⟩ := bt_range s (i : Int)
    obtain ⟨c0, c1⟩ := tmod_rng (a * 257 + bt s (i : Int) + 1) (by omega)
    obtain ⟨r, r0, r1, r2, r3⟩ := ih (i + 1) _ (by omega) c0 c1
    have w1 : wrap64 ((i : Int) + 1) = ((i + 1 : Nat) : Int) := by rw [w64 (by omega) (by omega)]; omega
    refine ⟨r, r0, r1, eround (fun k => by rw [impl_tag.l0]) (epos (by omega) (epos (by omega) (epos (by omega) ?_))), eround (fun k => by rw [spec_l8Tag.l0]) (epos (by omega) (epos (by omega) ?_))⟩
    · rw [w1, w64 (x := a * 257) (by omega) (by omega), w64 (x := bt s (i : Int)) (by omega) (by omega), w64 (x := a * 257 + bt s (i : Int)) (by omega) (by omega), w64 (x := a * 257 + bt s (i : Int) + 1) (by omega) (by omega)]
      exact r2
    · rw [w1, Int.mul_comm 257 a, w64 (x := a * 257) (by omega) (by omega), w64 (x := bt s (i : Int)) (by omega) (by omega), w64 (x := a * 257 + bt s (i : Int)) (by omega) (by omega), w64 (x := a * 257 + bt s (i : Int) + 1) (by omega) (by omega)]
      exact r3
noncomputable def tagOf (s : ByteArray) : Int := theEv 0 (fun k => impl_tag.f k s)
theorem tagOf_all (s : ByteArray) (hs : s.size ≤ 9223372036854775807) : Ev (fun k => impl_tag.f k s) (tagOf s) ∧ Ev (fun k => spec_l8Tag.f k s) (tagOf s) ∧ 0 ≤ tagOf s ∧ tagOf s ≤ 4092 := by
  obtain ⟨r, r0, r1, r2, r3⟩ := tag_l s hs s.size 0 0 (by omega) (by omega) (by omega)
  have h1 : Ev (fun k => impl_tag.f k s) r := r2
  have h2 := theEv_of (d := (0 : Int)) h1
  have e : theEv 0 (fun k => impl_tag.f k s) = r := Ev_unique h2 h1
  unfold tagOf
  rw [e]
  exact ⟨h1, r3, r0, r1⟩
/-! slices.Contains of numbers -/
theorem ixI_l (xs : List Int) (a : Int) (hn : xs.length ≤ 4194304) : ∀ (d i : Nat), i + d = xs.length → ∃ r : Int, Ev (fun k => slices_Index_int_int.l0 k xs a (xs.length : Int) (i : Int)) r ∧ (r ≥ 0 ↔ a ∈ xs.drop i) := by
  intro d
  induction d with
  | zero =>
    intro i hi
    refine ⟨-1, eround (fun k => by rw [slices_Index_int_int.l0]) (eneg (by omega) (enow rfl)), ?_⟩
    rw [List.drop_eq_nil_of_le (by omega)]; simp
  | succ d ih =>
    intro i hi
    have hlt : i < xs.length := by omega
    obtain ⟨r, h1, h3⟩ := ih (i + 1) (by omega)
    rw [List.drop_eq_getElem_cons hlt, List.mem_cons]
    by_cases e : a = xs[i]
    · refine ⟨(i : Int), eround (fun k => by rw [slices_Index_int_int.l0]) (epos (by omega) (epos (by omega) (epos (by omega) ?_))), by simp [e]⟩
      rw [rd_get xs i hlt]
      exact epos e (enow rfl)
    · refine ⟨r, eround (fun k => by rw [slices_Index_int_int.l0]) (epos (by omega) (epos (by omega) (epos (by omega) ?_))), by rw [h3]; simp [e]⟩
      rw [rd_get xs i hlt]
      refine eneg e ?_
      rw [w64 (by omega) (by omega)]
      exact h1
theorem coI_e (xs : List Int) (a : Int) (hn : xs.length ≤ 4194304) : Ev (fun k => slices_Contains_int_int.f k xs a) (decide (a ∈ xs)) := by
  obtain ⟨r, h1, h3⟩ := ixI_l xs a hn xs.length 0 (by omega)
  refine ebind (f := fun _ t => some (decide (t ≥ 0))) h1 (enow ?_)
  rw [List.drop_zero] at h3
  exact decide_eq_decide.2 h3
/-! texts that may be in a pool -/
def letA (l : List ByteArray) : Bool := l.all (fun s => decide ((s.size : Int) ≤ 24))
theorem ixL_l (xs : List ByteArray) (hn : xs.length ≤ 4194304) : ∀ (d i : Nat), i + d = xs.length → ∃ r : Int, Ev (fun k => slices_IndexFunc_224_at_188.l0 k xs (xs.length : Int) (i : Int)) r ∧ (r ≥ 0 ↔ letA (xs.drop i) = false) := by
  intro d
  induction d with
  | zero =>
    intro i hi
    refine ⟨-1, eround (fun k => by rw [slices_IndexFunc_224_at_188.l0]) (eneg (by omega) (enow rfl)), ?_⟩
    rw [List.drop_eq_nil_of_le (by omega)]; simp [letA]
  | succ d ih =>
    intro i hi
    have hlt : i < xs.length := by omega
    obtain ⟨r, h1, h3⟩ := ih (i + 1) (by omega)
    have hL : letA (xs.drop i) = (decide ((xs[i].size : Int) ≤ 24) && letA (xs.drop (i + 1))) := by rw [List.drop_eq_getElem_cons hlt]; rfl
    have hf : impl_areLetters_1.f xs[i] = some (!decide ((xs[i].size : Int) ≤ 24)) := rfl
    rw [hL]
    by_cases e : (xs[i].size : Int) ≤ 24
    · refine ⟨r, eround (fun k => by rw [slices_IndexFunc_224_at_188.l0]) (epos (by omega) (epos (by omega) (epos (by omega) ?_))), by rw [h3]; simp [e]⟩
      rw [show rdOf ByteArray.empty xs (i : Int) = xs[i] from getD_get xs i _ hlt]
      refine enb hf (eneg (by simp [e]) ?_)
      rw [w64 (by omega) (by omega)]
      exact h1
    · refine ⟨(i : Int), eround (fun k => by rw [slices_IndexFunc_224_at_188.l0]) (epos (by omega) (epos (by omega) (epos (by omega) ?_))), by simp [e]⟩
      rw [show rdOf ByteArray.empty xs (i : Int) = xs[i] from getD_get xs i _ hlt]
      exact enb hf (epos (by simp [e]) (enow rfl))
def letB (l : List ByteArray) : Bool := letA l && decide ((l.length : Int) ≤ 12)
theorem implLet_e (xs : List ByteArray) (hn : xs.length ≤ 4194304) : Ev (fun k => impl_areLetters.f k xs) (letB xs) := by
  unfold impl_areLetters.f letB
  by_cases h : (xs.length : Int) ≤ 12
  · obtain ⟨r, h1, h3⟩ := ixL_l xs hn xs.length 0 (by omega)
    rw [List.drop_zero] at h3
    refine epos h (ebind (a := decide (r ≥ 0)) (ebind (f := fun _ t => some (decide (t ≥ 0))) h1 (enow rfl)) (enow ?_))
    rw [decide_eq_true h, Bool.and_true]
    cases e : letA xs with
    | true => rw [e] at h3; simp at h3; simp; omega
    | false => rw [e] at h3; simp at h3; simp; omega
  · exact eneg h (enow (by simp [h]))
theorem specPool_l (xs : List ByteArray) (hn : xs.length ≤ 4194304) : ∀ (d i : Nat), i + d = xs.length → Ev (fun k => spec_l8Pool.l0 k xs xs (xs.length : Int) (i : Int)) (letA (xs.drop i) && decide ((xs.length : Int) ≤ 12)) := by
  intro d
  induction d with
  | zero =>
    intro i hi
    refine eround (fun k => by rw [spec_l8Pool.l0]) (eneg (by omega) (enow ?_))
    rw [List.drop_eq_nil_of_le (by omega)]; simp [letA]
  | succ d ih =>
    intro i hi
    have hlt : i < xs.length := by omega
    have hL : letA (xs.drop i) = (decide ((xs[i].size : Int) ≤ 24) && letA (xs.drop (i + 1))) := by rw [List.drop_eq_getElem_cons hlt]; rfl
    refine eround (fun k => by rw [spec_l8Pool.l0]) (epos (by omega) (epos (by omega) (epos (by omega) ?_)))
    rw [show rdOf ByteArray.empty xs (i : Int) = xs[i] from getD_get xs i _ hlt, hL]
    refine enb (a := decide ((xs[i].size : Int) ≤ 24)) rfl ?_
    by_cases e : (xs[i].size : Int) ≤ 24
    · refine epos (by simpa using e) ?_
      rw [w64 (by omega) (by omega), decide_eq_true e, Bool.true_and]
      exact ih (i + 1) (by omega)
    · exact eneg (by simpa using e) (enow (by simp [e]))
theorem specPool_e (xs : List ByteArray) (hn : xs.length ≤ 4194304) : Ev (fun k => spec_l8Pool.f k xs) (letB xs) := by
  have := specPool_l xs hn xs.length 0 (by omega)
  rw [List.drop_zero] at this
  exact this
/-! slices.IsSorted -/
theorem less_S (a b : ByteArray) : cmp_Less_string.f a b = some (ltT a b) := by
  unfold cmp_Less_string.f cmp_isNaN_string.f
  simp [ltT]
theorem sorted_l (xs : List ByteArray) (hn : xs.length ≤ 4194304) : ∀ i : Nat, i < xs.length → chainLe (xs.drop i) = true → Ev (fun k => slices_IsSorted_string_string.l0 k xs (i : Int)) (chainLe xs) := by
  intro i
  induction i with
  | zero =>
    intro _ h
    exact eround (fun k => by rw [slices_IsSorted_string_string.l0]) (eneg (by omega) (enow (by simpa using h.symm)))
  | succ i ih =>
    intro hi h
    have w1 : wrap64 (((i + 1 : Nat) : Int) - 1) = (i : Int) := by rw [w64 (by omega) (by omega)]; omega
    refine eround (fun k => by rw [slices_IsSorted_string_string.l0]) (epos (by omega) (epos (by omega) (epos (by omega) ?_)))
    rw [w1, show rdOf ByteArray.empty xs ((i + 1 : Nat) : Int) = xs[i + 1] from getD_get xs (i + 1) _ hi, show rdOf ByteArray.empty xs (i : Int) = xs[i] from getD_get xs i _ (by omega)]
    refine epos (by omega) (epos (by omega) (enb (less_S _ _) ?_))
    have hc := chainLe_drop xs i hi
    cases e : ltT xs[i + 1] xs[i] with
    | true =>
      refine epos rfl (enow ?_)
      symm
      rw [Bool.eq_false_iff]
      intro hx
      have hp := List.pairwise_iff_getElem.1 (chainLe_pair xs hx) i (i + 1) (by omega) hi (by omega)
      rw [e] at hp
      cases hp
    | false =>
      refine eneg (by decide) (ih (by omega) ?_)
      rw [hc, e, h]; rfl
theorem sorted_e (xs : List ByteArray) (hn : xs.length ≤ 4194304) : Ev (fun k => slices_IsSorted_string_string.f k xs) (chainLe xs) := by
  unfold slices_IsSorted_string_string.f
  by_cases h : xs.length = 0
  · obtain rfl := List.eq_nil_of_length_eq_zero h
    refine eround (fun k => by rw [slices_IsSorted_string_string.l0]) ?_
    exact eneg (show ¬ wrap64 ((([] : List ByteArray).length : Int) - 1) > 0 by rw [List.length_nil, w64 (by omega) (by omega)]; omega) (enow rfl)
  · have w1 : wrap64 ((xs.length : Int) - 1) = ((xs.length - 1 : Nat) : Int) := by rw [w64 (by omega) (by omega)]; omega
    rw [w1]
    exact sorted_l xs hn (xs.length - 1) (by omega) (chainLe_end xs _ (by omega))
/-! good mixes -/
noncomputable def tagsB (seen : List Int) : List Int → List ByteArray → Bool
  | _, [] => true
  | tags, s :: r => decide (tagOf s ∈ seen) && (!decide (tagOf s ∈ tags) && tagsB seen (tags ++ [tagOf s]) r)
def rngB (n : Int) (least wait old : Int) : Bool := inR 1 12 least && (inR 1 10 wait && (inR 0 10 old && (decide (n > 0) || decide (old = 0))))
def seenB (seen : List Int) : Bool := risB 0 4092 seen && decide ((seen.length : Int) ≤ 100)
noncomputable def goodM (pool : List ByteArray) (least wait old : Int) (seen : List Int) : Bool := chainLe pool && (tagsB seen [] pool && (letB pool && (rngB (pool.length : Int) least wait old && seenB seen)))
theorem implTags_l (pool : List ByteArray) (least wait old : Int) (seen : List Int) (hn : pool.length ≤ 1048576) (hs : seen.length ≤ 1048576) (hz : ∀ y ∈ pool, y.size ≤ 9223372036854775807) : ∀ (d i : Nat) (tags : List Int), i + d = pool.length → tags.length ≤ i → Ev (fun k => impl_GoodMix.l0 k tags pool (pool.length : Int) (i : Int) pool least wait old seen) (tagsB seen tags (pool.drop i)) := by
  intro d
  induction d with
  | zero =>
    intro i tags hi ht
    refine eround (fun k => by rw [impl_GoodMix.l0]) (eneg (by omega) (enow ?_))
    rw [List.drop_eq_nil_of_le (by omega)]; rfl
  | succ d ih =>
    intro i tags hi ht
    have hlt : i < pool.length := by omega
    obtain ⟨t1, _, _, _⟩ := tagOf_all pool[i] (hz _ (List.getElem_mem hlt))
    refine eround (fun k => by rw [impl_GoodMix.l0]) (epos (by omega) (epos (by omega) (epos (by omega) ?_)))
    rw [show rdOf ByteArray.empty pool (i : Int) = pool[i] from getD_get pool i _ hlt, List.drop_eq_getElem_cons hlt, tagsB]
    refine ebind t1 (ebind (coI_e seen _ (by omega)) ?_)
    cases e1 : decide (tagOf pool[i] ∈ seen) with
    | false => exact eneg (by decide) (enow (by simp))
    | true =>
      refine epos rfl (ebind (coI_e tags _ (by omega)) ?_)
      cases e2 : decide (tagOf pool[i] ∈ tags) with
      | true => exact epos rfl (enow (by simp))
      | false =>
        refine eneg (by decide) (epos (by omega) ?_)
        rw [w64 (by omega) (by omega)]
        simpa using ih (i + 1) (tags ++ [tagOf pool[i]]) (by omega) (by simp; omega)
theorem implGM_e (pool : List ByteArray) (least wait old : Int) (seen : List Int) (hn : pool.length ≤ 1048576) (hs : seen.length ≤ 1048576) (hz : ∀ y ∈ pool, y.size ≤ 9223372036854775807) : Ev (fun k => impl_GoodMix.f k pool least wait old seen) (goodM pool least wait old seen) := by
  unfold impl_GoodMix.f goodM
  have hj : ∀ _ : Bool, Ev (fun k => impl_GoodMix.j0 k true pool least wait old seen) false := fun _ => eround (fun k => by rw [impl_GoodMix.j0]) (epos rfl (enow rfl))
  refine ebind (implLet_e pool (by omega)) ?_
  cases e1 : letB pool with
  | false => exact eneg (by decide) (by simpa using hj true)
  | true =>
    refine epos rfl (ebind (sorted_e pool (by omega)) ?_)
    cases e2 : chainLe pool with
    | false => exact eneg (by decide) (by simpa using hj true)
    | true =>
      refine epos rfl (enb (within_eq _ _ _) ?_)
      unfold rngB
      cases e3 : inR 1 12 least with
      | false => exact eneg (by decide) (by simpa using hj true)
      | true =>
        refine epos rfl (enb (within_eq _ _ _) ?_)
        cases e4 : inR 1 10 wait with
        | false => exact eneg (by decide) (by simpa using hj true)
        | true =>
          refine epos rfl (enb (within_eq _ _ _) ?_)
          cases e5 : inR 0 10 old with
          | false => exact eneg (by decide) (by simpa using hj true)
          | true =>
            refine epos rfl ?_
            have hmain : Ev (fun k => impl_GoodMix.j0 k false pool least wait old seen) (tagsB seen [] pool && seenB seen) := by
              refine eround (fun k => by rw [impl_GoodMix.j0]) (eneg (by simp) ?_)
              have hj1 : Ev (fun k => impl_GoodMix.j1 k true pool least wait old seen) false := eround (fun k => by rw [impl_GoodMix.j1]) (epos rfl (enow rfl))
              unfold seenB
              by_cases h : (seen.length : Int) > 100
              · refine epos h ?_
                have : decide ((seen.length : Int) ≤ 100) = false := decide_eq_false (by omega)
                rw [this]
                simpa using hj1
              · refine eneg h (ebind (implRis_e seen 0 4092 (by omega)) ?_)
                rw [show decide ((seen.length : Int) ≤ 100) = true from decide_eq_true (by omega), Bool.and_true]
                cases e6 : risB 0 4092 seen with
                | false => simpa using hj1
                | true =>
                  rw [Bool.and_true]
                  refine eround (fun k => by rw [impl_GoodMix.j1]) (eneg (by simp) ?_)
                  simpa using implTags_l pool least wait old seen hn hs hz pool.length 0 [] (by omega) (by simp)
            by_cases h : (pool.length : Int) = 0
            · refine epos h ?_
              have hd : decide ((pool.length : Int) > 0) = false := decide_eq_false (by omega)
              rw [hd]
              by_cases h2 : old = 0
              · have : (old != 0) = false := by simp [h2]
                rw [this, decide_eq_true h2]
                simpa using hmain
              · have : (old != 0) = true := by simp [h2]
                rw [this, decide_eq_false h2]
                simpa using hj true
            · refine eneg h ?_
              have hd : decide ((pool.length : Int) > 0) = true := decide_eq_true (by omega)
              rw [hd]
              simpa using hmain
theorem specGM_l (pool : List ByteArray) (least wait old : Int) (seen : List Int) (hn : pool.length ≤ 1048576) (hs : seen.length ≤ 1048576) (hz : ∀ y ∈ pool, y.size ≤ 9223372036854775807) : ∀ (d i : Nat) (tags : List Int), i + d = pool.length → tags.length ≤ i → Ev (fun k => spec_GoodMix.l0 k tags pool (pool.length : Int) (i : Int) pool least wait old seen) (chainLe (pool.drop (i - 1)) && (tagsB seen tags (pool.drop i) && (letB pool && (rngB (pool.length : Int) least wait old && seenB seen)))) := by
  intro d
  induction d with
  | zero =>
    intro i tags hi ht
    refine eround (fun k => by rw [spec_GoodMix.l0]) (eneg (by omega) ?_)
    rw [List.drop_eq_nil_of_le (show pool.length ≤ i by omega), chainLe_end pool _ (by omega), Bool.true_and, tagsB, Bool.true_and]
    refine ebind (specPool_e pool (by omega)) ?_
    unfold rngB seenB
    cases e1 : letB pool with
    | false => exact eneg (by decide) (enow (by simp))
    | true =>
      refine epos rfl (enb (l1In_eq _ _ _) ?_)
      cases e3 : inR 1 12 least with
      | false => exact eneg (by decide) (enow (by simp))
      | true =>
        refine epos rfl (enb (l1In_eq _ _ _) ?_)
        cases e4 : inR 1 10 wait with
        | false => exact eneg (by decide) (enow (by simp))
        | true =>
          refine epos rfl (enb (l1In_eq _ _ _) ?_)
          cases e5 : inR 0 10 old with
          | false => exact eneg (by decide) (enow (by simp))
          | true =>
            refine epos rfl ?_
            have hr := specRis_e seen 0 4092 (by omega)
            by_cases h : (pool.length : Int) > 0
            · refine epos h (ebind hr ?_)
              cases e6 : risB 0 4092 seen with
              | false => exact eneg (by decide) (enow (by simp))
              | true => exact epos rfl (enow (by simp; omega))
            · refine eneg h ?_
              by_cases h2 : old = 0
              · refine epos h2 (ebind hr ?_)
                cases e6 : risB 0 4092 seen with
                | false => exact eneg (by decide) (enow (by simp))
                | true => exact epos rfl (enow (by simp [h2]))
              · exact eneg h2 (enow (by simp [h2]; omega))
  | succ d ih =>
    intro i tags hi ht
    have hlt : i < pool.length := by omega
    obtain ⟨_, t1, _, _⟩ := tagOf_all pool[i] (hz _ (List.getElem_mem hlt))
    have hI := ih (i + 1) (tags ++ [tagOf pool[i]]) (by omega) (by simp; omega)
    rw [show i + 1 - 1 = i by omega] at hI
    -- what follows the look at the order
    have hrest : Ev (fun k => (spec_l1Has.f k seen (tagOf pool[i])).bind fun t115 => (if t115 = true then ((spec_l1Has.f k tags (tagOf pool[i])).bind fun t116 => (if t116 = true then (some false) else (if tags.length < 17592186044416 then (spec_GoodMix.l0 k (tags ++ [tagOf pool[i]]) pool (pool.length : Int) (wrap64 ((i : Int) + 1)) pool least wait old seen) else (none)))) else (some false))) (chainLe (pool.drop i) && (tagsB seen tags (pool.drop i) && (letB pool && (rngB (pool.length : Int) least wait old && seenB seen)))) := by
      have htB : tagsB seen tags (pool.drop i) = (decide (tagOf pool[i] ∈ seen) && (!decide (tagOf pool[i] ∈ tags) && tagsB seen (tags ++ [tagOf pool[i]]) (pool.drop (i + 1)))) := by
        rw [List.drop_eq_getElem_cons hlt, tagsB]
      rw [htB]
      refine ebind (l1Has_e seen _ (by omega)) ?_
      cases e1 : decide (tagOf pool[i] ∈ seen) with
      | false => exact eneg (by decide) (enow (by simp))
      | true =>
        refine epos rfl (ebind (l1Has_e tags _ (by omega)) ?_)
        cases e2 : decide (tagOf pool[i] ∈ tags) with
        | true => exact epos rfl (enow (by simp))
        | false =>
          refine eneg (by decide) (epos (by omega) ?_)
          rw [w64 (by omega) (by omega)]
          simpa using hI
    refine eround (fun k => by rw [spec_GoodMix.l0]) (epos (by omega) (epos (by omega) (epos (by omega) ?_)))
    rw [show rdOf ByteArray.empty pool (i : Int) = pool[i] from getD_get pool i _ hlt]
    refine ebind t1 ?_
    by_cases h0 : i = 0
    · subst h0
      exact eneg (by simp) hrest
    · obtain ⟨j, rfl⟩ : ∃ j, i = j + 1 := ⟨i - 1, by omega⟩
      have w1 : wrap64 (((j + 1 : Nat) : Int) - 1) = (j : Int) := by rw [w64 (by omega) (by omega)]; omega
      rw [w1, show rdOf ByteArray.empty pool (j : Int) = pool[j] from getD_get pool j _ (by omega), show j + 1 - 1 = j by omega, chainLe_drop pool j hlt]
      refine epos (by omega) (epos (by omega) (epos (by omega) ?_))
      cases e : ltT pool[j + 1] pool[j] with
      | true => exact epos e (enow (by simp))
      | false =>
        refine eneg (by rw [show Op.bytesLess pool[j + 1].toList pool[j].toList = false from e]; decide) ?_
        simpa using hrest
theorem specGM_e (pool : List ByteArray) (least wait old : Int) (seen : List Int) (hn : pool.length ≤ 1048576) (hs : seen.length ≤ 1048576) (hz : ∀ y ∈ pool, y.size ≤ 9223372036854775807) : Ev (fun k => spec_GoodMix.f k pool least wait old seen) (goodM pool least wait old seen) := by
  have := specGM_l pool least wait old seen hn hs hz pool.length 0 [] (by omega) (by simp)
  simp only [Nat.zero_sub, List.drop_zero] at this
  exact this
theorem bsS_l (xs : List ByteArray) (a : ByteArray) (p : ByteArray → Bool) (hp : ∀ y, cmp_Less_string.f y a = some (p y)) (hn : xs.length ≤ 4194304) (mono : ∀ q r (hr : r < xs.length) (hq : q ≤ r), p xs[r] = true → p xs[q] = true) : ∀ (d i j : Nat), j - i ≤ d → i ≤ j → j ≤ xs.length → (∀ q (h : q < xs.length), q < i → p xs[q] = true) → (∀ q (h : q < xs.length), j ≤ q → p xs[q] = false) →
    ∃ (t : Nat) (b : Bool), t ≤ xs.length ∧ Ev (fun k => slices_BinarySearch_string_string.l0 k xs a (xs.length : Int) (i : Int) (j : Int)) ((t : Int), b) ∧ (∀ q (h : q < xs.length), q < t → p xs[q] = true) ∧ (∀ q (h : q < xs.length), t ≤ q → p xs[q] = false) := by
  intro d
  induction d with
  | zero =>
    intro i j hd hij hj h1 h2
    have e : i = j := by omega
    subst e
    by_cases hi : i < xs.length
    · by_cases c : (fun u v : ByteArray => u.toList = v.toList) ((rdOf ByteArray.empty) xs (i : Int)) a
      · exact ⟨i, true, hj, eround (fun k => by rw [slices_BinarySearch_string_string.l0]) (eneg (by omega) (epos (by omega) (epos (by omega) (epos (by omega) (epos c (enow rfl)))))), h1, h2⟩
      · refine ⟨i, false, hj, eround (fun k => by rw [slices_BinarySearch_string_string.l0]) (eneg (by omega) (epos (by omega) (epos (by omega) (epos (by omega) (eneg c (enb (a := false) (by unfold slices_isNaN_string.f; simp) (eneg Bool.false_ne_true (enow rfl)))))))), h1, h2⟩
    · exact ⟨i, false, hj, eround (fun k => by rw [slices_BinarySearch_string_string.l0]) (eneg (by omega) (eneg (by omega) (enow rfl))), h1, h2⟩
  | succ d ih =>
    intro i j hd hij hj h1 h2
    by_cases c : i < j
    · have hm : wrap64 (IntKind.u64.wrap (wrap64 ((i : Int) + (j : Int))) / 2) = (((i + j) / 2 : Nat) : Int) := by
        rw [w64 (x := (i : Int) + j) (by omega) (by omega), u64_wrap_small ((i : Int) + j) (by omega) (by omega), w64 (by omega) (by omega)]
        omega
      have hlt : (i + j) / 2 < xs.length := by omega
      have hr : (rdOf ByteArray.empty) xs (((i + j) / 2 : Nat) : Int) = xs[(i + j) / 2] := (getD_get xs _ _ hlt)
      cases hb : p xs[(i + j) / 2] with
      | true =>
        obtain ⟨t, b, t1, t2, t3, t4⟩ := ih ((i + j) / 2 + 1) j (by omega) (by omega) hj (fun q hq hl => mono q _ hlt (by omega) hb) h2
        refine ⟨t, b, t1, eround (fun k => by rw [slices_BinarySearch_string_string.l0]) (epos (by omega) ?_), t3, t4⟩
        rw [hm, hr]
        refine epos (by omega) (epos (by omega) (enb (hp _) ?_))
        refine epos hb ?_
        rw [w64 (by omega) (by omega)]
        exact t2
      | false =>
        obtain ⟨t, b, t1, t2, t3, t4⟩ := ih i ((i + j) / 2) (by omega) (by omega) (by omega) h1 (fun q hq hl => by
          rw [Bool.eq_false_iff]
          intro z
          rw [mono _ q hq hl z] at hb
          cases hb)
        refine ⟨t, b, t1, eround (fun k => by rw [slices_BinarySearch_string_string.l0]) (epos (by omega) ?_), t3, t4⟩
        rw [hm, hr]
        refine epos (by omega) (epos (by omega) (enb (hp _) ?_))
        exact eneg (by rw [hb]; decide) t2
    · exact by
        have e : i = j := by omega
        subst e
        by_cases hi : i < xs.length
        · by_cases c : (fun u v : ByteArray => u.toList = v.toList) ((rdOf ByteArray.empty) xs (i : Int)) a
          · exact ⟨i, true, hj, eround (fun k => by rw [slices_BinarySearch_string_string.l0]) (eneg (by omega) (epos (by omega) (epos (by omega) (epos (by omega) (epos c (enow rfl)))))), h1, h2⟩
          · refine ⟨i, false, hj, eround (fun k => by rw [slices_BinarySearch_string_string.l0]) (eneg (by omega) (epos (by omega) (epos (by omega) (epos (by omega) (eneg c (enb (a := false) (by unfold slices_isNaN_string.f; simp) (eneg Bool.false_ne_true (enow rfl)))))))), h1, h2⟩
        · exact ⟨i, false, hj, eround (fun k => by rw [slices_BinarySearch_string_string.l0]) (eneg (by omega) (eneg (by omega) (enow rfl))), h1, h2⟩
theorem bsS_e (xs : List ByteArray) (a : ByteArray) (p : ByteArray → Bool) (hp : ∀ y, cmp_Less_string.f y a = some (p y)) (hn : xs.length ≤ 4194304) (mono : ∀ q r (hr : r < xs.length) (hq : q ≤ r), p xs[r] = true → p xs[q] = true) :
    Ev (fun k => impl_placed_string.f k xs a) (xs.takeWhile p ++ a :: xs.dropWhile p) := by
  obtain ⟨t, b, t1, t2, t3, t4⟩ := bsS_l xs a p hp hn mono xs.length 0 xs.length (by omega) (by omega) (Nat.le_refl _) (fun q h hl => by omega) (fun q h hl => by omega)
  obtain ⟨e1, e2⟩ := cut_while p xs t t1 t3 t4
  unfold impl_placed_string.f slices_BinarySearch_string_string.f
  refine ebind t2 ?_
  refine enb (a := xs) (by unfold slices_Clone_string_string.f; simp; omega) ?_
  refine epos (by omega) (epos (by omega) (epos (by omega) (enow ?_)))
  rw [Int.toNat_natCast, e1, e2]
theorem bsI_l (xs : List Int) (a : Int) (p : Int → Bool) (hp : ∀ y, cmp_Less_int.f y a = some (p y)) (hn : xs.length ≤ 4194304) (mono : ∀ q r (hr : r < xs.length) (hq : q ≤ r), p xs[r] = true → p xs[q] = true) : ∀ (d i j : Nat), j - i ≤ d → i ≤ j → j ≤ xs.length → (∀ q (h : q < xs.length), q < i → p xs[q] = true) → (∀ q (h : q < xs.length), j ≤ q → p xs[q] = false) →
    ∃ (t : Nat) (b : Bool), t ≤ xs.length ∧ Ev (fun k => slices_BinarySearch_int_int.l0 k xs a (xs.length : Int) (i : Int) (j : Int)) ((t : Int), b) ∧ (∀ q (h : q < xs.length), q < t → p xs[q] = true) ∧ (∀ q (h : q < xs.length), t ≤ q → p xs[q] = false) := by
  intro d
  induction d with
  | zero =>
    intro i j hd hij hj h1 h2
    have e : i = j := by omega
    subst e
    by_cases hi : i < xs.length
    · by_cases c : (fun u v : Int => u = v) (rd xs (i : Int)) a
      · exact ⟨i, true, hj, eround (fun k => by rw [slices_BinarySearch_int_int.l0]) (eneg (by omega) (epos (by omega) (epos (by omega) (epos (by omega) (epos c (enow rfl)))))), h1, h2⟩
      · refine ⟨i, false, hj, eround (fun k => by rw [slices_BinarySearch_int_int.l0]) (eneg (by omega) (epos (by omega) (epos (by omega) (epos (by omega) (eneg c (enb (a := false) (by unfold slices_isNaN_int.f; simp) (eneg Bool.false_ne_true (enow rfl)))))))), h1, h2⟩
    · exact ⟨i, false, hj, eround (fun k => by rw [slices_BinarySearch_int_int.l0]) (eneg (by omega) (eneg (by omega) (enow rfl))), h1, h2⟩
  | succ d ih =>
    intro i j hd hij hj h1 h2
    by_cases c : i < j
    · have hm : wrap64 (IntKind.u64.wrap (wrap64 ((i : Int) + (j : Int))) / 2) = (((i + j) / 2 : Nat) : Int) := by
        rw [w64 (x := (i : Int) + j) (by omega) (by omega), u64_wrap_small ((i : Int) + j) (by omega) (by omega), w64 (by omega) (by omega)]
        omega
      have hlt : (i + j) / 2 < xs.length := by omega
      have hr : rd xs (((i + j) / 2 : Nat) : Int) = xs[(i + j) / 2] := (rd_get xs _ hlt)
      cases hb : p xs[(i + j) / 2] with
      | true =>
        obtain ⟨t, b, t1, t2, t3, t4⟩ := ih ((i + j) / 2 + 1) j (by omega) (by omega) hj (fun q hq hl => mono q _ hlt (by omega) hb) h2
        refine ⟨t, b, t1, eround (fun k => by rw [slices_BinarySearch_int_int.l0]) (epos (by omega) ?_), t3, t4⟩
        rw [hm, hr]
        refine epos (by omega) (epos (by omega) (enb (hp _) ?_))
        refine epos hb ?_
        rw [w64 (by omega) (by omega)]
        exact t2
      | false =>
        obtain ⟨t, b, t1, t2, t3, t4⟩ := ih i ((i + j) / 2) (by omega) (by omega) (by omega) h1 (fun q hq hl => by
          rw [Bool.eq_false_iff]
          intro z
          rw [mono _ q hq hl z] at hb
          cases hb)
        refine ⟨t, b, t1, eround (fun k => by rw [slices_BinarySearch_int_int.l0]) (epos (by omega) ?_), t3, t4⟩
        rw [hm, hr]
        refine epos (by omega) (epos (by omega) (enb (hp _) ?_))
        exact eneg (by rw [hb]; decide) t2
    · exact by
        have e : i = j := by omega
        subst e
        by_cases hi : i < xs.length
        · by_cases c : (fun u v : Int => u = v) (rd xs (i : Int)) a
          · exact ⟨i, true, hj, eround (fun k => by rw [slices_BinarySearch_int_int.l0]) (eneg (by omega) (epos (by omega) (epos (by omega) (epos (by omega) (epos c (enow rfl)))))), h1, h2⟩
          · refine ⟨i, false, hj, eround (fun k => by rw [slices_BinarySearch_int_int.l0]) (eneg (by omega) (epos (by omega) (epos (by omega) (epos (by omega) (eneg c (enb (a := false) (by unfold slices_isNaN_int.f; simp) (eneg Bool.false_ne_true (enow rfl)))))))), h1, h2⟩
        · exact ⟨i, false, hj, eround (fun k => by rw [slices_BinarySearch_int_int.l0]) (eneg (by omega) (eneg (by omega) (enow rfl))), h1, h2⟩
theorem bsI_e (xs : List Int) (a : Int) (p : Int → Bool) (hp : ∀ y, cmp_Less_int.f y a = some (p y)) (hn : xs.length ≤ 4194304) (mono : ∀ q r (hr : r < xs.length) (hq : q ≤ r), p xs[r] = true → p xs[q] = true) :
    Ev (fun k => impl_placed_int.f k xs a) (xs.takeWhile p ++ a :: xs.dropWhile p) := by
  obtain ⟨t, b, t1, t2, t3, t4⟩ := bsI_l xs a p hp hn mono xs.length 0 xs.length (by omega) (by omega) (Nat.le_refl _) (fun q h hl => by omega) (fun q h hl => by omega)
  obtain ⟨e1, e2⟩ := cut_while p xs t t1 t3 t4
  unfold impl_placed_int.f slices_BinarySearch_int_int.f
  refine ebind t2 ?_
  refine enb (a := xs) (by unfold slices_Clone_int_int.f; simp; omega) ?_
  refine epos (by omega) (epos (by omega) (epos (by omega) (enow ?_)))
  rw [Int.toNat_natCast, e1, e2]
theorem less_I (a b : Int) : cmp_Less_int.f a b = some (decide (a < b)) := by
  unfold cmp_Less_int.f cmp_isNaN_int.f
  simp
theorem placedS_e (xs : List ByteArray) (x : ByteArray) (hn : xs.length ≤ 4194304) (hc : chainLe xs = true) : Ev (fun k => impl_placed_string.f k xs x) (placeT x xs) := by
  have hp := chainLe_pair xs hc
  have := bsS_e xs x (fun y => ltT y x) (fun y => less_S y x) hn (fun q r hr hq h => by
    rcases Nat.lt_or_eq_of_le hq with hq | rfl
    · have h2 := List.pairwise_iff_getElem.1 hp q r (by omega) hr hq
      cases h3 : ltT xs[q] x with
      | true => rfl
      | false =>
        have := leT_trans h3 h2
        rw [h] at this
        cases this
    · exact h)
  rwa [placeT_eq x xs hp] at this
theorem chainLt_pair : ∀ l : List Int, chainLt l = true → l.Pairwise (fun a b => a < b)
  | [], _ => List.Pairwise.nil
  | [_], _ => List.pairwise_singleton _ _
  | a :: b :: r, h => by
    simp only [chainLt, Bool.and_eq_true, decide_eq_true_eq] at h
    have ih := chainLt_pair (b :: r) h.2
    refine List.Pairwise.cons (fun c hc => ?_) ih
    rcases List.mem_cons.1 hc with rfl | hc
    · exact h.1
    · have := (List.pairwise_cons.1 ih).1 c hc
      omega
def placeI (x : Int) (l : List Int) : List Int := l.takeWhile (fun y => decide (y < x)) ++ x :: l.dropWhile (fun y => decide (y < x))
theorem placeI_len (x : Int) (l : List Int) : (placeI x l).length = l.length + 1 := by
  unfold placeI
  have := congrArg List.length (List.takeWhile_append_dropWhile (p := fun y => decide (y < x)) (l := l))
  simp only [List.length_append, List.length_cons] at this ⊢
  omega
theorem placedI_e (xs : List Int) (x : Int) (hn : xs.length ≤ 4194304) (hc : chainLt xs = true) : Ev (fun k => impl_placed_int.f k xs x) (placeI x xs) := by
  have hp := chainLt_pair xs hc
  exact bsI_e xs x (fun y => decide (y < x)) (fun y => less_I y x) hn (fun q r hr hq h => by
    rcases Nat.lt_or_eq_of_le hq with hq | rfl
    · have h2 := List.pairwise_iff_getElem.1 hp q r (by omega) hr hq
      have h3 : xs[r] < x := by simpa using h
      exact decide_eq_true (by omega)
    · exact h)
def putI (x : Int) : List Int → List Int
  | [] => [x]
  | y :: r => if y < x then y :: putI x r else if y = x then y :: r else x :: y :: r
theorem putI_new (x : Int) : ∀ l : List Int, x ∉ l → putI x l = placeI x l
  | [], _ => rfl
  | y :: r, h => by
    have ih := putI_new x r (fun z => h (by simp [z]))
    have hne : ¬ y = x := fun z => h (by simp [z])
    unfold putI
    by_cases c : y < x
    · rw [if_pos c, ih]
      simp [placeI, c]
    · rw [if_neg c, if_neg hne]
      simp [placeI, c]
theorem put_l (xs : List Int) (x : Int) (hn : xs.length ≤ 1048576) : ∀ (d i : Nat), i + d = xs.length → Ev (fun k => spec_l1Put.l0 k xs x (i : Int)) (xs.take i ++ putI x (xs.drop i)) := by
  intro d
  induction d with
  | zero =>
    intro i hi
    have e1 : xs.take i = xs := List.take_of_length_le (by omega)
    have e2 : xs.drop i = [] := List.drop_eq_nil_of_le (by omega)
    refine eround (fun k => by rw [spec_l1Put.l0]) ?_
    refine eneg (by omega) (enb rfl (epos (by omega) (epos (by omega) (enb rfl ?_))))
    rw [Int.toNat_natCast, e1, e2]
    refine epos (by simp; omega) (enb rfl (epos (by simp; omega) (enb rfl (enb rfl (epos (by simp; omega) (enow ?_))))))
    simp [putI]
  | succ d ih =>
    intro i hi
    have hlt : i < xs.length := by omega
    refine eround (fun k => by rw [spec_l1Put.l0]) ?_
    refine epos (by omega) (epos (by omega) ?_)
    rw [rd_get xs i hlt]
    have e3 : xs.drop i = xs[i] :: xs.drop (i + 1) := List.drop_eq_getElem_cons hlt
    by_cases c : xs[i] < x
    · refine epos c ?_
      rw [w64 (by omega) (by omega), e3, putI, if_pos c, show (i : Int) + 1 = ((i + 1 : Nat) : Int) by omega]
      have := ih (i + 1) (by omega)
      rw [List.take_succ_eq_append_getElem hlt, List.append_assoc] at this
      exact this
    · refine eneg c ?_
      by_cases c2 : xs[i] = x
      · refine epos c2 (enow ?_)
        rw [e3, putI, if_neg c, if_pos c2, ← e3, List.take_append_drop]
      · refine eneg c2 (enb rfl (epos (by omega) (enb rfl ?_)))
        rw [Int.toNat_natCast]
        refine epos (by simp; omega) (enb rfl (epos (by simp; omega) (enb rfl (enb rfl (epos (by simp; omega) (enow ?_))))))
        rw [e3, putI, if_neg c, if_neg c2, ← e3]
        simp
theorem put_e (xs : List Int) (x : Int) (hn : xs.length ≤ 1048576) : Ev (fun k => spec_l1Put.f k xs x) (putI x xs) := by
  have := put_l xs x hn xs.length 0 (by omega)
  rw [List.take_zero, List.nil_append, List.drop_zero] at this
  exact this
theorem place_l (xs : List ByteArray) (x : ByteArray) (hn : xs.length ≤ 1048576) : ∀ (d i : Nat), i + d = xs.length → Ev (fun k => spec_l8Place.l0 k xs x (i : Int)) (xs.take i ++ placeT x (xs.drop i)) := by
  intro d
  induction d with
  | zero =>
    intro i hi
    have e1 : xs.take i = xs := List.take_of_length_le (by omega)
    have e2 : xs.drop i = [] := List.drop_eq_nil_of_le (by omega)
    refine eround (fun k => by rw [spec_l8Place.l0]) ?_
    refine eneg (by omega) (enb rfl (epos (by omega) (epos (by omega) ?_)))
    rw [Int.toNat_natCast, e1, e2]
    refine epos (by simp; omega) (enb rfl (epos (by simp; omega) (enb rfl (epos (by simp; omega) (enow ?_)))))
    simp [placeT]
  | succ d ih =>
    intro i hi
    have hlt : i < xs.length := by omega
    refine eround (fun k => by rw [spec_l8Place.l0]) ?_
    refine epos (by omega) (epos (by omega) ?_)
    rw [show rdOf ByteArray.empty xs (i : Int) = xs[i] from getD_get xs i _ hlt]
    have e3 : xs.drop i = xs[i] :: xs.drop (i + 1) := List.drop_eq_getElem_cons hlt
    by_cases c : ltT x xs[i] = true
    · refine epos c (enb rfl (epos (by omega) ?_))
      rw [Int.toNat_natCast]
      refine epos (by simp; omega) (enb rfl (epos (by simp; omega) (enb rfl (epos (by simp; omega) (enow ?_)))))
      rw [e3, placeT, if_pos c, ← e3]
      simp
    · refine eneg c ?_
      rw [w64 (by omega) (by omega), e3, placeT, if_neg c, show (i : Int) + 1 = ((i + 1 : Nat) : Int) by omega]
      have := ih (i + 1) (by omega)
      rw [List.take_succ_eq_append_getElem hlt, List.append_assoc] at this
      exact this
theorem place_e (xs : List ByteArray) (x : ByteArray) (hn : xs.length ≤ 1048576) : Ev (fun k => spec_l8Place.f k xs x) (placeT x xs) := by
  have := place_l xs x hn xs.length 0 (by omega)
  rw [List.take_zero, List.nil_append, List.drop_zero] at this
  exact this
theorem goodM_parts {pool : List ByteArray} {least wait old : Int} {seen : List Int} (h : goodM pool least wait old seen = true) : chainLe pool = true ∧ pool.length ≤ 12 ∧ chainLt seen = true ∧ seen.length ≤ 100 := by
  unfold goodM letB seenB risB at h
  simp only [Bool.and_eq_true, decide_eq_true_eq] at h
  obtain ⟨h1, _, ⟨_, h2⟩, _, ⟨_, h3⟩, h4⟩ := h
  exact ⟨h1, by omega, h3, by omega⟩
abbrev MixR := List ByteArray × Int × Int × Int × List Int
noncomputable def putM (m : MixR) (x : ByteArray) : MixR × Int :=
  if tagOf x ∈ m.2.2.2.2 then (m, 1) else if m.1.length = 12 ∨ m.2.2.2.2.length = 100 then (m, 2) else ((placeT x m.1, m.2.1, m.2.2.1, m.2.2.2.1, placeI (tagOf x) m.2.2.2.2), 0)
theorem specPut_e (m : MixR) (x : ByteArray) (hp : m.1.length ≤ 1048576) (hs : m.2.2.2.2.length ≤ 1048576) (hx : x.size ≤ 9223372036854775807) : Ev (fun k => spec_l8Put.f k m.1 m.2.1 m.2.2.1 m.2.2.2.1 m.2.2.2.2 x) ((putM m x).1.1, (putM m x).1.2.1, (putM m x).1.2.2.1, (putM m x).1.2.2.2.1, (putM m x).1.2.2.2.2, (putM m x).2) := by
  obtain ⟨_, t1, _, _⟩ := tagOf_all x hx
  unfold spec_l8Put.f putM
  refine ebind t1 (ebind (l1Has_e _ _ (by omega)) ?_)
  by_cases c : tagOf x ∈ m.2.2.2.2
  · rw [if_pos c]
    exact epos (decide_eq_true c) (enow rfl)
  · rw [if_neg c]
    refine eneg (by simpa using c) ?_
    have h2 : Ev (fun k => spec_l8Put.j0 k x m.2.2.2.2 true m.1 m.2.1 m.2.2.1 m.2.2.2.1) (m.1, m.2.1, m.2.2.1, m.2.2.2.1, m.2.2.2.2, 2) := eround (fun k => by rw [spec_l8Put.j0]) (epos rfl (enow rfl))
    by_cases c1 : (m.1.length : Int) = 12
    · rw [if_pos (Or.inl (by omega))]
      exact epos c1 h2
    · refine eneg c1 ?_
      by_cases c2 : m.2.2.2.2.length = 100
      · rw [if_pos (Or.inr c2)]
        have : ((m.2.2.2.2.length : Int) == 100) = true := by simp; omega
        rw [this]
        exact h2
      · rw [if_neg (by omega)]
        have : ((m.2.2.2.2.length : Int) == 100) = false := by simp; omega
        rw [this]
        have e3 := put_e m.2.2.2.2 (tagOf x) hs
        rw [putI_new _ _ c] at e3
        refine eround (fun k => by rw [spec_l8Put.j0]) ?_
        refine eneg (by simp) ?_
        refine ebind (place_e m.1 x hp) ?_
        refine ebind t1 ?_
        refine ebind e3 ?_
        exact enow rfl
noncomputable def putR (m : MixR) (x : ByteArray) : List ByteArray × Int × Int × Int × List Int × Int × Bool :=
  if goodM m.1 m.2.1 m.2.2.1 m.2.2.2.1 m.2.2.2.2 = true then (if (x.size : Int) ≤ 24 then ((putM m x).1.1, (putM m x).1.2.1, (putM m x).1.2.2.1, (putM m x).1.2.2.2.1, (putM m x).1.2.2.2.2, (putM m x).2, true) else ([], 0, 0, 0, [], 0, false)) else ([], 0, 0, 0, [], 0, false)
theorem putM_small (m : MixR) (x : ByteArray) (hp : m.1.length ≤ 1000) (hs : m.2.2.2.2.length ≤ 1000) : (putM m x).1.1.length ≤ 1001 ∧ (putM m x).1.2.2.2.2.length ≤ 1001 := by
  unfold putM
  split
  · refine ⟨?_, ?_⟩ <;> dsimp only <;> omega
  · split
    · refine ⟨?_, ?_⟩ <;> dsimp only <;> omega
    · dsimp only
      rw [placeT_len, placeI_len]
      omega
theorem specPM_e (m : MixR) (x : ByteArray) (hp : m.1.length ≤ 1048576) (hs : m.2.2.2.2.length ≤ 1048576) (hz : ∀ y ∈ m.1, y.size ≤ 9223372036854775807) (hx : x.size ≤ 9223372036854775807) : Ev (fun k => spec_PutMix.f k m.1 m.2.1 m.2.2.1 m.2.2.2.1 m.2.2.2.2 x) (putR m x) := by
  unfold spec_PutMix.f putR
  have hj : Ev (fun k => spec_PutMix.j0 k x true m.1 m.2.1 m.2.2.1 m.2.2.2.1 m.2.2.2.2) (([], 0, 0, 0, [], 0, false) : List ByteArray × Int × Int × Int × List Int × Int × Bool) := eround (fun k => by rw [spec_PutMix.j0]) (epos rfl (enow rfl))
  refine ebind (specGM_e m.1 m.2.1 m.2.2.1 m.2.2.2.1 m.2.2.2.2 hp hs hz) ?_
  by_cases g : goodM m.1 m.2.1 m.2.2.1 m.2.2.2.1 m.2.2.2.2 = true
  · rw [if_pos g]
    refine epos g (enb (a := decide ((x.size : Int) ≤ 24)) rfl ?_)
    obtain ⟨g1, g2, g3, g4⟩ := goodM_parts g
    by_cases c : (x.size : Int) ≤ 24
    · rw [if_pos c, decide_eq_true c]
      refine eround (fun k => by rw [spec_PutMix.j0]) (eneg (by simp) ?_)
      refine enb (a := m) (by unfold spec_l8Own.f; simp; omega) ?_
      refine ebind (specPut_e m x hp hs hx) ?_
      obtain ⟨s1, s2⟩ := putM_small m x (by omega) (by omega)
      refine enb (a := (putM m x).1) (by unfold spec_l8Own.f; simp; omega) (enow rfl)
    · rw [if_neg c, decide_eq_false c]
      exact hj
  · rw [if_neg g]
    exact eneg g hj
theorem implPM_e (m : MixR) (x : ByteArray) (hp : m.1.length ≤ 1048576) (hs : m.2.2.2.2.length ≤ 1048576) (hz : ∀ y ∈ m.1, y.size ≤ 9223372036854775807) (hx : x.size ≤ 9223372036854775807) : Ev (fun k => impl_PutMix.f k m.1 m.2.1 m.2.2.1 m.2.2.2.1 m.2.2.2.2 x) (putR m x) := by
  unfold impl_PutMix.f putR
  have hj : Ev (fun k => impl_PutMix.j0 k x true m.1 m.2.1 m.2.2.1 m.2.2.2.1 m.2.2.2.2) (([], 0, 0, 0, [], 0, false) : List ByteArray × Int × Int × Int × List Int × Int × Bool) := eround (fun k => by rw [impl_PutMix.j0]) (epos rfl (enow rfl))
  refine ebind (implGM_e m.1 m.2.1 m.2.2.1 m.2.2.2.1 m.2.2.2.2 hp hs hz) ?_
  by_cases g : goodM m.1 m.2.1 m.2.2.1 m.2.2.2.1 m.2.2.2.2 = true
  · rw [if_pos g]
    refine epos g (enb (a := decide ((x.size : Int) ≤ 24)) rfl ?_)
    obtain ⟨g1, g2, g3, g4⟩ := goodM_parts g
    obtain ⟨t1, _, _, _⟩ := tagOf_all x hx
    by_cases c : (x.size : Int) ≤ 24
    · rw [if_pos c, decide_eq_true c]
      refine eround (fun k => by rw [impl_PutMix.j0]) (eneg (by simp) ?_)
      have o1 : slices_Clone_string_string.f m.1 = some m.1 := by unfold slices_Clone_string_string.f; simp; omega
      have o2 : slices_Clone_int_int.f m.2.2.2.2 = some m.2.2.2.2 := by unfold slices_Clone_int_int.f; simp; omega
      refine enb (a := m) (by unfold impl_Mix_own.f; rw [o1, Option.bind_some, o2]; rfl) ?_
      refine ebind t1 (ebind (coI_e _ _ (by omega)) ?_)
      unfold putM
      by_cases c : tagOf x ∈ m.2.2.2.2
      · rw [if_pos c]
        exact epos (decide_eq_true c) (enow rfl)
      · rw [if_neg c]
        refine eneg (by simpa using c) ?_
        have h2 : Ev (fun k => impl_PutMix.j1 k x (tagOf x) true m.1 m.2.1 m.2.2.1 m.2.2.2.1 m.2.2.2.2 m.1 m.2.1 m.2.2.1 m.2.2.2.1 m.2.2.2.2) (m.1, m.2.1, m.2.2.1, m.2.2.2.1, m.2.2.2.2, 2, true) := eround (fun k => by rw [impl_PutMix.j1]) (epos rfl (enow rfl))
        by_cases c1 : (m.1.length : Int) = 12
        · rw [if_pos (Or.inl (by omega))]
          exact epos c1 h2
        · refine eneg c1 ?_
          by_cases c2 : m.2.2.2.2.length = 100
          · rw [if_pos (Or.inr c2)]
            have : ((m.2.2.2.2.length : Int) == 100) = true := by simp; omega
            rw [this]
            exact h2
          · rw [if_neg (by omega)]
            have : ((m.2.2.2.2.length : Int) == 100) = false := by simp; omega
            rw [this]
            refine eround (fun k => by rw [impl_PutMix.j1]) ?_
            refine eneg (by simp) ?_
            refine ebind (placedS_e m.1 x (by omega) g1) ?_
            refine ebind (placedI_e m.2.2.2.2 (tagOf x) (by omega) g3) ?_
            exact enow rfl
    · rw [if_neg c, decide_eq_false c]
      exact hj
  · rw [if_neg g]
    exact eneg g hj
theorem putR_small (m : MixR) (x : ByteArray) : (putR m x).1.length ≤ 1048576 ∧ (putR m x).2.2.2.2.1.length ≤ 1048576 := by
  unfold putR
  by_cases g : goodM m.1 m.2.1 m.2.2.1 m.2.2.2.1 m.2.2.2.2 = true
  · rw [if_pos g]
    obtain ⟨g1, g2, g3, g4⟩ := goodM_parts g
    obtain ⟨s1, s2⟩ := putM_small m x (by omega) (by omega)
    split
    · dsimp only; omega
    · simp
  · rw [if_neg g]
    simp
theorem FnExactPutMix : laws_FnExactPutMix.Pure := by
  intro p a b c l x hW hx
  obtain ⟨⟨w1, w2⟩, _, _, _, w3, _⟩ := hW
  unfold maxLen at w1 w2 w3 hx
  apply Ev.rounds
  unfold laws_FnExactPutMix.f
  by_cases hb : (x.size : Int) > 1048576
  · exact epos hb (enow rfl)
  refine eneg hb ?_
  obtain ⟨r, z1, z2, z3⟩ := laws_szMix_z p a b c l 1048576 (by omega) (by omega) ⟨by dsimp only at w1; omega, fun y hy => by have := w2 y hy; omega⟩ (by dsimp only at w3; omega)
  refine ebind z2 ?_
  by_cases hr : r < 0
  · exact epos hr (enow rfl)
  refine eneg hr ?_
  obtain ⟨hp, hl⟩ := z3 (by omega)
  have hz : ∀ y ∈ p, y.size ≤ 9223372036854775807 := fun y hy => by have := w2 y hy; omega
  have e1 := laws_toMix_e p a b c l hp hl
  have e2 := specPM_e (p, a, b, c, l) x hp hl hz (by omega)
  have e3 := implPM_e (p, a, b, c, l) x hp hl hz (by omega)
  obtain ⟨s1, s2⟩ := putR_small (p, a, b, c, l) x
  have e4 := laws_eqMix_r (putR (p, a, b, c, l) x).1 (putR (p, a, b, c, l) x).2.1 (putR (p, a, b, c, l) x).2.2.1 (putR (p, a, b, c, l) x).2.2.2.1 (putR (p, a, b, c, l) x).2.2.2.2.1 s1 s2
  have e5 := laws_eqMix_r p a b c l hp hl
  obtain ⟨_, _, t, t0, t1, q2, q3⟩ := laws_markMix_m p a b c l 1 hp hl (by omega) (by omega)
  obtain ⟨_, _, t', t0', t1', q4, q5⟩ := laws_markMix_m (putR (p, a, b, c, l) x).1 (putR (p, a, b, c, l) x).2.1 (putR (p, a, b, c, l) x).2.2.1 (putR (p, a, b, c, l) x).2.2.2.1 (putR (p, a, b, c, l) x).2.2.2.2.1 1 s1 s2 (by omega) (by omega)
  repeat' first
    | exact enow rfl
    | (with_reducible refine ebind e1 ?_)
    | (with_reducible refine ebind e2 ?_)
    | (with_reducible refine ebind e3 ?_)
    | (with_reducible refine ebind e4 ?_)
    | (with_reducible refine ebind e5 ?_)
    | (with_reducible refine ebind q2 ?_)
    | (with_reducible refine ebind q4 ?_)
    | (with_reducible refine ebind q5 ?_)
    | (with_reducible refine eround (fun k => laws_FnExactPutMix.j0.eq_2 _ _ _ _ _ _ _ _ _ _ _ _ _ _ _ _ _ _ _ _ _ _ _ _ _ _ _) ?_)
    | (with_reducible refine eround (fun k => laws_FnExactPutMix.j1.eq_2 _ _ _ _ _ _ _ _ _ _ _ _ _ _ _ _ _ _ _ _) ?_)
    | (with_reducible refine eround (fun k => laws_FnExactPutMix.j2.eq_2 _ _ _ _ _ _ _ _) ?_)
    | (with_reducible refine enb rfl ?_)
    | (with_reducible refine epos rfl ?_)
    | (refine eneg ?_ ?_; focus (first | omega | (dsimp only; omega) | (simp; done) | (simp; omega)))

end Go.Proofs.Ytkgogglnipdcfaa.Pure
