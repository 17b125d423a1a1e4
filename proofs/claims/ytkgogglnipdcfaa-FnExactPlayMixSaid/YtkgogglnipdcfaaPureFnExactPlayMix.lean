/- The law FnExactPlayMix, told over texts, numbers and lists: the program's PlayMix and the reference's answer alike, nothing is written into the argument, and the rows of the answer lie apart. No condition. -/
import Derived.Test.YtkgogglnipdcfaaQFnExactPlayMixx7
import Derived.Test.YtkgogglnipdcfaaPk
namespace Go.Proofs.Ytkgogglnipdcfaa.Pure
open Go.RowKit Go.Proofs.Ytkgogglnipdcfaa.QFnExactPlayMix Go.Proofs.YtkgogglnipdcfaaW.PrintWords Go.Proofs.YtkgogglnipdcfaaW.PrintLast Go.Proofs.YtkgogglnipdcfaaW.PrintMore Go.Proofs.Ytkgogglnipdcfaa
set_option linter.unusedVariables false
set_option linter.unusedSimpArgs false

open Pk
theorem laws_markText_l : ∀ (n : Nat) (m : Int) (x : ByteArray), m ≤ n → (x.size : Int) + m ≤ 4611686018427387904 → 0 ≤ m → ∃ t, Ev (fun k => laws_markText.l0 k m x) t := by
  intro n
  induction n with
  | zero =>
    intro m x h h1 h0
    have : x.size + 1 ≤ 9223372036854775807 := by omega
    exact ⟨_, eround (fun k => by rw [laws_markText.l0]) (eneg (by omega) (epos (by omega) (enow rfl)))⟩
  | succ n ih =>
    intro m x h h1 h0
    by_cases hm : m > 0
    · have hs : ∀ d : Int, (strOfNums [d]).size = 1 := fun d => by simp [strOfNums, ByteArray.size]
      have e : Int.tdiv m 10 = m / 10 := Int.tdiv_eq_ediv_of_nonneg h0
      obtain ⟨t, ht⟩ := ih (m / 10) (strOfNums [(wrap64 (48 + (Int.tmod m 10))) % 256] ++ x) (by omega) (by rw [ByteArray.size_append, hs]; push_cast; omega) (by omega)
      refine ⟨t, eround (fun k => by rw [laws_markText.l0]) (epos hm ?_)⟩
      refine enb rfl ?_
      refine epos (by rw [hs]; omega) ?_
      rw [e, w64 (by omega) (by omega)]
      exact ht
    · have : x.size + 1 ≤ 9223372036854775807 := by omega
      exact ⟨_, eround (fun k => by rw [laws_markText.l0]) (eneg (by omega) (epos (by omega) (enow rfl)))⟩
noncomputable def mtext (m : Int) : ByteArray := theEv ByteArray.empty (fun k => laws_markText.f k m)
theorem laws_markText_m (m : Int) (h0 : 0 ≤ m) (h1 : m ≤ 4611686018427387904) : Ev (fun k => laws_markText.f k m) (mtext m) := by
  have : ∃ t, Ev (fun k => laws_markText.f k m) t := by
    unfold laws_markText.f
    by_cases h : m ≤ 0
    · exact ⟨_, epos h (enow rfl)⟩
    · obtain ⟨t, ht⟩ := laws_markText_l m.toNat m ⟨#[]⟩ (by omega) (by simp [ByteArray.size]; omega) h0
      exact ⟨t, eneg h ht⟩
  obtain ⟨t, ht⟩ := this
  exact theEv_of ht
/-! laws_szStringS -/
theorem laws_szStringS_l (xs : List ByteArray) (hw : xs.length ≤ 9223372036854775807 ∧ ∀ y ∈ xs, y.size ≤ 9223372036854775807) : ∀ (d i : Nat) (m : Int), i + d = xs.length → 0 ≤ m → m ≤ 1048576 → ∃ r, r ≤ m ∧ Ev (fun k => laws_szStringS.l0 k xs m (i : Int)) r ∧ (0 ≤ r → ∀ y ∈ xs.drop i, True) := by
  have hn := hw.1
  intro d
  induction d with
  | zero =>
    intro i m hi h0 h1
    exact ⟨m, Int.le_refl _, eround (fun k => by rw [laws_szStringS.l0]) (eneg (by omega) (enow rfl)), fun _ y hy => by rw [List.drop_eq_nil_of_le (by omega)] at hy; simp at hy⟩
  | succ d ih =>
    intro i m hi h0 h1
    have hlt : i < xs.length := by omega
    have hg : rdOf ByteArray.empty xs (i : Int) = xs[i] := getD_get xs i _ hlt
    have hy := hw.2 _ (List.getElem_mem hlt)
    have t1 : m - (xs[i].size : Int) ≤ m := by omega
    have t3 : 0 ≤ m - (xs[i].size : Int) → True := fun _ => trivial
    generalize hq : m - (xs[i].size : Int) = t at t1 t3
    by_cases ht : t < 0
    · refine ⟨-1, by omega, eround (fun k => by rw [laws_szStringS.l0]) (epos (by omega) (epos (by omega) ?_)), fun h => by omega⟩
      rw [hg]
      rw [w64 (x := m - (xs[i].size : Int)) (by omega) (by omega), hq]
      exact epos ht (enow rfl)
    · obtain ⟨r, r1, r2, r3⟩ := ih (i + 1) t (by omega) (by omega) (by omega)
      refine ⟨r, by omega, eround (fun k => by rw [laws_szStringS.l0]) (epos (by omega) (epos (by omega) ?_)), fun h y hy' => ?_⟩
      · rw [hg, w64 (x := (i : Int) + 1) (by omega) (by omega)]
        rw [w64 (x := m - (xs[i].size : Int)) (by omega) (by omega), hq]
        refine eneg ht ?_
        exact r2
      · rw [List.drop_eq_getElem_cons hlt] at hy'
        rcases List.mem_cons.1 hy' with rfl | hy'
        · exact t3 (by omega)
        · exact r3 h y hy'
theorem laws_szStringS_z (xs : List ByteArray) (m : Int) (h0 : 0 ≤ m) (h1 : m ≤ 1048576) (hw : xs.length ≤ 9223372036854775807 ∧ ∀ y ∈ xs, y.size ≤ 9223372036854775807) : ∃ r, r ≤ m ∧ Ev (fun k => laws_szStringS.f k xs m) r ∧ (0 ≤ r → xs.length ≤ 1048576) := by
  have hn := hw.1
  unfold laws_szStringS.f
  rw [w64 (by omega) (by omega)]
  by_cases h : m - (xs.length : Int) < 0
  · exact ⟨-1, by omega, epos h (enow rfl), fun h => by omega⟩
  · obtain ⟨r, r1, r2, r3⟩ := laws_szStringS_l xs hw xs.length 0 (m - xs.length) (by omega) (by omega) (by omega)
    exact ⟨r, by omega, eneg h r2, fun h => by omega⟩
/-! laws_szStringSS -/
theorem laws_szStringSS_l (xs : List (List ByteArray)) (hw : xs.length ≤ 9223372036854775807 ∧ ∀ y ∈ xs, y.length ≤ 9223372036854775807 ∧ ∀ z ∈ y, z.size ≤ 9223372036854775807) : ∀ (d i : Nat) (m : Int), i + d = xs.length → 0 ≤ m → m ≤ 1048576 → ∃ r, r ≤ m ∧ Ev (fun k => laws_szStringSS.l0 k xs m (i : Int)) r ∧ (0 ≤ r → ∀ y ∈ xs.drop i, y.length ≤ 1048576) := by
  have hn := hw.1
  intro d
  induction d with
  | zero =>
    intro i m hi h0 h1
    exact ⟨m, Int.le_refl _, eround (fun k => by rw [laws_szStringSS.l0]) (eneg (by omega) (enow rfl)), fun _ y hy => by rw [List.drop_eq_nil_of_le (by omega)] at hy; simp at hy⟩
  | succ d ih =>
    intro i m hi h0 h1
    have hlt : i < xs.length := by omega
    have hg : rd_L1 xs (i : Int) = xs[i] := getD_get xs i _ hlt
    have hy := hw.2 _ (List.getElem_mem hlt)
    obtain ⟨t, t1, t2, t3⟩ := laws_szStringS_z xs[i] m h0 h1 hy
    by_cases ht : t < 0
    · refine ⟨-1, by omega, eround (fun k => by rw [laws_szStringSS.l0]) (epos (by omega) (epos (by omega) ?_)), fun h => by omega⟩
      rw [hg]
      exact ebind t2 (epos ht (enow rfl))
    · obtain ⟨r, r1, r2, r3⟩ := ih (i + 1) t (by omega) (by omega) (by omega)
      refine ⟨r, by omega, eround (fun k => by rw [laws_szStringSS.l0]) (epos (by omega) (epos (by omega) ?_)), fun h y hy' => ?_⟩
      · rw [hg, w64 (x := (i : Int) + 1) (by omega) (by omega)]
        refine ebind t2 (eneg ht ?_)
        exact r2
      · rw [List.drop_eq_getElem_cons hlt] at hy'
        rcases List.mem_cons.1 hy' with rfl | hy'
        · exact t3 (by omega)
        · exact r3 h y hy'
theorem laws_szStringSS_z (xs : List (List ByteArray)) (m : Int) (h0 : 0 ≤ m) (h1 : m ≤ 1048576) (hw : xs.length ≤ 9223372036854775807 ∧ ∀ y ∈ xs, y.length ≤ 9223372036854775807 ∧ ∀ z ∈ y, z.size ≤ 9223372036854775807) : ∃ r, r ≤ m ∧ Ev (fun k => laws_szStringSS.f k xs m) r ∧ (0 ≤ r → xs.length ≤ 1048576 ∧ ∀ y ∈ xs, y.length ≤ 1048576) := by
  have hn := hw.1
  unfold laws_szStringSS.f
  rw [w64 (by omega) (by omega)]
  by_cases h : m - (xs.length : Int) < 0
  · exact ⟨-1, by omega, epos h (enow rfl), fun h => by omega⟩
  · obtain ⟨r, r1, r2, r3⟩ := laws_szStringSS_l xs hw xs.length 0 (m - xs.length) (by omega) (by omega) (by omega)
    exact ⟨r, by omega, eneg h r2, fun h => ⟨by omega, fun y hy => r3 h y hy⟩⟩
/-! laws_toStringS -/
theorem laws_toStringS_l (xs : List ByteArray) (hs : xs.length ≤ 1048576) : ∀ (d i : Nat) (acc : List ByteArray), i + d = xs.length → acc.length = xs.length → acc.take i = xs.take i → Ev (fun k => laws_toStringS.l0 k xs acc (i : Int)) xs := by
  have hn := hs
  intro d
  induction d with
  | zero =>
    intro i acc hi hl ht
    refine eround (fun k => by rw [laws_toStringS.l0]) (eneg (by omega) (enow ?_))
    rwa [List.take_of_length_le (by omega), List.take_of_length_le (by first | omega | (simp; omega))] at ht
  | succ d ih =>
    intro i acc hi hl ht
    have hlt : i < xs.length := by omega
    refine eround (fun k => by rw [laws_toStringS.l0]) (epos (by omega) (epos (by omega) ?_))
    refine epos (by omega) ?_
    rw [w64 (by omega) (by omega)]
    refine ih (i + 1) _ (by omega) (by simpa using hl) ?_
    exact take_set_succ _ _ rfl (by first | exact hlt | (simp; omega)) (by first | exact hl | simpa using hl) ht (by first | exact (getD_get xs i _ hlt).symm | (simp only [List.getElem_map]; rw [← getD_get xs i _ hlt]; rfl))
theorem laws_toStringS_e (xs : List ByteArray) (hs : xs.length ≤ 1048576) : Ev (fun k => laws_toStringS.f k xs) xs := by
  have hn := hs
  unfold laws_toStringS.f
  exact epos (by omega) (epos (by omega) (laws_toStringS_l xs hs xs.length 0 _ (by omega) (by simp) (by simp)))
/-! laws_toStringSS -/
theorem laws_toStringSS_l (xs : List (List ByteArray)) (hs : (xs.length ≤ 1048576 ∧ ∀ y ∈ xs, y.length ≤ 1048576)) : ∀ (d i : Nat) (acc : List (List ByteArray)), i + d = xs.length → acc.length = xs.length → acc.take i = xs.take i → Ev (fun k => laws_toStringSS.l0 k xs acc (i : Int)) xs := by
  have hn := hs.1
  intro d
  induction d with
  | zero =>
    intro i acc hi hl ht
    refine eround (fun k => by rw [laws_toStringSS.l0]) (eneg (by omega) (enow ?_))
    rwa [List.take_of_length_le (by omega), List.take_of_length_le (by first | omega | (simp; omega))] at ht
  | succ d ih =>
    intro i acc hi hl ht
    have hlt : i < xs.length := by omega
    refine eround (fun k => by rw [laws_toStringSS.l0]) (epos (by omega) (epos (by omega) ?_))
    refine ebind (laws_toStringS_e _ (by show (xs.getD ((i : Int)).toNat []).length ≤ _; rw [getD_get xs i _ hlt]; exact hs.2 _ (List.getElem_mem hlt))) (epos (by omega) ?_)
    rw [w64 (by omega) (by omega)]
    refine ih (i + 1) _ (by omega) (by simpa using hl) ?_
    exact take_set_succ _ _ rfl (by first | exact hlt | (simp; omega)) (by first | exact hl | simpa using hl) ht (by first | exact (getD_get xs i _ hlt).symm | (simp only [List.getElem_map]; rw [← getD_get xs i _ hlt]; rfl))
theorem laws_toStringSS_e (xs : List (List ByteArray)) (hs : (xs.length ≤ 1048576 ∧ ∀ y ∈ xs, y.length ≤ 1048576)) : Ev (fun k => laws_toStringSS.f k xs) xs := by
  have hn := hs.1
  unfold laws_toStringSS.f
  exact epos (by omega) (epos (by omega) (laws_toStringSS_l xs hs xs.length 0 _ (by omega) (by simp) (by simp)))
/-! laws_eqStringS -/
theorem laws_eqStringS_lr (xs : List ByteArray) (hs : xs.length ≤ 1048576) : ∀ (d i : Nat), i + d = xs.length → Ev (fun k => laws_eqStringS.l0 k xs xs (i : Int)) true := by
  have hn := hs
  intro d
  induction d with
  | zero =>
    intro i hi
    exact eround (fun k => by rw [laws_eqStringS.l0]) (eneg (by omega) (enow rfl))
  | succ d ih =>
    intro i hi
    have hlt : i < xs.length := by omega
    refine eround (fun k => by rw [laws_eqStringS.l0]) (epos (by omega) (epos (by omega) (epos (by omega) ?_)))
    first | refine epos rfl ?_ | (refine eneg ?_ ?_; focus (simp; done))
    rw [w64 (by omega) (by omega)]
    exact ih (i + 1) (by omega)
theorem laws_eqStringS_r (xs : List ByteArray) (hs : xs.length ≤ 1048576) : Ev (fun k => laws_eqStringS.f k xs xs) true := by
  unfold laws_eqStringS.f
  exact epos rfl (laws_eqStringS_lr xs hs xs.length 0 (by omega))
/-! laws_eqStringSS -/
theorem laws_eqStringSS_lr (xs : List (List ByteArray)) (hs : (xs.length ≤ 1048576 ∧ ∀ y ∈ xs, y.length ≤ 1048576)) : ∀ (d i : Nat), i + d = xs.length → Ev (fun k => laws_eqStringSS.l0 k xs xs (i : Int)) true := by
  have hn := hs.1
  intro d
  induction d with
  | zero =>
    intro i hi
    exact eround (fun k => by rw [laws_eqStringSS.l0]) (eneg (by omega) (enow rfl))
  | succ d ih =>
    intro i hi
    have hlt : i < xs.length := by omega
    refine eround (fun k => by rw [laws_eqStringSS.l0]) (epos (by omega) (epos (by omega) (epos (by omega) ?_)))
    refine ebind (laws_eqStringS_r (xs.getD ((i : Int)).toNat []) (by rw [getD_get xs i _ hlt]; exact hs.2 _ (List.getElem_mem hlt))) (epos rfl ?_)
    rw [w64 (by omega) (by omega)]
    exact ih (i + 1) (by omega)
theorem laws_eqStringSS_r (xs : List (List ByteArray)) (hs : (xs.length ≤ 1048576 ∧ ∀ y ∈ xs, y.length ≤ 1048576)) : Ev (fun k => laws_eqStringSS.f k xs xs) true := by
  unfold laws_eqStringSS.f
  exact epos rfl (laws_eqStringSS_lr xs hs xs.length 0 (by omega))
/-! laws_markStringS -/
theorem laws_markStringS_h : ∀ (d i : Nat) (xs : List ByteArray) (m : Int), i + d = xs.length → xs.length ≤ 1048576 → 0 ≤ m → m ≤ 4611686018427387904 - 1 * d → ∃ ys : List ByteArray, ys.length = xs.length ∧ ys.take i = xs.take i ∧
    Ev (fun k => laws_markStringS.l0 k xs m (i : Int)) (m + 1 * d, ys) ∧ Ev (fun k => laws_heldStringS.l0 k ys m (i : Int)) (m + 1 * d) := by
  intro d
  induction d with
  | zero =>
    intro i xs m hi hn h0 h1
    exact ⟨xs, rfl, rfl, eround (fun k => by rw [laws_markStringS.l0]) (eneg (by omega) (enow (by simp))), eround (fun k => by rw [laws_heldStringS.l0]) (eneg (by omega) (enow (by simp)))⟩
  | succ d ih =>
    intro i xs m hi hn h0 h1
    have hlt : i < xs.length := by omega
    have w1 : wrap64 ((i : Int) + 1) = ((i + 1 : Nat) : Int) := by rw [w64 (by omega) (by omega)]; rfl
    have v0 : wrap64 (m + 1) = m + 1 := w64 (by omega) (by omega)
    obtain ⟨ys, hl, ht, hm, hh⟩ := ih (i + 1) (xs.set ((i : Int)).toNat (mtext m)) (m + 1) (by simp; omega) (by simpa using hn) (by omega) (by push_cast at h1; omega)
    have hlt' : i < ys.length := by rw [hl]; simpa using hlt
    have hy : ys[i] = (mtext m) := by
      have := congrArg (fun l => l[i]?) ht
      simp only [List.getElem?_take_of_lt (Nat.lt_succ_self i), List.getElem?_eq_getElem hlt'] at this
      rw [show ((i : Int)).toNat = i by simp, List.getElem?_set_self (by simpa using hlt)] at this
      exact Option.some.inj this
    refine ⟨ys, by rw [hl]; simp, ?_, ?_, ?_⟩
    · have := congrArg (List.take i) ht
      rw [List.take_take, List.take_take, Nat.min_eq_left (by omega)] at this
      rw [this]
      simp [List.take_set_of_le]
    · refine eround (fun k => by rw [laws_markStringS.l0]) (epos (by omega) ?_)
      try simp only [w1, v0]
      refine ebind (laws_markText_m _ (by omega) (by omega)) ?_
      refine epos (by omega) ?_
      refine enb rfl ?_
      try simp only [w1, v0]
      skip
      rw [show m + 1 * ((d + 1 : Nat) : Int) = m + 1 + 1 * (d : Int) by push_cast; omega]
      simpa using hm
    · refine eround (fun k => by rw [laws_heldStringS.l0]) (epos (by omega) (epos (by omega) ?_))
      have hr : ∀ z, ys.getD ((i : Int)).toNat z = ys[i] := fun z => getD_get ys i z hlt'
      try simp only [w1, v0]
      simp only [rd, rdOf, hr, hy]
      first | ((with_reducible refine ebind (laws_markText_m _ ?_ ?_) ?_); (focus omega); (focus omega)) | (repeat (first | refine epos trivial ?_ | (with_reducible refine epos rfl ?_) | (refine eneg ?_ ?_; focus (simp; done))); (with_reducible refine ebind (laws_markText_m _ ?_ ?_) ?_); (focus omega); (focus omega))
      repeat (first | refine epos trivial ?_ | refine epos rfl ?_ | (refine eneg ?_ ?_; focus (simp; done)))
      rw [show m + 1 * ((d + 1 : Nat) : Int) = m + 1 + 1 * (d : Int) by push_cast; omega]
      exact hh
theorem laws_markStringS_m (xs : List ByteArray) (m : Int) (hn : xs.length ≤ 1048576) (h0 : 0 ≤ m) (h1 : m ≤ 4611686018427387904 - 1 * xs.length) : ∃ ys : List ByteArray, ys.length = xs.length ∧ Ev (fun k => laws_markStringS.f k xs m) (m + 1 * xs.length, ys) ∧ Ev (fun k => laws_heldStringS.f k ys m) (m + 1 * xs.length) := by
  obtain ⟨ys, hl, _, h⟩ := laws_markStringS_h xs.length 0 xs m (by omega) hn h0 h1
  exact ⟨ys, hl, h⟩
/-! laws_markStringSS -/
theorem laws_markStringSS_h : ∀ (d i : Nat) (xs : List (List ByteArray)) (m : Int), i + d = xs.length → xs.length ≤ 1048576 → (∀ (j : Nat) (h : j < xs.length), i ≤ j → xs[j].length ≤ 1048576) → 0 ≤ m → m ≤ 4611686018427387904 - 1048576 * d → ∃ (ys : List (List ByteArray)) (t : Int), m ≤ t ∧ t ≤ m + 1048576 * d ∧ ys.length = xs.length ∧ ys.take i = xs.take i ∧ Ev (fun k => laws_markStringSS.l0 k xs m (i : Int)) (t, ys) ∧ Ev (fun k => laws_heldStringSS.l0 k ys m (i : Int)) t := by
  intro d
  induction d with
  | zero =>
    intro i xs m hi hn hs h0 h1
    exact ⟨xs, m, Int.le_refl _, by omega, rfl, rfl, eround (fun k => by rw [laws_markStringSS.l0]) (eneg (by omega) (enow rfl)), eround (fun k => by rw [laws_heldStringSS.l0]) (eneg (by omega) (enow rfl))⟩
  | succ d ih =>
    intro i xs m hi hn hs h0 h1
    have hlt : i < xs.length := by omega
    have w1 : wrap64 ((i : Int) + 1) = ((i + 1 : Nat) : Int) := by rw [w64 (by omega) (by omega)]; rfl
    have hb := hs i hlt (Nat.le_refl _)
    obtain ⟨zs, hz, m1, m2⟩ := laws_markStringS_m xs[i] m hb h0 (by push_cast at h1; omega)
    generalize he : m + 1 * (xs[i].length : Int) = m' at m1 m2
    obtain ⟨ys, t, t0, t1, hl, ht, hm, hh⟩ := ih (i + 1) (xs.set i zs) m' (by simp; omega) (by simpa using hn) (fun j h hj => by rw [List.getElem_set_ne (by omega)]; exact hs j (by simpa using h) (by omega)) (by omega) (by push_cast at h1; omega)
    have hmk : Ev (fun k => laws_markStringSS.l0 k xs m (i : Int)) (t, ys) := by
      refine eround (fun k => by rw [laws_markStringSS.l0]) (epos (by omega) (epos (by omega) ?_))
      rw [show laws_markStringSS.rd xs (i : Int) = xs[i] from getD_get xs i _ hlt]
      refine ebind m1 ?_
      rw [w1]
      exact hm
    have hlt' : i < ys.length := by rw [hl]; simpa using hlt
    have hy : ys[i] = zs := by
      have := congrArg (fun l => l[i]?) ht
      simp only [List.getElem?_take_of_lt (Nat.lt_succ_self i), List.getElem?_eq_getElem hlt'] at this
      rw [List.getElem?_set_self (by simpa using hlt)] at this
      exact Option.some.inj this
    refine ⟨ys, t, by omega, by push_cast; omega, by rw [hl]; simp, ?_, hmk, ?_⟩
    · have := congrArg (List.take i) ht
      rw [List.take_take, List.take_take, Nat.min_eq_left (by omega)] at this
      rw [this]
      simp [List.take_set_of_le]
    · refine eround (fun k => by rw [laws_heldStringSS.l0]) (epos (by omega) (epos (by omega) ?_))
      rw [show rd_L1 ys (i : Int) = ys[i] from getD_get ys i _ hlt', hy]
      refine ebind m2 (eneg (by omega) ?_)
      rw [w1]
      exact hh
theorem laws_markStringSS_m (xs : List (List ByteArray)) (m : Int) (hs : xs.length ≤ 1048576 ∧ ∀ y ∈ xs, y.length ≤ 1048576) (h0 : 0 ≤ m) (h1 : m ≤ 4611686018427387904 - 1048576 * xs.length) : ∃ (ys : List (List ByteArray)) (t : Int), m ≤ t ∧ t ≤ m + 1048576 * xs.length ∧ Ev (fun k => laws_markStringSS.f k xs m) (t, ys) ∧ Ev (fun k => laws_heldStringSS.f k ys m) t := by
  obtain ⟨ys, t, t0, t1, hl, h⟩ := laws_markStringSS_h xs.length 0 xs m (by omega) hs.1 (fun j h _ => hs.2 _ (List.getElem_mem h)) h0 h1
  exact ⟨ys, t, t0, t1, h.2⟩
def inR (lo hi x : Int) : Bool := decide (x ≥ lo) && decide (x ≤ hi)
theorem inR_iff {lo hi x : Int} : inR lo hi x = true ↔ lo ≤ x ∧ x ≤ hi := by simp [inR]
theorem l1In_eq (a lo hi : Int) : spec_l1In.f a lo hi = some (inR lo hi a) := by
  unfold spec_l1In.f inR
  by_cases h : a ≥ lo <;> simp [h]
theorem within_eq (a lo hi : Int) : impl_within.f a lo hi = some (inR lo hi a) := by
  unfold impl_within.f inR
  by_cases h : a ≥ lo <;> simp [h]
theorem allWithin_l (xs : List Int) (lo up : Int) (hn : xs.length ≤ 9223372036854775807) : ∀ (d i : Nat), i + d = xs.length → Ev (fun k => impl_allWithin.l0 k lo up xs (xs.length : Int) (i : Int)) ((xs.drop i).all (inR lo up)) := by
  intro d
  induction d with
  | zero =>
    intro i hi
    refine eround (fun k => by rw [impl_allWithin.l0]) ?_
    refine eneg (by omega) (enow ?_)
    rw [List.drop_eq_nil_of_le (by omega)]; rfl
  | succ d ih =>
    intro i hi
    have hlt : i < xs.length := by omega
    refine eround (fun k => by rw [impl_allWithin.l0]) ?_
    refine epos (by omega) (epos (by omega) (epos (by omega) ?_))
    rw [rd_get xs i hlt, List.drop_eq_getElem_cons hlt, List.all_cons]
    refine enb (within_eq _ _ _) ?_
    cases h : inR lo up xs[i] with
    | true =>
      refine epos rfl ?_
      rw [w64 (by omega) (by omega)]
      simpa using ih (i + 1) (by omega)
    | false => exact eneg (by simp) (enow (by simp))
theorem allWithin_e (xs : List Int) (lo up : Int) (hn : xs.length ≤ 9223372036854775807) : Ev (fun k => impl_allWithin.f k xs lo up) (xs.all (inR lo up)) :=
  allWithin_l xs lo up hn xs.length 0 (by omega)
def chainLt : List Int → Bool
  | a :: b :: r => decide (a < b) && chainLt (b :: r)
  | _ => true
theorem chainLt_drop (xs : List Int) (i : Nat) (h : i + 1 < xs.length) : chainLt (xs.drop i) = (decide (xs[i] < xs[i + 1]) && chainLt (xs.drop (i + 1))) := by
  rw [List.drop_eq_getElem_cons (show i < xs.length by omega), List.drop_eq_getElem_cons h]; rfl
theorem chainLt_end (xs : List Int) (i : Nat) (h : xs.length ≤ i + 1) : chainLt (xs.drop i) = true := by
  have : (xs.drop i).length ≤ 1 := by simp; omega
  match hx : xs.drop i, this with
  | [], _ => rfl
  | [_], _ => rfl
  | _ :: _ :: _, h => simp at h
def risB (lo up : Int) (xs : List Int) : Bool := xs.all (inR lo up) && chainLt xs
theorem implRis_l (xs : List Int) (lo up : Int) (hn : xs.length ≤ 9223372036854775807) : ∀ (d i : Nat), i + 1 + d = xs.length → Ev (fun k => impl_isRising.l0 k xs lo up ((i + 1 : Nat) : Int)) (xs.all (inR lo up) && chainLt (xs.drop i)) := by
  intro d
  induction d with
  | zero =>
    intro i hi
    refine eround (fun k => by rw [impl_isRising.l0]) (eneg (by omega) (ebind (allWithin_e xs lo up hn) (enow ?_)))
    rw [chainLt_end xs _ (by omega)]; simp
  | succ d ih =>
    intro i hi
    have e1 : wrap64 (((i + 1 : Nat) : Int) - 1) = (i : Int) := by rw [w64 (by omega) (by omega)]; omega
    have e2 : wrap64 (((i + 1 : Nat) : Int) + 1) = ((i + 1 + 1 : Nat) : Int) := by rw [w64 (by omega) (by omega)]; omega
    refine eround (fun k => by rw [impl_isRising.l0]) (epos (by omega) ?_)
    rw [e1, e2, rd_get xs i (by omega), rd_get xs (i + 1) (by omega), chainLt_drop xs i (by omega)]
    refine epos (by omega) (epos (by omega) (epos (by omega) ?_))
    by_cases h1 : xs[i] ≥ xs[i + 1]
    · exact epos h1 (enow (by simp; omega))
    · refine eneg h1 ?_
      simpa [show xs[i] < xs[i + 1] by omega] using ih (i + 1) (by omega)
theorem implRis_e (xs : List Int) (lo up : Int) (hn : xs.length ≤ 9223372036854775807) : Ev (fun k => impl_isRising.f k xs lo up) (risB lo up xs) := by
  unfold impl_isRising.f risB
  by_cases h : xs.length = 0
  · obtain rfl := List.eq_nil_of_length_eq_zero h
    refine eround (fun k => by rw [impl_isRising.l0]) (eneg (by simp) (ebind (allWithin_e [] lo up (by simp)) (enow (by simp [chainLt]))))
  · simpa using implRis_l xs lo up hn (xs.length - 1) 0 (by omega)
/-! texts in order -/
theorem u8_irr (a : UInt8) : ¬ a < a := fun z => by have := UInt8.lt_iff_toNat_lt.1 z; omega
theorem bl_irr : ∀ x : List UInt8, Op.bytesLess x x = false
  | [] => rfl
  | a :: x => by
    have h := bl_irr x
    have := u8_irr a
    simp [Op.bytesLess, this, h]
theorem bl_trans : ∀ x y z : List UInt8, Op.bytesLess x y = true → Op.bytesLess y z = true → Op.bytesLess x z = true
  | x, [], z => fun h _ => by cases x <;> simp [Op.bytesLess] at h
  | x, _ :: _, [] => fun _ h => by simp [Op.bytesLess] at h
  | [], _ :: _, _ :: _ => fun _ _ => rfl
  | a :: x, b :: y, c :: z => fun h1 h2 => by
    have ih := bl_trans x y z
    simp only [Op.bytesLess, Bool.or_eq_true, decide_eq_true_eq, Bool.and_eq_true, beq_iff_eq] at h1 h2 ⊢
    rcases h1 with h1 | ⟨rfl, h1⟩
    · rcases h2 with h2 | ⟨rfl, h2⟩
      · left
        have := UInt8.lt_iff_toNat_lt.1 h1
        have := UInt8.lt_iff_toNat_lt.1 h2
        exact UInt8.lt_iff_toNat_lt.2 (by omega)
      · exact Or.inl h1
    · rcases h2 with h2 | ⟨rfl, h2⟩
      · exact Or.inl h2
      · exact Or.inr ⟨rfl, ih h1 h2⟩
def ltT (a b : ByteArray) : Bool := Op.bytesLess a.toList b.toList
theorem ltT_irr (a : ByteArray) : ltT a a = false := bl_irr _
theorem ltT_trans {a b c : ByteArray} (h1 : ltT a b = true) (h2 : ltT b c = true) : ltT a c = true := bl_trans _ _ _ h1 h2
theorem ltT_asym {a b : ByteArray} (h : ltT a b = true) : ltT b a = false := by
  rw [Bool.eq_false_iff]
  intro h2
  have := ltT_trans h h2
  rw [ltT_irr] at this
  cases this
theorem ltT_tri {a b : ByteArray} (h1 : ltT a b = false) (h2 : ltT b a = false) : a = b := by
  have h := bytesLess_rev a.toList b.toList
  unfold ltT at h1 h2
  rw [h1, h2] at h
  have e : a.toList = b.toList := by simpa using h
  rw [ByteArray.toList_eq, ByteArray.toList_eq] at e
  exact ByteArray.ext (Array.toList_inj.1 e)
theorem leT_trans {a b c : ByteArray} (h1 : ltT b a = false) (h2 : ltT c b = false) : ltT c a = false := by
  rw [Bool.eq_false_iff]
  intro h
  cases h3 : ltT a b with
  | true =>
    have := ltT_trans h h3
    rw [h2] at this
    cases this
  | false =>
    have := ltT_tri h3 h1
    subst this
    rw [h2] at h
    cases h
def chainLe : List ByteArray → Bool
  | a :: b :: r => !ltT b a && chainLe (b :: r)
  | _ => true
theorem chainLe_pair : ∀ l : List ByteArray, chainLe l = true → l.Pairwise (fun a b => ltT b a = false)
  | [], _ => List.Pairwise.nil
  | [_], _ => List.pairwise_singleton _ _
  | a :: b :: r, h => by
    simp only [chainLe, Bool.and_eq_true, Bool.not_eq_true'] at h
    have ih := chainLe_pair (b :: r) h.2
    refine List.Pairwise.cons (fun c hc => ?_) ih
    rcases List.mem_cons.1 hc with rfl | hc
    · exact h.1
    · exact leT_trans h.1 ((List.pairwise_cons.1 ih).1 c hc)
theorem chainLe_drop (xs : List ByteArray) (i : Nat) (h : i + 1 < xs.length) : chainLe (xs.drop i) = (!ltT xs[i + 1] xs[i] && chainLe (xs.drop (i + 1))) := by
  rw [List.drop_eq_getElem_cons (show i < xs.length by omega), List.drop_eq_getElem_cons h]; rfl
theorem chainLe_end (xs : List ByteArray) (i : Nat) (h : xs.length ≤ i + 1) : chainLe (xs.drop i) = true := by
  have : (xs.drop i).length ≤ 1 := by simp; omega
  match hx : xs.drop i, this with
  | [], _ => rfl
  | [_], _ => rfl
  | _ :: _ :: _, h => simp at h
/-- x put behind all that are not above it. -/
def placeT (x : ByteArray) : List ByteArray → List ByteArray
  | [] => [x]
  | y :: r => if ltT x y = true then x :: y :: r else y :: placeT x r
theorem placeT_len (x : ByteArray) : ∀ l, (placeT x l).length = l.length + 1
  | [] => rfl
  | y :: r => by
    unfold placeT
    split
    · simp
    · simp [placeT_len x r]
theorem placeT_eq (x : ByteArray) : ∀ l : List ByteArray, l.Pairwise (fun a b => ltT b a = false) → l.takeWhile (fun y => ltT y x) ++ x :: l.dropWhile (fun y => ltT y x) = placeT x l
  | [], _ => rfl
  | y :: r, h => by
    obtain ⟨h1, h2⟩ := List.pairwise_cons.1 h
    have ih := placeT_eq x r h2
    unfold placeT
    by_cases c : ltT x y = true
    · rw [if_pos c]
      have := ltT_asym c
      simp [this]
    · rw [if_neg c]
      cases c2 : ltT y x with
      | true => simp [c2, ih]
      | false =>
        have e := ltT_tri (by simpa using c) c2
        subst e
        have hr : ∀ r : List ByteArray, (∀ z ∈ r, ltT z x = false) → placeT x r = x :: r := by
          intro r
          induction r with
          | nil => intro _; rfl
          | cons z r ih2 =>
            intro hz
            unfold placeT
            by_cases c3 : ltT x z = true
            · rw [if_pos c3]
            · rw [if_neg c3, ih2 (fun q hq => hz q (by simp [hq]))]
              rw [ltT_tri (by simpa using c3) (hz z (by simp))]
        rw [hr r h1]
        simp [c2]
theorem cut_while {α : Type} (p : α → Bool) : ∀ (l : List α) (t : Nat), t ≤ l.length → (∀ q (h : q < l.length), q < t → p l[q] = true) → (∀ q (h : q < l.length), t ≤ q → p l[q] = false) → l.take t = l.takeWhile p ∧ l.drop t = l.dropWhile p
  | [], t, _, _, _ => by simp
  | y :: r, 0, _, _, h2 => by
    have := h2 0 (by simp) (Nat.le_refl _)
    simp at this
    simp [this]
  | y :: r, t + 1, ht, h1, h2 => by
    have h0 := h1 0 (by simp) (by omega)
    simp at h0
    obtain ⟨e1, e2⟩ := cut_while p r t (by simpa using ht) (fun q hq hl => by have h := h1 (q + 1) (by simpa using hq) (by omega); rw [List.getElem_cons_succ] at h; exact h) (fun q hq hl => by have h := h2 (q + 1) (by simpa using hq) (by omega); rw [List.getElem_cons_succ] at h; exact h)
    simp [h0, e1, e2]
theorem l1Has_l (xs : List Int) (a : Int) (hn : xs.length ≤ 9223372036854775807) : ∀ (d i : Nat), i + d = xs.length → Ev (fun k => spec_l1Has.l0 k a xs (xs.length : Int) (i : Int)) (decide (a ∈ xs.drop i)) := by
  intro d
  induction d with
  | zero =>
    intro i hi
    refine eround (fun k => by rw [spec_l1Has.l0]) (eneg (by omega) (enow ?_))
    rw [List.drop_eq_nil_of_le (by omega)]; simp
  | succ d ih =>
    intro i hi
    have hlt : i < xs.length := by omega
    refine eround (fun k => by rw [spec_l1Has.l0]) (epos (by omega) (epos (by omega) (epos (by omega) ?_)))
    rw [rd_get xs i hlt, List.drop_eq_getElem_cons hlt]
    by_cases e : xs[i] = a
    · exact epos e (enow (by simp [e]))
    · refine eneg e ?_
      rw [w64 (by omega) (by omega)]
      have : decide (a ∈ xs[i] :: List.drop (i + 1) xs) = decide (a ∈ List.drop (i + 1) xs) := by
        apply decide_eq_decide.2
        rw [List.mem_cons]
        exact ⟨fun h => h.resolve_left (fun z => e z.symm), Or.inr⟩
      rw [this]
      exact ih (i + 1) (by omega)
theorem l1Has_e (xs : List Int) (a : Int) (hn : xs.length ≤ 9223372036854775807) : Ev (fun k => spec_l1Has.f k xs a) (decide (a ∈ xs)) := l1Has_l xs a hn xs.length 0 (by omega)
/-! tags -/
theorem tmod_rng (v : Int) (h0 : 0 ≤ v) : 0 ≤ Int.tmod v 4093 ∧ Int.tmod v 4093 ≤ 4092 := by
  rw [Int.tmod_eq_emod_of_nonneg h0]
  omega
theorem tag_l (s : ByteArray) (hs : s.size ≤ 9223372036854775807) : ∀ (d i : Nat) (a : Int), i + d = s.size → 0 ≤ a → a ≤ 4092 → ∃ r : Int, 0 ≤ r ∧ r ≤ 4092 ∧ Ev (fun k => impl_tag.l0 k s a (s.size : Int) (i : Int)) r ∧ Ev (fun k => spec_l8Tag.l0 k s a (i : Int)) r := by
  intro d
  induction d with
  | zero =>
    intro i a hi h0 h1
    exact ⟨a, h0, h1, eround (fun k => by rw [impl_tag.l0]) (eneg (by omega) (enow rfl)), eround (fun k => by rw [spec_l8Tag.l0]) (eneg (by omega) (enow rfl))⟩
  | succ d ih =>
    intro i a hi h0 h1
    obtain ⟨b0, b1⟩ := bt_range s (i : Int)
    obtain ⟨c0, c1⟩ := tmod_rng (a * 257 + bt s (i : Int) + 1) (by omega)
    obtain ⟨r, r0, r1, r2, r3⟩ := ih (i + 1) _ (by omega) c0 c1
    have w1 : wrap64 ((i : Int) + 1) = ((i + 1 : Nat) : Int) := by rw [w64 (by omega) (by omega)]; omega
    refine ⟨r, r0, r1, eround (fun k => by rw [impl_tag.l0]) (epos (by omega) (epos (by omega) (epos (by omega) ?_))), eround (fun k => by rw [spec_l8Tag.l0]) (epos (by omega) (epos (by omega) ?_))⟩
    · rw [w1, w64 (x := a * 257) (by omega) (by omega), w64 (x := bt s (i : Int)) (by omega) (by omega), w64 (x := a * 257 + bt s (i : Int)) (by omega) (by omega), w64 (x := a * 257 + bt s (i : Int) + 1) (by omega) (by omega)]
      exact r2
    · rw [w1, Int.mul_comm 257 a, w64 (x := a * 257) (by omega) (by omega), w64 (x := bt s (i : Int)) (by omega) (by omega), w64 (x := a * 257 + bt s (i : Int)) (by omega) (by omega), w64 (x := a * 257 + bt s (i : Int) + 1) (by omega) (by omega)]
      exact r3
noncomputable def tagOf (s : ByteArray) : Int := theEv 0 (fun k => impl_tag.f k s)
theorem tagOf_all (s : ByteArray) (hs : s.size ≤ 9223372036854775807) : Ev (fun k => impl_tag.f k s) (tagOf s) ∧ Ev (fun k => spec_l8Tag.f k s) (tagOf s) ∧ 0 ≤ tagOf s ∧ tagOf s ≤ 4092 := by
  obtain ⟨r, r0, r1, r2, r3⟩ := tag_l s hs s.size 0 0 (by omega) (by omega) (by omega)
  have h1 : Ev (fun k => impl_tag.f k s) r := r2
  have h2 := theEv_of (d := (0 : Int)) h1
  have e : theEv 0 (fun k => impl_tag.f k s) = r := Ev_unique h2 h1
  unfold tagOf
  rw [e]
  exact ⟨h1, r3, r0, r1⟩
/-! slices.Contains of numbers -/
theorem ixI_l (xs : List Int) (a : Int) (hn : xs.length ≤ 4194304) : ∀ (d i : Nat), i + d = xs.length → ∃ r : Int, Ev (fun k => slices_Index_int_int.l0 k xs a (xs.length : Int) (i : Int)) r ∧ (r ≥ 0 ↔ a ∈ xs.drop i) := by
  intro d
  induction d with
  | zero =>
    intro i hi
    refine ⟨-1, eround (fun k => by rw [slices_Index_int_int.l0]) (eneg (by omega) (enow rfl)), ?_⟩
    rw [List.drop_eq_nil_of_le (by omega)]; simp
  | succ d ih =>
    intro i hi
    have hlt : i < xs.length := by omega
    obtain ⟨r, h1, h3⟩ := ih (i + 1) (by omega)
    rw [List.drop_eq_getElem_cons hlt, List.mem_cons]
    by_cases e : a = xs[i]
    · refine ⟨(i : Int), eround (fun k => by rw [slices_Index_int_int.l0]) (epos (by omega) (epos (by omega) (epos (by omega) ?_))), by simp [e]⟩
      rw [rd_get xs i hlt]
      exact epos e (enow rfl)
    · refine ⟨r, eround (fun k => by rw [slices_Index_int_int.l0]) (epos (by omega) (epos (by omega) (epos (by omega) ?_))), by rw [h3]; simp [e]⟩
      rw [rd_get xs i hlt]
      refine eneg e ?_
      rw [w64 (by omega) (by omega)]
      exact h1
theorem coI_e (xs : List Int) (a : Int) (hn : xs.length ≤ 4194304) : Ev (fun k => slices_Contains_int_int.f k xs a) (decide (a ∈ xs)) := by
  obtain ⟨r, h1, h3⟩ := ixI_l xs a hn xs.length 0 (by omega)
  refine ebind (f := fun _ t => some (decide (t ≥ 0))) h1 (enow ?_)
  rw [List.drop_zero] at h3
  exact decide_eq_decide.2 h3
/-! texts that may be in a pool -/
def letA (l : List ByteArray) : Bool := l.all (fun s => decide ((s.size : Int) ≤ 24))
theorem ixL_l (xs : List ByteArray) (hn : xs.length ≤ 4194304) : ∀ (d i : Nat), i + d = xs.length → ∃ r : Int, Ev (fun k => slices_IndexFunc_224_at_188.l0 k xs (xs.length : Int) (i : Int)) r ∧ (r ≥ 0 ↔ letA (xs.drop i) = false) := by
  intro d
  induction d with
  | zero =>
    intro i hi
    refine ⟨-1, eround (fun k => by rw [slices_IndexFunc_224_at_188.l0]) (eneg (by omega) (enow rfl)), ?_⟩
    rw [List.drop_eq_nil_of_le (by omega)]; simp [letA]
  | succ d ih =>
    intro i hi
    have hlt : i < xs.length := by omega
    obtain ⟨r, h1, h3⟩ := ih (i + 1) (by omega)
    have hL : letA (xs.drop i) = (decide ((xs[i].size : Int) ≤ 24) && letA (xs.drop (i + 1))) := by rw [List.drop_eq_getElem_cons hlt]; rfl
    have hf : impl_areLetters_1.f xs[i] = some (!decide ((xs[i].size : Int) ≤ 24)) := rfl
    rw [hL]
    by_cases e : (xs[i].size : Int) ≤ 24
    · refine ⟨r, eround (fun k => by rw [slices_IndexFunc_224_at_188.l0]) (epos (by omega) (epos (by omega) (epos (by omega) ?_))), by rw [h3]; simp [e]⟩
      rw [show rdOf ByteArray.empty xs (i : Int) = xs[i] from getD_get xs i _ hlt]
      refine enb hf (eneg (by simp [e]) ?_)
      rw [w64 (by omega) (by omega)]
      exact h1
    · refine ⟨(i : Int), eround (fun k => by rw [slices_IndexFunc_224_at_188.l0]) (epos (by omega) (epos (by omega) (epos (by omega) ?_))), by simp [e]⟩
      rw [show rdOf ByteArray.empty xs (i : Int) = xs[i] from getD_get xs i _ hlt]
      exact enb hf (epos (by simp [e]) (enow rfl))
def letB (l : List ByteArray) : Bool := letA l && decide ((l.length : Int) ≤ 12)
theorem implLet_e (xs : List ByteArray) (hn : xs.length ≤ 4194304) : Ev (fun k => impl_areLetters.f k xs) (letB xs) := by
  unfold impl_areLetters.f letB
  by_cases h : (xs.length : Int) ≤ 12
  · obtain ⟨r, h1, h3⟩ := ixL_l xs hn xs.length 0 (by omega)
    rw [List.drop_zero] at h3
    refine epos h (ebind (a := decide (r ≥ 0)) (ebind (f := fun _ t => some (decide (t ≥ 0))) h1 (enow rfl)) (enow ?_))
    rw [decide_eq_true h, Bool.and_true]
    cases e : letA xs with
    | true => rw [e] at h3; simp at h3; simp; omega
    | false => rw [e] at h3; simp at h3; simp; omega
  · exact eneg h (enow (by simp [h]))
theorem specPool_l (xs : List ByteArray) (hn : xs.length ≤ 4194304) : ∀ (d i : Nat), i + d = xs.length → Ev (fun k => spec_l8Pool.l0 k xs xs (xs.length : Int) (i : Int)) (letA (xs.drop i) && decide ((xs.length : Int) ≤ 12)) := by
  intro d
  induction d with
  | zero =>
    intro i hi
    refine eround (fun k => by rw [spec_l8Pool.l0]) (eneg (by omega) (enow ?_))
    rw [List.drop_eq_nil_of_le (by omega)]; simp [letA]
  | succ d ih =>
    intro i hi
    have hlt : i < xs.length := by omega
    have hL : letA (xs.drop i) = (decide ((xs[i].size : Int) ≤ 24) && letA (xs.drop (i + 1))) := by rw [List.drop_eq_getElem_cons hlt]; rfl
    refine eround (fun k => by rw [spec_l8Pool.l0]) (epos (by omega) (epos (by omega) (epos (by omega) ?_)))
    rw [show rdOf ByteArray.empty xs (i : Int) = xs[i] from getD_get xs i _ hlt, hL]
    refine enb (a := decide ((xs[i].size : Int) ≤ 24)) rfl ?_
    by_cases e : (xs[i].size : Int) ≤ 24
    · refine epos (by simpa using e) ?_
      rw [w64 (by omega) (by omega), decide_eq_true e, Bool.true_and]
      exact ih (i + 1) (by omega)
    · exact eneg (by simpa using e) (enow (by simp [e]))
theorem specPool_e (xs : List ByteArray) (hn : xs.length ≤ 4194304) : Ev (fun k => spec_l8Pool.f k xs) (letB xs) := by
  have := specPool_l xs hn xs.length 0 (by omega)
  rw [List.drop_zero] at this
  exact this
/-! slices.IsSorted -/
theorem less_S (a b : ByteArray) : cmp_Less_string.f a b = some (ltT a b) := by
  unfold cmp_Less_string.f cmp_isNaN_string.f
  simp [ltT]
theorem sorted_l (xs : List ByteArray) (hn : xs.length ≤ 4194304) : ∀ i : Nat, i < xs.length → chainLe (xs.drop i) = true → Ev (fun k => slices_IsSorted_string_string.l0 k xs (i : Int)) (chainLe xs) := by
  intro i
  induction i with
  | zero =>
    intro _ h
    exact eround (fun k => by rw [slices_IsSorted_string_string.l0]) (eneg (by omega) (enow (by simpa using h.symm)))
  | succ i ih =>
    intro hi h
    have w1 : wrap64 (((i + 1 : Nat) : Int) - 1) = (i : Int) := by rw [w64 (by omega) (by omega)]; omega
    refine eround (fun k => by rw [slices_IsSorted_string_string.l0]) (epos (by omega) (epos (by omega) (epos (by omega) ?_)))
    rw [w1, show rdOf ByteArray.empty xs ((i + 1 : Nat) : Int) = xs[i + 1] from getD_get xs (i + 1) _ hi, show rdOf ByteArray.empty xs (i : Int) = xs[i] from getD_get xs i _ (by omega)]
    refine epos (by omega) (epos (by omega) (enb (less_S _ _) ?_))
    have hc := chainLe_drop xs i hi
    cases e : ltT xs[i + 1] xs[i] with
    | true =>
      refine epos rfl (enow ?_)
      symm
      rw [Bool.eq_false_iff]
      intro hx
      have hp := List.pairwise_iff_getElem.1 (chainLe_pair xs hx) i (i + 1) (by omega) hi (by omega)
      rw [e] at hp
      cases hp
    | false =>
      refine eneg (by decide) (ih (by omega) ?_)
      rw [hc, e, h]; rfl
theorem sorted_e (xs : List ByteArray) (hn : xs.length ≤ 4194304) : Ev (fun k => slices_IsSorted_string_string.f k xs) (chainLe xs) := by
  unfold slices_IsSorted_string_string.f
  by_cases h : xs.length = 0
  · obtain rfl := List.eq_nil_of_length_eq_zero h
    refine eround (fun k => by rw [slices_IsSorted_string_string.l0]) ?_
    exact eneg (show ¬ wrap64 ((([] : List ByteArray).length : Int) - 1) > 0 by rw [List.length_nil, w64 (by omega) (by omega)]; omega) (enow rfl)
  · have w1 : wrap64 ((xs.length : Int) - 1) = ((xs.length - 1 : Nat) : Int) := by rw [w64 (by omega) (by omega)]; omega
    rw [w1]
    exact sorted_l xs hn (xs.length - 1) (by omega) (chainLe_end xs _ (by omega))
/-! good mixes -/
noncomputable def tagsB (seen : List Int) : List Int → List ByteArray → Bool
  | _, [] => true
  | tags, s :: r => decide (tagOf s ∈ seen) && (!decide (tagOf s ∈ tags) && tagsB seen (tags ++ [tagOf s]) r)
def rngB (n : Int) (least wait old : Int) : Bool := inR 1 12 least && (inR 1 10 wait && (inR 0 10 old && (decide (n > 0) || decide (old = 0))))
def seenB (seen : List Int) : Bool := risB 0 4092 seen && decide ((seen.length : Int) ≤ 100)
noncomputable def goodM (pool : List ByteArray) (least wait old : Int) (seen : List Int) : Bool := chainLe pool && (tagsB seen [] pool && (letB pool && (rngB (pool.length : Int) least wait old && seenB seen)))
theorem implTags_l (pool : List ByteArray) (least wait old : Int) (seen : List Int) (hn : pool.length ≤ 1048576) (hs : seen.length ≤ 1048576) (hz : ∀ y ∈ pool, y.size ≤ 9223372036854775807) : ∀ (d i : Nat) (tags : List Int), i + d = pool.length → tags.length ≤ i → Ev (fun k => impl_GoodMix.l0 k tags pool (pool.length : Int) (i : Int) pool least wait old seen) (tagsB seen tags (pool.drop i)) := by
  intro d
  induction d with
  | zero =>
    intro i tags hi ht
    refine eround (fun k => by rw [impl_GoodMix.l0]) (eneg (by omega) (enow ?_))
    rw [List.drop_eq_nil_of_le (by omega)]; rfl
  | succ d ih =>
    intro i tags hi ht
    have hlt : i < pool.length := by omega
    obtain ⟨t1, _, _, _⟩ := tagOf_all pool[i] (hz _ (List.getElem_mem hlt))
    refine eround (fun k => by rw [impl_GoodMix.l0]) (epos (by omega) (epos (by omega) (epos (by omega) ?_)))
    rw [show rdOf ByteArray.empty pool (i : Int) = pool[i] from getD_get pool i _ hlt, List.drop_eq_getElem_cons hlt, tagsB]
    refine ebind t1 (ebind (coI_e seen _ (by omega)) ?_)
    cases e1 : decide (tagOf pool[i] ∈ seen) with
    | false => exact eneg (by decide) (enow (by simp))
    | true =>
      refine epos rfl (ebind (coI_e tags _ (by omega)) ?_)
      cases e2 : decide (tagOf pool[i] ∈ tags) with
      | true => exact epos rfl (enow (by simp))
      | false =>
        refine eneg (by decide) (epos (by omega) ?_)
        rw [w64 (by omega) (by omega)]
        simpa using ih (i + 1) (tags ++ [tagOf pool[i]]) (by omega) (by simp; omega)
theorem implGM_e (pool : List ByteArray) (least wait old : Int) (seen : List Int) (hn : pool.length ≤ 1048576) (hs : seen.length ≤ 1048576) (hz : ∀ y ∈ pool, y.size ≤ 9223372036854775807) : Ev (fun k => impl_GoodMix.f k pool least wait old seen) (goodM pool least wait old seen) := by
  unfold impl_GoodMix.f goodM
  have hj : ∀ _ : Bool, Ev (fun k => impl_GoodMix.j0 k true pool least wait old seen) false := fun _ => eround (fun k => by rw [impl_GoodMix.j0]) (epos rfl (enow rfl))
  refine ebind (implLet_e pool (by omega)) ?_
  cases e1 : letB pool with
  | false => exact eneg (by decide) (by simpa using hj true)
  | true =>
    refine epos rfl (ebind (sorted_e pool (by omega)) ?_)
    cases e2 : chainLe pool with
    | false => exact eneg (by decide) (by simpa using hj true)
    | true =>
      refine epos rfl (enb (within_eq _ _ _) ?_)
      unfold rngB
      cases e3 : inR 1 12 least with
      | false => exact eneg (by decide) (by simpa using hj true)
      | true =>
        refine epos rfl (enb (within_eq _ _ _) ?_)
        cases e4 : inR 1 10 wait with
        | false => exact eneg (by decide) (by simpa using hj true)
        | true =>
          refine epos rfl (enb (within_eq _ _ _) ?_)
          cases e5 : inR 0 10 old with
          | false => exact eneg (by decide) (by simpa using hj true)
          | true =>
            refine epos rfl ?_
            have hmain : Ev (fun k => impl_GoodMix.j0 k false pool least wait old seen) (tagsB seen [] pool && seenB seen) := by
              refine eround (fun k => by rw [impl_GoodMix.j0]) (eneg (by simp) ?_)
              have hj1 : Ev (fun k => impl_GoodMix.j1 k true pool least wait old seen) false := eround (fun k => by rw [impl_GoodMix.j1]) (epos rfl (enow rfl))
              unfold seenB
              by_cases h : (seen.length : Int) > 100
              · refine epos h ?_
                have : decide ((seen.length : Int) ≤ 100) = false := decide_eq_false (by omega)
                rw [this]
                simpa using hj1
              · refine eneg h (ebind (implRis_e seen 0 4092 (by omega)) ?_)
                rw [show decide ((seen.length : Int) ≤ 100) = true from decide_eq_true (by omega), Bool.and_true]
                cases e6 : risB 0 4092 seen with
                | false => simpa using hj1
                | true =>
                  rw [Bool.and_true]
                  refine eround (fun k => by rw [impl_GoodMix.j1]) (eneg (by simp) ?_)
                  simpa using implTags_l pool least wait old seen hn hs hz pool.length 0 [] (by omega) (by simp)
            by_cases h : (pool.length : Int) = 0
            · refine epos h ?_
              have hd : decide ((pool.length : Int) > 0) = false := decide_eq_false (by omega)
              rw [hd]
              by_cases h2 : old = 0
              · have : (old != 0) = false := by simp [h2]
                rw [this, decide_eq_true h2]
                simpa using hmain
              · have : (old != 0) = true := by simp [h2]
                rw [this, decide_eq_false h2]
                simpa using hj true
            · refine eneg h ?_
              have hd : decide ((pool.length : Int) > 0) = true := decide_eq_true (by omega)
              rw [hd]
              simpa using hmain
theorem bsS_l (xs : List ByteArray) (a : ByteArray) (p : ByteArray → Bool) (hp : ∀ y, cmp_Less_string.f y a = some (p y)) (hn : xs.length ≤ 4194304) (mono : ∀ q r (hr : r < xs.length) (hq : q ≤ r), p xs[r] = true → p xs[q] = true) : ∀ (d i j : Nat), j - i ≤ d → i ≤ j → j ≤ xs.length → (∀ q (h : q < xs.length), q < i → p xs[q] = true) → (∀ q (h : q < xs.length), j ≤ q → p xs[q] = false) →
    ∃ (t : Nat) (b : Bool), t ≤ xs.length ∧ Ev (fun k => slices_BinarySearch_string_string.l0 k xs a (xs.length : Int) (i : Int) (j : Int)) ((t : Int), b) ∧ (∀ q (h : q < xs.length), q < t → p xs[q] = true) ∧ (∀ q (h : q < xs.length), t ≤ q → p xs[q] = false) := by
  intro d
  induction d with
  | zero =>
    intro i j hd hij hj h1 h2
    have e : i = j := by omega
    subst e
    by_cases hi : i < xs.length
    · by_cases c : (fun u v : ByteArray => u.toList = v.toList) ((rdOf ByteArray.empty) xs (i : Int)) a
      · exact ⟨i, true, hj, eround (fun k => by rw [slices_BinarySearch_string_string.l0]) (eneg (by omega) (epos (by omega) (epos (by omega) (epos (by omega) (epos c (enow rfl)))))), h1, h2⟩
      · refine ⟨i, false, hj, eround (fun k => by rw [slices_BinarySearch_string_string.l0]) (eneg (by omega) (epos (by omega) (epos (by omega) (epos (by omega) (eneg c (enb (a := false) (by unfold slices_isNaN_string.f; simp) (eneg Bool.false_ne_true (enow rfl)))))))), h1, h2⟩
    · exact ⟨i, false, hj, eround (fun k => by rw [slices_BinarySearch_string_string.l0]) (eneg (by omega) (eneg (by omega) (enow rfl))), h1, h2⟩
  | succ d ih =>
    intro i j hd hij hj h1 h2
    by_cases c : i < j
    · have hm : wrap64 (IntKind.u64.wrap (wrap64 ((i : Int) + (j : Int))) / 2) = (((i + j) / 2 : Nat) : Int) := by
        rw [w64 (x := (i : Int) + j) (by omega) (by omega), u64_wrap_small ((i : Int) + j) (by omega) (by omega), w64 (by omega) (by omega)]
        omega
      have hlt : (i + j) / 2 < xs.length := by omega
      have hr : (rdOf ByteArray.empty) xs (((i + j) / 2 : Nat) : Int) = xs[(i + j) / 2] := (getD_get xs _ _ hlt)
      cases hb : p xs[(i + j) / 2] with
      | true =>
        obtain ⟨t, b, t1, t2, t3, t4⟩ := ih ((i + j) / 2 + 1) j (by omega) (by omega) hj (fun q hq hl => mono q _ hlt (by omega) hb) h2
        refine ⟨t, b, t1, eround (fun k => by rw [slices_BinarySearch_string_string.l0]) (epos (by omega) ?_), t3, t4⟩
        rw [hm, hr]
        refine epos (by omega) (epos (by omega) (enb (hp _) ?_))
        refine epos hb ?_
        rw [w64 (by omega) (by omega)]
        exact t2
      | false =>
        obtain ⟨t, b, t1, t2, t3, t4⟩ := ih i ((i + j) / 2) (by omega) (by omega) (by omega) h1 (fun q hq hl => by
          rw [Bool.eq_false_iff]
          intro z
          rw [mono _ q hq hl z] at hb
          cases hb)
        refine ⟨t, b, t1, eround (fun k => by rw [slices_BinarySearch_string_string.l0]) (epos (by omega) ?_), t3, t4⟩
        rw [hm, hr]
        refine epos (by omega) (epos (by omega) (enb (hp _) ?_))
        exact eneg (by rw [hb]; decide) t2
    · exact by
        have e : i = j := by omega
        subst e
        by_cases hi : i < xs.length
        · by_cases c : (fun u v : ByteArray => u.toList = v.toList) ((rdOf ByteArray.empty) xs (i : Int)) a
          · exact ⟨i, true, hj, eround (fun k => by rw [slices_BinarySearch_string_string.l0]) (eneg (by omega) (epos (by omega) (epos (by omega) (epos (by omega) (epos c (enow rfl)))))), h1, h2⟩
          · refine ⟨i, false, hj, eround (fun k => by rw [slices_BinarySearch_string_string.l0]) (eneg (by omega) (epos (by omega) (epos (by omega) (epos (by omega) (eneg c (enb (a := false) (by unfold slices_isNaN_string.f; simp) (eneg Bool.false_ne_true (enow rfl)))))))), h1, h2⟩
        · exact ⟨i, false, hj, eround (fun k => by rw [slices_BinarySearch_string_string.l0]) (eneg (by omega) (eneg (by omega) (enow rfl))), h1, h2⟩
theorem bsS_e (xs : List ByteArray) (a : ByteArray) (p : ByteArray → Bool) (hp : ∀ y, cmp_Less_string.f y a = some (p y)) (hn : xs.length ≤ 4194304) (mono : ∀ q r (hr : r < xs.length) (hq : q ≤ r), p xs[r] = true → p xs[q] = true) :
    Ev (fun k => impl_placed_string.f k xs a) (xs.takeWhile p ++ a :: xs.dropWhile p) := by
  obtain ⟨t, b, t1, t2, t3, t4⟩ := bsS_l xs a p hp hn mono xs.length 0 xs.length (by omega) (by omega) (Nat.le_refl _) (fun q h hl => by omega) (fun q h hl => by omega)
  obtain ⟨e1, e2⟩ := cut_while p xs t t1 t3 t4
  unfold impl_placed_string.f slices_BinarySearch_string_string.f
  refine ebind t2 ?_
  refine enb (a := xs) (by unfold slices_Clone_string_string.f; simp; omega) ?_
  refine epos (by omega) (epos (by omega) (epos (by omega) (enow ?_)))
  rw [Int.toNat_natCast, e1, e2]
theorem bsI_l (xs : List Int) (a : Int) (p : Int → Bool) (hp : ∀ y, cmp_Less_int.f y a = some (p y)) (hn : xs.length ≤ 4194304) (mono : ∀ q r (hr : r < xs.length) (hq : q ≤ r), p xs[r] = true → p xs[q] = true) : ∀ (d i j : Nat), j - i ≤ d → i ≤ j → j ≤ xs.length → (∀ q (h : q < xs.length), q < i → p xs[q] = true) → (∀ q (h : q < xs.length), j ≤ q → p xs[q] = false) →
    ∃ (t : Nat) (b : Bool), t ≤ xs.length ∧ Ev (fun k => slices_BinarySearch_int_int.l0 k xs a (xs.length : Int) (i : Int) (j : Int)) ((t : Int), b) ∧ (∀ q (h : q < xs.length), q < t → p xs[q] = true) ∧ (∀ q (h : q < xs.length), t ≤ q → p xs[q] = false) := by
  intro d
  induction d with
  | zero =>
    intro i j hd hij hj h1 h2
    have e : i = j := by omega
    subst e
    by_cases hi : i < xs.length
    · by_cases c : (fun u v : Int => u = v) (rd xs (i : Int)) a
      · exact ⟨i, true, hj, eround (fun k => by rw [slices_BinarySearch_int_int.l0]) (eneg (by omega) (epos (by omega) (epos (by omega) (epos (by omega) (epos c (enow rfl)))))), h1, h2⟩
      · refine ⟨i, false, hj, eround (fun k => by rw [slices_BinarySearch_int_int.l0]) (eneg (by omega) (epos (by omega) (epos (by omega) (epos (by omega) (eneg c (enb (a := false) (by unfold slices_isNaN_int.f; simp) (eneg Bool.false_ne_true (enow rfl)))))))), h1, h2⟩
    · exact ⟨i, false, hj, eround (fun k => by rw [slices_BinarySearch_int_int.l0]) (eneg (by omega) (eneg (by omega) (enow rfl))), h1, h2⟩
  | succ d ih =>
    intro i j hd hij hj h1 h2
    by_cases c : i < j
    · have hm : wrap64 (IntKind.u64.wrap (wrap64 ((i : Int) + (j : Int))) / 2) = (((i + j) / 2 : Nat) : Int) := by
        rw [w64 (x := (i : Int) + j) (by omega) (by omega), u64_wrap_small ((i : Int) + j) (by omega) (by omega), w64 (by omega) (by omega)]
        omega
      have hlt : (i + j) / 2 < xs.length := by omega
      have hr : rd xs (((i + j) / 2 : Nat) : Int) = xs[(i + j) / 2] := (rd_get xs _ hlt)
      cases hb : p xs[(i + j) / 2] with
      | true =>
        obtain ⟨t, b, t1, t2, t3, t4⟩ := ih ((i + j) / 2 + 1) j (by omega) (by omega) hj (fun q hq hl => mono q _ hlt (by omega) hb) h2
        refine ⟨t, b, t1, eround (fun k => by rw [slices_BinarySearch_int_int.l0]) (epos (by omega) ?_), t3, t4⟩
        rw [hm, hr]
        refine epos (by omega) (epos (by omega) (enb (hp _) ?_))
        refine epos hb ?_
        rw [w64 (by omega) (by omega)]
        exact t2
      | false =>
        obtain ⟨t, b, t1, t2, t3, t4⟩ := ih i ((i + j) / 2) (by omega) (by omega) (by omega) h1 (fun q hq hl => by
          rw [Bool.eq_false_iff]
          intro z
          rw [mono _ q hq hl z] at hb
          cases hb)
        refine ⟨t, b, t1, eround (fun k => by rw [slices_BinarySearch_int_int.l0]) (epos (by omega) ?_), t3, t4⟩
        rw [hm, hr]
        refine epos (by omega) (epos (by omega) (enb (hp _) ?_))
        exact eneg (by rw [hb]; decide) t2
    · exact by
        have e : i = j := by omega
        subst e
        by_cases hi : i < xs.length
        · by_cases c : (fun u v : Int => u = v) (rd xs (i : Int)) a
          · exact ⟨i, true, hj, eround (fun k => by rw [slices_BinarySearch_int_int.l0]) (eneg (by omega) (epos (by omega) (epos (by omega) (epos (by omega) (epos c (enow rfl)))))), h1, h2⟩
          · refine ⟨i, false, hj, eround (fun k => by rw [slices_BinarySearch_int_int.l0]) (eneg (by omega) (epos (by omega) (epos (by omega) (epos (by omega) (eneg c (enb (a := false) (by unfold slices_isNaN_int.f; simp) (eneg Bool.false_ne_true (enow rfl)))))))), h1, h2⟩
        · exact ⟨i, false, hj, eround (fun k => by rw [slices_BinarySearch_int_int.l0]) (eneg (by omega) (eneg (by omega) (enow rfl))), h1, h2⟩
theorem bsI_e (xs : List Int) (a : Int) (p : Int → Bool) (hp : ∀ y, cmp_Less_int.f y a = some (p y)) (hn : xs.length ≤ 4194304) (mono : ∀ q r (hr : r < xs.length) (hq : q ≤ r), p xs[r] = true → p xs[q] = true) :
    Ev (fun k => impl_placed_int.f k xs a) (xs.takeWhile p ++ a :: xs.dropWhile p) := by
  obtain ⟨t, b, t1, t2, t3, t4⟩ := bsI_l xs a p hp hn mono xs.length 0 xs.length (by omega) (by omega) (Nat.le_refl _) (fun q h hl => by omega) (fun q h hl => by omega)
  obtain ⟨e1, e2⟩ := cut_while p xs t t1 t3 t4
  unfold impl_placed_int.f slices_BinarySearch_int_int.f
  refine ebind t2 ?_
  refine enb (a := xs) (by unfold slices_Clone_int_int.f; simp; omega) ?_
  refine epos (by omega) (epos (by omega) (epos (by omega) (enow ?_)))
  rw [Int.toNat_natCast, e1, e2]
theorem less_I (a b : Int) : cmp_Less_int.f a b = some (decide (a < b)) := by
  unfold cmp_Less_int.f cmp_isNaN_int.f
  simp
theorem placedS_e (xs : List ByteArray) (x : ByteArray) (hn : xs.length ≤ 4194304) (hc : chainLe xs = true) : Ev (fun k => impl_placed_string.f k xs x) (placeT x xs) := by
  have hp := chainLe_pair xs hc
  have := bsS_e xs x (fun y => ltT y x) (fun y => less_S y x) hn (fun q r hr hq h => by
    rcases Nat.lt_or_eq_of_le hq with hq | rfl
    · have h2 := List.pairwise_iff_getElem.1 hp q r (by omega) hr hq
      cases h3 : ltT xs[q] x with
      | true => rfl
      | false =>
        have := leT_trans h3 h2
        rw [h] at this
        cases this
    · exact h)
  rwa [placeT_eq x xs hp] at this
theorem chainLt_pair : ∀ l : List Int, chainLt l = true → l.Pairwise (fun a b => a < b)
  | [], _ => List.Pairwise.nil
  | [_], _ => List.pairwise_singleton _ _
  | a :: b :: r, h => by
    simp only [chainLt, Bool.and_eq_true, decide_eq_true_eq] at h
    have ih := chainLt_pair (b :: r) h.2
    refine List.Pairwise.cons (fun c hc => ?_) ih
    rcases List.mem_cons.1 hc with rfl | hc
    · exact h.1
    · have := (List.pairwise_cons.1 ih).1 c hc
      omega
def placeI (x : Int) (l : List Int) : List Int := l.takeWhile (fun y => decide (y < x)) ++ x :: l.dropWhile (fun y => decide (y < x))
theorem placeI_len (x : Int) (l : List Int) : (placeI x l).length = l.length + 1 := by
  unfold placeI
  have := congrArg List.length (List.takeWhile_append_dropWhile (p := fun y => decide (y < x)) (l := l))
  simp only [List.length_append, List.length_cons] at this ⊢
  omega
theorem placedI_e (xs : List Int) (x : Int) (hn : xs.length ≤ 4194304) (hc : chainLt xs = true) : Ev (fun k => impl_placed_int.f k xs x) (placeI x xs) := by
  have hp := chainLt_pair xs hc
  exact bsI_e xs x (fun y => decide (y < x)) (fun y => less_I y x) hn (fun q r hr hq h => by
    rcases Nat.lt_or_eq_of_le hq with hq | rfl
    · have h2 := List.pairwise_iff_getElem.1 hp q r (by omega) hr hq
      have h3 : xs[r] < x := by simpa using h
      exact decide_eq_true (by omega)
    · exact h)
def putI (x : Int) : List Int → List Int
  | [] => [x]
  | y :: r => if y < x then y :: putI x r else if y = x then y :: r else x :: y :: r
theorem putI_new (x : Int) : ∀ l : List Int, x ∉ l → putI x l = placeI x l
  | [], _ => rfl
  | y :: r, h => by
    have ih := putI_new x r (fun z => h (by simp [z]))
    have hne : ¬ y = x := fun z => h (by simp [z])
    unfold putI
    by_cases c : y < x
    · rw [if_pos c, ih]
      simp [placeI, c]
    · rw [if_neg c, if_neg hne]
      simp [placeI, c]
theorem put_l (xs : List Int) (x : Int) (hn : xs.length ≤ 1048576) : ∀ (d i : Nat), i + d = xs.length → Ev (fun k => spec_l1Put.l0 k xs x (i : Int)) (xs.take i ++ putI x (xs.drop i)) := by
  intro d
  induction d with
  | zero =>
    intro i hi
    have e1 : xs.take i = xs := List.take_of_length_le (by omega)
    have e2 : xs.drop i = [] := List.drop_eq_nil_of_le (by omega)
    refine eround (fun k => by rw [spec_l1Put.l0]) ?_
    refine eneg (by omega) (enb rfl (epos (by omega) (epos (by omega) (enb rfl ?_))))
    rw [Int.toNat_natCast, e1, e2]
    refine epos (by simp; omega) (enb rfl (epos (by simp; omega) (enb rfl (enb rfl (epos (by simp; omega) (enow ?_))))))
    simp [putI]
  | succ d ih =>
    intro i hi
    have hlt : i < xs.length := by omega
    refine eround (fun k => by rw [spec_l1Put.l0]) ?_
    refine epos (by omega) (epos (by omega) ?_)
    rw [rd_get xs i hlt]
    have e3 : xs.drop i = xs[i] :: xs.drop (i + 1) := List.drop_eq_getElem_cons hlt
    by_cases c : xs[i] < x
    · refine epos c ?_
      rw [w64 (by omega) (by omega), e3, putI, if_pos c, show (i : Int) + 1 = ((i + 1 : Nat) : Int) by omega]
      have := ih (i + 1) (by omega)
      rw [List.take_succ_eq_append_getElem hlt, List.append_assoc] at this
      exact this
    · refine eneg c ?_
      by_cases c2 : xs[i] = x
      · refine epos c2 (enow ?_)
        rw [e3, putI, if_neg c, if_pos c2, ← e3, List.take_append_drop]
      · refine eneg c2 (enb rfl (epos (by omega) (enb rfl ?_)))
        rw [Int.toNat_natCast]
        refine epos (by simp; omega) (enb rfl (epos (by simp; omega) (enb rfl (enb rfl (epos (by simp; omega) (enow ?_))))))
        rw [e3, putI, if_neg c, if_neg c2, ← e3]
        simp
theorem put_e (xs : List Int) (x : Int) (hn : xs.length ≤ 1048576) : Ev (fun k => spec_l1Put.f k xs x) (putI x xs) := by
  have := put_l xs x hn xs.length 0 (by omega)
  rw [List.take_zero, List.nil_append, List.drop_zero] at this
  exact this
theorem place_l (xs : List ByteArray) (x : ByteArray) (hn : xs.length ≤ 1048576) : ∀ (d i : Nat), i + d = xs.length → Ev (fun k => spec_l8Place.l0 k xs x (i : Int)) (xs.take i ++ placeT x (xs.drop i)) := by
  intro d
  induction d with
  | zero =>
    intro i hi
    have e1 : xs.take i = xs := List.take_of_length_le (by omega)
    have e2 : xs.drop i = [] := List.drop_eq_nil_of_le (by omega)
    refine eround (fun k => by rw [spec_l8Place.l0]) ?_
    refine eneg (by omega) (enb rfl (epos (by omega) (epos (by omega) ?_)))
    rw [Int.toNat_natCast, e1, e2]
    refine epos (by simp; omega) (enb rfl (epos (by simp; omega) (enb rfl (epos (by simp; omega) (enow ?_)))))
    simp [placeT]
  | succ d ih =>
    intro i hi
    have hlt : i < xs.length := by omega
    refine eround (fun k => by rw [spec_l8Place.l0]) ?_
    refine epos (by omega) (epos (by omega) ?_)
    rw [show rdOf ByteArray.empty xs (i : Int) = xs[i] from getD_get xs i _ hlt]
    have e3 : xs.drop i = xs[i] :: xs.drop (i + 1) := List.drop_eq_getElem_cons hlt
    by_cases c : ltT x xs[i] = true
    · refine epos c (enb rfl (epos (by omega) ?_))
      rw [Int.toNat_natCast]
      refine epos (by simp; omega) (enb rfl (epos (by simp; omega) (enb rfl (epos (by simp; omega) (enow ?_)))))
      rw [e3, placeT, if_pos c, ← e3]
      simp
    · refine eneg c ?_
      rw [w64 (by omega) (by omega), e3, placeT, if_neg c, show (i : Int) + 1 = ((i + 1 : Nat) : Int) by omega]
      have := ih (i + 1) (by omega)
      rw [List.take_succ_eq_append_getElem hlt, List.append_assoc] at this
      exact this
theorem place_e (xs : List ByteArray) (x : ByteArray) (hn : xs.length ≤ 1048576) : Ev (fun k => spec_l8Place.f k xs x) (placeT x xs) := by
  have := place_l xs x hn xs.length 0 (by omega)
  rw [List.take_zero, List.nil_append, List.drop_zero] at this
  exact this
theorem goodM_parts {pool : List ByteArray} {least wait old : Int} {seen : List Int} (h : goodM pool least wait old seen = true) : chainLe pool = true ∧ pool.length ≤ 12 ∧ chainLt seen = true ∧ seen.length ≤ 100 := by
  unfold goodM letB seenB risB at h
  simp only [Bool.and_eq_true, decide_eq_true_eq] at h
  obtain ⟨h1, _, ⟨_, h2⟩, _, ⟨_, h3⟩, h4⟩ := h
  exact ⟨h1, by omega, h3, by omega⟩
abbrev MixR := List ByteArray × Int × Int × Int × List Int
noncomputable def putM (m : MixR) (x : ByteArray) : MixR × Int :=
  if tagOf x ∈ m.2.2.2.2 then (m, 1) else if m.1.length = 12 ∨ m.2.2.2.2.length = 100 then (m, 2) else ((placeT x m.1, m.2.1, m.2.2.1, m.2.2.2.1, placeI (tagOf x) m.2.2.2.2), 0)
theorem specPut_e (m : MixR) (x : ByteArray) (hp : m.1.length ≤ 1048576) (hs : m.2.2.2.2.length ≤ 1048576) (hx : x.size ≤ 9223372036854775807) : Ev (fun k => spec_l8Put.f k m.1 m.2.1 m.2.2.1 m.2.2.2.1 m.2.2.2.2 x) ((putM m x).1.1, (putM m x).1.2.1, (putM m x).1.2.2.1, (putM m x).1.2.2.2.1, (putM m x).1.2.2.2.2, (putM m x).2) := by
  obtain ⟨_, t1, _, _⟩ := tagOf_all x hx
  unfold spec_l8Put.f putM
  refine ebind t1 (ebind (l1Has_e _ _ (by omega)) ?_)
  by_cases c : tagOf x ∈ m.2.2.2.2
  · rw [if_pos c]
    exact epos (decide_eq_true c) (enow rfl)
  · rw [if_neg c]
    refine eneg (by simpa using c) ?_
    have h2 : Ev (fun k => spec_l8Put.j0 k x m.2.2.2.2 true m.1 m.2.1 m.2.2.1 m.2.2.2.1) (m.1, m.2.1, m.2.2.1, m.2.2.2.1, m.2.2.2.2, 2) := eround (fun k => by rw [spec_l8Put.j0]) (epos rfl (enow rfl))
    by_cases c1 : (m.1.length : Int) = 12
    · rw [if_pos (Or.inl (by omega))]
      exact epos c1 h2
    · refine eneg c1 ?_
      by_cases c2 : m.2.2.2.2.length = 100
      · rw [if_pos (Or.inr c2)]
        have : ((m.2.2.2.2.length : Int) == 100) = true := by simp; omega
        rw [this]
        exact h2
      · rw [if_neg (by omega)]
        have : ((m.2.2.2.2.length : Int) == 100) = false := by simp; omega
        rw [this]
        have e3 := put_e m.2.2.2.2 (tagOf x) hs
        rw [putI_new _ _ c] at e3
        refine eround (fun k => by rw [spec_l8Put.j0]) ?_
        refine eneg (by simp) ?_
        refine ebind (place_e m.1 x hp) ?_
        refine ebind t1 ?_
        refine ebind e3 ?_
        exact enow rfl
noncomputable def putR (m : MixR) (x : ByteArray) : List ByteArray × Int × Int × Int × List Int × Int × Bool :=
  if goodM m.1 m.2.1 m.2.2.1 m.2.2.2.1 m.2.2.2.2 = true then (if (x.size : Int) ≤ 24 then ((putM m x).1.1, (putM m x).1.2.1, (putM m x).1.2.2.1, (putM m x).1.2.2.2.1, (putM m x).1.2.2.2.2, (putM m x).2, true) else ([], 0, 0, 0, [], 0, false)) else ([], 0, 0, 0, [], 0, false)
theorem putM_small (m : MixR) (x : ByteArray) (hp : m.1.length ≤ 1000) (hs : m.2.2.2.2.length ≤ 1000) : (putM m x).1.1.length ≤ 1001 ∧ (putM m x).1.2.2.2.2.length ≤ 1001 := by
  unfold putM
  split
  · refine ⟨?_, ?_⟩ <;> dsimp only <;> omega
  · split
    · refine ⟨?_, ?_⟩ <;> dsimp only <;> omega
    · dsimp only
      rw [placeT_len, placeI_len]
      omega
theorem implPM_e (m : MixR) (x : ByteArray) (hp : m.1.length ≤ 1048576) (hs : m.2.2.2.2.length ≤ 1048576) (hz : ∀ y ∈ m.1, y.size ≤ 9223372036854775807) (hx : x.size ≤ 9223372036854775807) : Ev (fun k => impl_PutMix.f k m.1 m.2.1 m.2.2.1 m.2.2.2.1 m.2.2.2.2 x) (putR m x) := by
  unfold impl_PutMix.f putR
  have hj : Ev (fun k => impl_PutMix.j0 k x true m.1 m.2.1 m.2.2.1 m.2.2.2.1 m.2.2.2.2) (([], 0, 0, 0, [], 0, false) : List ByteArray × Int × Int × Int × List Int × Int × Bool) := eround (fun k => by rw [impl_PutMix.j0]) (epos rfl (enow rfl))
  refine ebind (implGM_e m.1 m.2.1 m.2.2.1 m.2.2.2.1 m.2.2.2.2 hp hs hz) ?_
  by_cases g : goodM m.1 m.2.1 m.2.2.1 m.2.2.2.1 m.2.2.2.2 = true
  · rw [if_pos g]
    refine epos g (enb (a := decide ((x.size : Int) ≤ 24)) rfl ?_)
    obtain ⟨g1, g2, g3, g4⟩ := goodM_parts g
    obtain ⟨t1, _, _, _⟩ := tagOf_all x hx
    by_cases c : (x.size : Int) ≤ 24
    · rw [if_pos c, decide_eq_true c]
      refine eround (fun k => by rw [impl_PutMix.j0]) (eneg (by simp) ?_)
      have o1 : slices_Clone_string_string.f m.1 = some m.1 := by unfold slices_Clone_string_string.f; simp; omega
      have o2 : slices_Clone_int_int.f m.2.2.2.2 = some m.2.2.2.2 := by unfold slices_Clone_int_int.f; simp; omega
      refine enb (a := m) (by unfold impl_Mix_own.f; rw [o1, Option.bind_some, o2]; rfl) ?_
      refine ebind t1 (ebind (coI_e _ _ (by omega)) ?_)
      unfold putM
      by_cases c : tagOf x ∈ m.2.2.2.2
      · rw [if_pos c]
        exact epos (decide_eq_true c) (enow rfl)
      · rw [if_neg c]
        refine eneg (by simpa using c) ?_
        have h2 : Ev (fun k => impl_PutMix.j1 k x (tagOf x) true m.1 m.2.1 m.2.2.1 m.2.2.2.1 m.2.2.2.2 m.1 m.2.1 m.2.2.1 m.2.2.2.1 m.2.2.2.2) (m.1, m.2.1, m.2.2.1, m.2.2.2.1, m.2.2.2.2, 2, true) := eround (fun k => by rw [impl_PutMix.j1]) (epos rfl (enow rfl))
        by_cases c1 : (m.1.length : Int) = 12
        · rw [if_pos (Or.inl (by omega))]
          exact epos c1 h2
        · refine eneg c1 ?_
          by_cases c2 : m.2.2.2.2.length = 100
          · rw [if_pos (Or.inr c2)]
            have : ((m.2.2.2.2.length : Int) == 100) = true := by simp; omega
            rw [this]
            exact h2
          · rw [if_neg (by omega)]
            have : ((m.2.2.2.2.length : Int) == 100) = false := by simp; omega
            rw [this]
            refine eround (fun k => by rw [impl_PutMix.j1]) ?_
            refine eneg (by simp) ?_
            refine ebind (placedS_e m.1 x (by omega) g1) ?_
            refine ebind (placedI_e m.2.2.2.2 (tagOf x) (by omega) g3) ?_
            exact enow rfl
    · rw [if_neg c, decide_eq_false c]
      exact hj
  · rw [if_neg g]
    exact eneg g hj
theorem putR_small (m : MixR) (x : ByteArray) : (putR m x).1.length ≤ 1048576 ∧ (putR m x).2.2.2.2.1.length ≤ 1048576 := by
  unfold putR
  by_cases g : goodM m.1 m.2.1 m.2.2.1 m.2.2.2.1 m.2.2.2.2 = true
  · rw [if_pos g]
    obtain ⟨g1, g2, g3, g4⟩ := goodM_parts g
    obtain ⟨s1, s2⟩ := putM_small m x (by omega) (by omega)
    split
    · dsimp only; omega
    · simp
  · rw [if_neg g]
    simp
theorem placeT_perm (x : ByteArray) : ∀ l, (placeT x l).Perm (x :: l)
  | [] => List.Perm.refl _
  | y :: r => by
    unfold placeT
    split
    · exact List.Perm.refl _
    · exact ((placeT_perm x r).cons y).trans (List.Perm.swap x y r)
theorem placeI_perm (x : Int) (l : List Int) : (placeI x l).Perm (x :: l) := by
  unfold placeI
  have h : (l.takeWhile (fun y => decide (y < x)) ++ x :: l.dropWhile (fun y => decide (y < x))).Perm (x :: (l.takeWhile (fun y => decide (y < x)) ++ l.dropWhile (fun y => decide (y < x)))) := List.perm_middle
  rwa [List.takeWhile_append_dropWhile] at h
theorem tagsB_iff (seen : List Int) : ∀ (l : List ByteArray) (tags : List Int), tagsB seen tags l = true ↔ (∀ s ∈ l, tagOf s ∈ seen) ∧ (l.map tagOf).Nodup ∧ ∀ s ∈ l, tagOf s ∉ tags
  | [], tags => by simp [tagsB]
  | s :: r, tags => by
    rw [tagsB]
    simp only [Bool.and_eq_true, decide_eq_true_eq, Bool.not_eq_true', decide_eq_false_iff_not]
    rw [tagsB_iff seen r (tags ++ [tagOf s])]
    constructor
    · rintro ⟨h1, h2, h3, h4, h5⟩
      refine ⟨?_, ?_, ?_⟩
      · intro z hz
        rcases List.mem_cons.1 hz with rfl | hz
        · exact h1
        · exact h3 z hz
      · rw [List.map_cons, List.nodup_cons]
        refine ⟨fun hm => ?_, h4⟩
        obtain ⟨z, hz, he⟩ := List.mem_map.1 hm
        exact h5 z hz (by rw [he]; simp)
      · intro z hz
        rcases List.mem_cons.1 hz with rfl | hz
        · exact h2
        · exact fun hm => h5 z hz (List.mem_append.2 (Or.inl hm))
    · rintro ⟨h1, h2, h3⟩
      rw [List.map_cons, List.nodup_cons] at h2
      refine ⟨h1 s (by simp), h3 s (by simp), fun z hz => h1 z (by simp [hz]), h2.2, fun z hz hm => ?_⟩
      rcases List.mem_append.1 hm with hm | hm
      · exact h3 z (by simp [hz]) hm
      · rw [List.mem_singleton] at hm
        exact h2.1 (List.mem_map.2 ⟨z, hz, hm⟩)
theorem pair_chainLe : ∀ l : List ByteArray, l.Pairwise (fun a b => ltT b a = false) → chainLe l = true
  | [], _ => rfl
  | [_], _ => rfl
  | a :: b :: r, h => by
    obtain ⟨h1, h2⟩ := List.pairwise_cons.1 h
    simp only [chainLe, Bool.and_eq_true, Bool.not_eq_true']
    exact ⟨h1 b (by simp), pair_chainLe (b :: r) h2⟩
theorem placeT_pair (x : ByteArray) : ∀ l : List ByteArray, l.Pairwise (fun a b => ltT b a = false) → (placeT x l).Pairwise (fun a b => ltT b a = false)
  | [], _ => List.pairwise_singleton _ _
  | y :: r, h => by
    obtain ⟨h1, h2⟩ := List.pairwise_cons.1 h
    unfold placeT
    by_cases c : ltT x y = true
    · rw [if_pos c]
      refine List.Pairwise.cons (fun z hz => ?_) h
      rcases List.mem_cons.1 hz with rfl | hz
      · exact ltT_asym c
      · exact leT_trans (ltT_asym c) (h1 z hz)
    · rw [if_neg c]
      refine List.Pairwise.cons (fun z hz => ?_) (placeT_pair x r h2)
      rcases List.mem_cons.1 ((placeT_perm x r).mem_iff.1 hz) with rfl | hz
      · simpa using c
      · exact h1 z hz
theorem pair_chainLt : ∀ l : List Int, l.Pairwise (fun a b => a < b) → chainLt l = true
  | [], _ => rfl
  | [_], _ => rfl
  | a :: b :: r, h => by
    obtain ⟨h1, h2⟩ := List.pairwise_cons.1 h
    simp only [chainLt, Bool.and_eq_true, decide_eq_true_eq]
    exact ⟨h1 b (by simp), pair_chainLt (b :: r) h2⟩
theorem placeI_pair (x : Int) : ∀ l : List Int, l.Pairwise (fun a b => a < b) → x ∉ l → (placeI x l).Pairwise (fun a b => a < b)
  | [], _, _ => List.pairwise_singleton _ _
  | y :: r, h, hx => by
    obtain ⟨h1, h2⟩ := List.pairwise_cons.1 h
    have hne : y ≠ x := fun z => hx (by simp [z])
    by_cases c : y < x
    · have e : placeI x (y :: r) = y :: placeI x r := by simp [placeI, c]
      rw [e]
      refine List.Pairwise.cons (fun z hz => ?_) (placeI_pair x r h2 (fun z => hx (by simp [z])))
      rcases List.mem_cons.1 ((placeI_perm x r).mem_iff.1 hz) with rfl | hz
      · exact c
      · exact h1 z hz
    · have e : placeI x (y :: r) = x :: y :: r := by simp [placeI, c]
      rw [e]
      refine List.Pairwise.cons (fun z hz => ?_) h
      rcases List.mem_cons.1 hz with rfl | hz
      · omega
      · have := h1 z hz; omega
theorem letA_iff {l : List ByteArray} : letA l = true ↔ ∀ s ∈ l, (s.size : Int) ≤ 24 := by
  unfold letA
  rw [List.all_eq_true]
  exact ⟨fun h s hs => by simpa using h s hs, fun h s hs => by simpa using h s hs⟩
/-- Putting a letter into a good mix leaves a good one. -/
theorem putM_good {m : MixR} (g : goodM m.1 m.2.1 m.2.2.1 m.2.2.2.1 m.2.2.2.2 = true) {x : ByteArray} (hx : (x.size : Int) ≤ 24) : goodM (putM m x).1.1 (putM m x).1.2.1 (putM m x).1.2.2.1 (putM m x).1.2.2.2.1 (putM m x).1.2.2.2.2 = true := by
  obtain ⟨p, a, b, c, l⟩ := m
  unfold putM
  dsimp only at g ⊢
  by_cases c1 : tagOf x ∈ l
  · rw [if_pos c1]; exact g
  · rw [if_neg c1]
    by_cases c2 : p.length = 12 ∨ l.length = 100
    · rw [if_pos c2]; exact g
    · rw [if_neg c2]
      obtain ⟨_, _, t0, t1⟩ := tagOf_all x (by omega)
      unfold goodM letB seenB risB rngB at g ⊢
      simp only [Bool.and_eq_true, decide_eq_true_eq, List.all_eq_true, Bool.or_eq_true] at g ⊢
      obtain ⟨h1, h2, ⟨h3, h4⟩, ⟨h5, h6, h7, h8⟩, ⟨h9, h10⟩, h11⟩ := g
      obtain ⟨k1, k2, k3⟩ := (tagsB_iff l p []).1 h2
      refine ⟨pair_chainLe _ (placeT_pair x p (chainLe_pair p h1)), (tagsB_iff _ _ []).2 ⟨?_, ?_, by simp⟩, ⟨?_, ?_⟩, ⟨h5, h6, h7, ?_⟩, ⟨?_, ?_⟩, ?_⟩
      · intro s hs
        rw [(placeI_perm _ _).mem_iff]
        rcases List.mem_cons.1 ((placeT_perm x p).mem_iff.1 hs) with rfl | hs
        · simp
        · exact List.mem_cons_of_mem _ (k1 s hs)
      · have hp := (placeT_perm x p).map tagOf
        rw [hp.nodup_iff, List.map_cons, List.nodup_cons]
        refine ⟨fun hm => ?_, k2⟩
        obtain ⟨z, hz, he⟩ := List.mem_map.1 hm
        exact c1 (he ▸ k1 z hz)
      · rw [letA_iff] at h3 ⊢
        intro s hs
        rcases List.mem_cons.1 ((placeT_perm x p).mem_iff.1 hs) with rfl | hs
        · exact hx
        · exact h3 s hs
      · rw [placeT_len]; omega
      · left; rw [placeT_len]; omega
      · intro z hz
        rcases List.mem_cons.1 ((placeI_perm _ _).mem_iff.1 hz) with rfl | hz
        · rw [inR_iff]; omega
        · exact h9 z hz
      · exact pair_chainLt _ (placeI_pair _ l (chainLt_pair l h10) c1)
      · rw [placeI_len]; omega
noncomputable def tickM (m : MixR) : MixR × List ByteArray :=
  if m.1.length = 0 then (m, []) else if ((m.1.length : Int) < m.2.1 ∧ mn 10 (m.2.2.2.1 + 1) < m.2.2.1) then ((m.1, m.2.1, m.2.2.1, mn 10 (m.2.2.2.1 + 1), m.2.2.2.2), []) else (([], m.2.1, m.2.2.1, 0, m.2.2.2.2), m.1)
theorem goodM_rng {m : MixR} (g : goodM m.1 m.2.1 m.2.2.1 m.2.2.2.1 m.2.2.2.2 = true) : (1 ≤ m.2.1 ∧ m.2.1 ≤ 12) ∧ (1 ≤ m.2.2.1 ∧ m.2.2.1 ≤ 10) ∧ (0 ≤ m.2.2.2.1 ∧ m.2.2.2.1 ≤ 10) ∧ (m.1.length = 0 → m.2.2.2.1 = 0) := by
  unfold goodM rngB at g
  simp only [Bool.and_eq_true, decide_eq_true_eq, Bool.or_eq_true] at g
  obtain ⟨h1, h2, h3, ⟨h5, h6, h7, h8⟩, h9⟩ := g
  exact ⟨inR_iff.1 h5, inR_iff.1 h6, inR_iff.1 h7, fun h => by omega⟩
theorem tickM_good {m : MixR} (g : goodM m.1 m.2.1 m.2.2.1 m.2.2.2.1 m.2.2.2.2 = true) : goodM (tickM m).1.1 (tickM m).1.2.1 (tickM m).1.2.2.1 (tickM m).1.2.2.2.1 (tickM m).1.2.2.2.2 = true ∧ (tickM m).2.length ≤ 12 := by
  obtain ⟨r1, r2, r3, r4⟩ := goodM_rng g
  obtain ⟨_, q2, _, _⟩ := goodM_parts g
  obtain ⟨p, a, b, c, l⟩ := m
  unfold tickM
  dsimp only at *
  by_cases c1 : p.length = 0
  · rw [if_pos c1]; exact ⟨g, by simp⟩
  · rw [if_neg c1]
    unfold goodM rngB at g
    simp only [Bool.and_eq_true, decide_eq_true_eq, Bool.or_eq_true] at g
    obtain ⟨h1, h2, h3, ⟨h5, h6, h7, h8⟩, h9⟩ := g
    by_cases c2 : ((p.length : Int) < a ∧ mn 10 (c + 1) < b)
    · rw [if_pos c2]
      unfold goodM rngB
      simp only [Bool.and_eq_true, decide_eq_true_eq, Bool.or_eq_true]
      refine ⟨⟨h1, h2, h3, ⟨h5, h6, ?_, Or.inl (by omega)⟩, h9⟩, by simp⟩
      rw [inR_iff]
      unfold mn
      split <;> omega
    · rw [if_neg c2]
      unfold goodM rngB
      simp only [Bool.and_eq_true, decide_eq_true_eq, Bool.or_eq_true]
      refine ⟨⟨rfl, rfl, rfl, ⟨h5, h6, by rw [inR_iff]; omega, ?_⟩, h9⟩, q2⟩
      right
      first | rfl | trivial
theorem specTick_eq (m : MixR) (r3 : 0 ≤ m.2.2.2.1 ∧ m.2.2.2.1 ≤ 10) : spec_l8Tick.f m.1 m.2.1 m.2.2.1 m.2.2.2.1 m.2.2.2.2 = some ((tickM m).1.1, (tickM m).1.2.1, (tickM m).1.2.2.1, (tickM m).1.2.2.2.1, (tickM m).1.2.2.2.2, (tickM m).2) := by
  obtain ⟨p, a, b, c, l⟩ := m
  unfold spec_l8Tick.f tickM
  dsimp only at *
  by_cases c1 : p.length = 0
  · rw [if_pos (by omega), if_pos c1]
  · rw [if_neg (by omega), if_neg c1]
    have e : spec_l1Least.f 10 (wrap64 (c + 1)) = some (mn 10 (c + 1)) := by
      rw [w64 (by omega) (by omega)]
      unfold spec_l1Least.f mn
      split <;> split <;> first | rfl | (congr 1; omega)
    rw [e, Option.bind_some]
    by_cases c2 : (p.length : Int) < a
    · rw [if_pos c2]
      by_cases c3 : mn 10 (c + 1) < b
      · rw [if_pos c3, if_pos ⟨c2, c3⟩]
      · rw [if_neg c3, if_neg (fun z => c3 z.2)]
    · rw [if_neg c2, if_neg (fun z => c2 z.1)]
theorem implTick_e (m : MixR) (g : goodM m.1 m.2.1 m.2.2.1 m.2.2.2.1 m.2.2.2.2 = true) : Ev (fun k => impl_TickMix.f k m.1 m.2.1 m.2.2.1 m.2.2.2.1 m.2.2.2.2) ((tickM m).1.1, (tickM m).1.2.1, (tickM m).1.2.2.1, (tickM m).1.2.2.2.1, (tickM m).1.2.2.2.2, (tickM m).2, true) := by
  obtain ⟨r1, r2, r3, r4⟩ := goodM_rng g
  obtain ⟨q1, q2, q3, q4⟩ := goodM_parts g
  unfold impl_TickMix.f
  have hz : ∀ y ∈ m.1, y.size ≤ 9223372036854775807 := by
    unfold goodM letB at g
    simp only [Bool.and_eq_true] at g
    intro y hy
    have := letA_iff.1 g.2.2.1.1 y hy
    omega
  refine ebind (implGM_e m.1 m.2.1 m.2.2.1 m.2.2.2.1 m.2.2.2.2 (by omega) (by omega) hz) ?_
  refine epos g ?_
  have o1 : slices_Clone_string_string.f m.1 = some m.1 := by unfold slices_Clone_string_string.f; simp; omega
  have o2 : slices_Clone_int_int.f m.2.2.2.2 = some m.2.2.2.2 := by unfold slices_Clone_int_int.f; simp; omega
  refine enb (a := m) (by unfold impl_Mix_own.f; rw [o1, Option.bind_some, o2]; rfl) ?_
  obtain ⟨p, a, b, c, l⟩ := m
  unfold tickM
  dsimp only at *
  rw [w64 (x := c + 1) (by omega) (by omega)]
  clear hz o1 o2 q1 q3 q4 g
  by_cases c1 : p.length = 0
  · have hc := r4 c1
    rw [if_pos c1]
    refine eneg (by omega) (epos (by omega) (epos (by omega) (enow ?_)))
    rfl
  · rw [if_neg c1]
    refine epos (by omega) ?_
    by_cases c2 : (p.length : Int) < a
    · refine epos c2 ?_
      by_cases c3 : mn 10 (c + 1) < b
      · have h3 : (p.length : Int) < a ∧ mn 10 (c + 1) < b := ⟨c2, c3⟩
        exact epos c3 (enow (by rw [if_pos h3]))
      · have h3 : ¬ ((p.length : Int) < a ∧ mn 10 (c + 1) < b) := fun z => c3 z.2
        exact eneg c3 (enow (by rw [if_neg h3]))
    · have h3 : ¬ ((p.length : Int) < a ∧ mn 10 (c + 1) < b) := fun z => c2 z.1
      exact eneg c2 (enow (by rw [if_neg h3]))
abbrev GM (m : MixR) : Prop := goodM m.1 m.2.1 m.2.2.1 m.2.2.2.1 m.2.2.2.2 = true
noncomputable def putAll : MixR → List ByteArray → MixR
  | m, [] => m
  | m, x :: r => putAll (putM m x).1 r
theorem putAll_good : ∀ (l : List ByteArray) (m : MixR), GM m → (∀ s ∈ l, (s.size : Int) ≤ 24) → GM (putAll m l)
  | [], _, g, _ => g
  | x :: r, m, g, h => putAll_good r (putM m x).1 (putM_good g (h x (by simp))) (fun s hs => h s (by simp [hs]))
theorem pm_l1 (out rounds : List (List ByteArray)) (i : Nat) (texts : List ByteArray) (ht : texts.length ≤ 12) (hs : ∀ s ∈ texts, (s.size : Int) ≤ 24) (ho : out.length ≤ 1000) {R : List (List ByteArray) × Bool}
    (HI : ∀ m, GM m → m = putAll m [] → True) (m0 : MixR) :
    ∀ (d j : Nat) (m : MixR), j + d = texts.length → GM m → putAll m (texts.drop j) = m0 →
      (Ev (fun k => impl_PlayMix.l0 k (out ++ [(tickM m0).2]) rounds (rounds.length : Int) (wrap64 ((i : Int) + 1)) (tickM m0).1.1 (tickM m0).1.2.1 (tickM m0).1.2.2.1 (tickM m0).1.2.2.2.1 (tickM m0).1.2.2.2.2) R → Ev (fun k => impl_PlayMix.l1 k out rounds (rounds.length : Int) (i : Int) texts (texts.length : Int) (j : Int) m.1 m.2.1 m.2.2.1 m.2.2.2.1 m.2.2.2.2) R) ∧
      (Ev (fun k => spec_PlayMix.l0 k (out ++ [(tickM m0).2]) rounds (rounds.length : Int) (wrap64 ((i : Int) + 1)) (tickM m0).1.1 (tickM m0).1.2.1 (tickM m0).1.2.2.1 (tickM m0).1.2.2.2.1 (tickM m0).1.2.2.2.2) R → Ev (fun k => spec_PlayMix.l1 k out rounds (rounds.length : Int) (i : Int) texts (texts.length : Int) (j : Int) m.1 m.2.1 m.2.2.1 m.2.2.2.1 m.2.2.2.2) R) := by
  intro d
  induction d with
  | zero =>
    intro j m hj g hm
    rw [List.drop_eq_nil_of_le (by omega)] at hm
    have hm' : m = m0 := hm
    subst hm'
    have hr := (goodM_rng g).2.2.1
    have h12 := (tickM_good g).2
    refine ⟨fun h => ?_, fun h => ?_⟩
    · refine eround (fun k => by rw [impl_PlayMix.l1]) ?_
      refine eneg (by omega) ?_
      refine ebind (implTick_e m g) ?_
      exact epos (by omega) h
    · refine eround (fun k => by rw [spec_PlayMix.l1]) ?_
      refine eneg (by omega) ?_
      refine enb (specTick_eq m hr) (enb rfl ?_)
      refine epos (by simp; omega) (epos (by omega) ?_)
      simpa using h
  | succ d ih =>
    intro j m hj g hm
    have hlt : j < texts.length := by omega
    have hx := hs _ (List.getElem_mem hlt)
    rw [List.drop_eq_getElem_cons hlt] at hm
    obtain ⟨i1, i2⟩ := ih (j + 1) (putM m texts[j]).1 (by omega) (putM_good g hx) hm
    obtain ⟨q1, q2, q3, q4⟩ := goodM_parts g
    have hz : ∀ y ∈ m.1, y.size ≤ 9223372036854775807 := by
      have g2 := g
      unfold GM goodM letB at g2
      simp only [Bool.and_eq_true] at g2
      intro y hy
      have := letA_iff.1 g2.2.2.1.1 y hy
      omega
    have nx : wrap64 ((j : Int) + 1) = ((j + 1 : Nat) : Int) := by rw [w64 (by omega) (by omega)]; omega
    have er : rdOf ByteArray.empty texts (j : Int) = texts[j] := getD_get texts j _ hlt
    have e1 := implPM_e m texts[j] (by omega) (by omega) hz (by omega)
    have e2 := specPut_e m texts[j] (by omega) (by omega) (by omega)
    have ep : putR m texts[j] = ((putM m texts[j]).1.1, (putM m texts[j]).1.2.1, (putM m texts[j]).1.2.2.1, (putM m texts[j]).1.2.2.2.1, (putM m texts[j]).1.2.2.2.2, (putM m texts[j]).2, true) := by
      unfold putR
      rw [if_pos g, if_pos hx]
    rw [ep] at e1
    refine ⟨fun h => ?_, fun h => ?_⟩
    · refine eround (fun k => by rw [impl_PlayMix.l1]) ?_
      refine epos (by omega) (epos (by omega) (epos (by omega) ?_))
      rw [er, nx]
      exact ebind e1 (i1 h)
    · refine eround (fun k => by rw [spec_PlayMix.l1]) ?_
      refine epos (by omega) (epos (by omega) (epos (by omega) ?_))
      rw [er, nx]
      exact ebind e2 (i2 h)
theorem pm_l0 (rounds : List (List ByteArray)) (hn : rounds.length ≤ 20) (hl : ∀ y ∈ rounds, y.length ≤ 1048576) : ∀ (d i : Nat) (out : List (List ByteArray)) (m : MixR), i + d = rounds.length → out.length ≤ i → (∀ y ∈ out, y.length ≤ 12) → GM m →
    ∃ R : List (List ByteArray) × Bool, (R.1.length ≤ 20 ∧ ∀ y ∈ R.1, y.length ≤ 12) ∧ Ev (fun k => impl_PlayMix.l0 k out rounds (rounds.length : Int) (i : Int) m.1 m.2.1 m.2.2.1 m.2.2.2.1 m.2.2.2.2) R ∧ Ev (fun k => spec_PlayMix.l0 k out rounds (rounds.length : Int) (i : Int) m.1 m.2.1 m.2.2.1 m.2.2.2.1 m.2.2.2.2) R := by
  intro d
  induction d with
  | zero =>
    intro i out m hi ho hy g
    refine ⟨(out, true), ⟨by dsimp only; omega, hy⟩, ?_, ?_⟩
    · refine eround (fun k => by rw [impl_PlayMix.l0]) ?_
      exact eneg (by omega) (enow rfl)
    · refine eround (fun k => by rw [spec_PlayMix.l0]) ?_
      exact eneg (by omega) (enow rfl)
  | succ d ih =>
    intro i out m hi ho hy g
    have hlt : i < rounds.length := by omega
    have hR := hl _ (List.getElem_mem hlt)
    have er : rd_L1 rounds (i : Int) = rounds[i] := getD_get rounds i _ hlt
    cases c : letB rounds[i] with
    | false =>
      refine ⟨([], false), ⟨by simp, by simp⟩, ?_, ?_⟩
      · refine eround (fun k => by rw [impl_PlayMix.l0]) ?_
        refine epos (by omega) (epos (by omega) (epos (by omega) ?_))
        rw [er]
        refine ebind (implLet_e rounds[i] (by omega)) ?_
        rw [c]
        exact eneg Bool.false_ne_true (enow rfl)
      · refine eround (fun k => by rw [spec_PlayMix.l0]) ?_
        refine epos (by omega) (epos (by omega) (epos (by omega) ?_))
        rw [er]
        refine ebind (specPool_e rounds[i] (by omega)) ?_
        rw [c]
        exact eneg Bool.false_ne_true (enow rfl)
    | true =>
      have c' := c
      unfold letB at c'
      simp only [Bool.and_eq_true, decide_eq_true_eq] at c'
      have hs := letA_iff.1 c'.1
      have g2 := putAll_good rounds[i] m g hs
      obtain ⟨g3, g4⟩ := tickM_good g2
      obtain ⟨R, R1, R2, R3⟩ := ih (i + 1) (out ++ [(tickM (putAll m rounds[i])).2]) (tickM (putAll m rounds[i])).1 (by omega) (by simp; omega) (fun y hy2 => by
        rcases List.mem_append.1 hy2 with h | h
        · exact hy y h
        · rw [List.mem_singleton] at h
          rw [h]
          exact g4) g3
      have nx : wrap64 ((i : Int) + 1) = ((i + 1 : Nat) : Int) := by rw [w64 (by omega) (by omega)]; omega
      rw [← nx] at R2 R3
      obtain ⟨k1, k2⟩ := pm_l1 out rounds i rounds[i] (by omega) hs (by omega) (R := R) (fun _ _ _ => trivial) (putAll m rounds[i]) rounds[i].length 0 m (by omega) g rfl
      refine ⟨R, R1, ?_, ?_⟩
      · refine eround (fun k => by rw [impl_PlayMix.l0]) ?_
        refine epos (by omega) (epos (by omega) (epos (by omega) ?_))
        rw [er]
        refine ebind (implLet_e rounds[i] (by omega)) ?_
        exact epos c (k1 R2)
      · refine eround (fun k => by rw [spec_PlayMix.l0]) ?_
        refine epos (by omega) (epos (by omega) (epos (by omega) ?_))
        rw [er]
        refine ebind (specPool_e rounds[i] (by omega)) ?_
        exact epos c (k2 R3)
theorem playMix_e (a b : Int) (rounds : List (List ByteArray)) (hl : ∀ y ∈ rounds, y.length ≤ 1048576) : ∃ R : List (List ByteArray) × Bool, (R.1.length ≤ 20 ∧ ∀ y ∈ R.1, y.length ≤ 12) ∧ Ev (fun k => impl_PlayMix.f k a b rounds) R ∧ Ev (fun k => spec_PlayMix.f k a b rounds) R := by
  have hb : ∀ (p : List ByteArray) (x y z : Int) (s : List Int), Ev (fun k => impl_PlayMix.j0 k rounds true p x y z s) (([], false) : List (List ByteArray) × Bool) := fun p x y z s => eround (fun k => by rw [impl_PlayMix.j0]) (epos rfl (enow rfl))
  have hb2 : ∀ (p : List ByteArray) (x y z : Int) (s : List Int), Ev (fun k => spec_PlayMix.j0 k rounds true p x y z s) (([], false) : List (List ByteArray) × Bool) := fun p x y z s => eround (fun k => by rw [spec_PlayMix.j0]) (epos rfl (enow rfl))
  by_cases h : inR 1 12 a = true ∧ inR 1 10 b = true
  · have n1 : impl_NewMix.f a b = some ([], a, b, 0, [], true) := by
      unfold impl_NewMix.f
      rw [within_eq, h.1, Option.bind_some, if_pos rfl, within_eq, h.2]
      rfl
    have n2 : spec_NewMix.f a b = some ([], a, b, 0, [], true) := by
      unfold spec_NewMix.f
      rw [l1In_eq, h.1, Option.bind_some, if_pos rfl, l1In_eq, h.2]
      rfl
    by_cases hc : (rounds.length : Int) > 20
    · refine ⟨([], false), ⟨by simp, by simp⟩, ?_, ?_⟩
      · unfold impl_PlayMix.f
        refine enb n1 (epos rfl ?_)
        rw [decide_eq_true hc]
        exact hb _ _ _ _ _
      · unfold spec_PlayMix.f
        refine enb n2 (epos rfl ?_)
        rw [decide_eq_true hc]
        exact hb2 _ _ _ _ _
    · have g : GM (([], a, b, 0, []) : MixR) := by
        unfold GM goodM letB seenB rngB
        simp only [Bool.and_eq_true]
        exact ⟨rfl, rfl, ⟨rfl, rfl⟩, ⟨h.1, h.2, rfl, rfl⟩, ⟨rfl, rfl⟩⟩
      obtain ⟨R, R1, R2, R3⟩ := pm_l0 rounds (by omega) hl rounds.length 0 [] ([], a, b, 0, []) (by omega) (by simp) (by simp) g
      refine ⟨R, R1, ?_, ?_⟩
      · unfold impl_PlayMix.f
        refine enb n1 (epos rfl ?_)
        rw [decide_eq_false hc]
        refine eround (fun k => by rw [impl_PlayMix.j0]) ?_
        exact eneg Bool.false_ne_true R2
      · unfold spec_PlayMix.f
        refine enb n2 (epos rfl ?_)
        rw [decide_eq_false hc]
        refine eround (fun k => by rw [spec_PlayMix.j0]) ?_
        exact eneg Bool.false_ne_true R3
  · have n1 : impl_NewMix.f a b = some ([], 0, 0, 0, [], false) := by
      unfold impl_NewMix.f
      rw [within_eq, Option.bind_some]
      cases e : inR 1 12 a with
      | false => rfl
      | true =>
        rw [if_pos rfl, within_eq]
        cases e2 : inR 1 10 b with
        | false => rfl
        | true => exact absurd ⟨e, e2⟩ h
    have n2 : spec_NewMix.f a b = some ([], 0, 0, 0, [], false) := by
      unfold spec_NewMix.f
      rw [l1In_eq, Option.bind_some]
      cases e : inR 1 12 a with
      | false => rfl
      | true =>
        rw [if_pos rfl, l1In_eq]
        cases e2 : inR 1 10 b with
        | false => rfl
        | true => exact absurd ⟨e, e2⟩ h
    refine ⟨([], false), ⟨by simp, by simp⟩, ?_, ?_⟩
    · unfold impl_PlayMix.f
      exact enb n1 (eneg Bool.false_ne_true (hb _ _ _ _ _))
    · unfold spec_PlayMix.f
      exact enb n2 (eneg Bool.false_ne_true (hb2 _ _ _ _ _))
theorem FnExactPlayMix : laws_FnExactPlayMix.Pure := by
  intro a b xs _ _ hW
  obtain ⟨w1, w2⟩ := hW
  unfold maxLen at w1 w2
  apply Ev.rounds
  unfold laws_FnExactPlayMix.f
  obtain ⟨r, _, z2, z3⟩ := laws_szStringSS_z xs 1048576 (by omega) (by omega) ⟨by omega, fun y hy => ⟨by have := (w2 y hy).1; omega, fun z hz => by have := (w2 y hy).2 z hz; omega⟩⟩
  refine ebind z2 ?_
  by_cases hr : r < 0
  · exact epos hr (enow rfl)
  refine eneg hr ?_
  have hx := z3 (by omega)
  have e1 := laws_toStringSS_e xs hx
  obtain ⟨R, ⟨s1, s2⟩, e3, e2⟩ := playMix_e a b xs hx.2
  have hR : R.1.length ≤ 1048576 ∧ ∀ y ∈ R.1, y.length ≤ 1048576 := ⟨by omega, fun y hy => by have := s2 y hy; omega⟩
  have e4 := laws_eqStringSS_r R.1 hR
  have e5 := laws_eqStringSS_r xs hx
  obtain ⟨_, t, t0, t1, q2, q3⟩ := laws_markStringSS_m xs 1 hx (by omega) (by omega)
  obtain ⟨_, t', t0', t1', q4, q5⟩ := laws_markStringSS_m R.1 1 hR (by omega) (by omega)
  repeat' first
    | exact enow rfl
    | (with_reducible refine ebind e1 ?_)
    | (with_reducible refine ebind e2 ?_)
    | (with_reducible refine ebind e3 ?_)
    | (with_reducible refine ebind e4 ?_)
    | (with_reducible refine ebind e5 ?_)
    | (with_reducible refine ebind q2 ?_)
    | (with_reducible refine ebind q4 ?_)
    | (with_reducible refine ebind q5 ?_)
    | (with_reducible refine eround (fun k => laws_FnExactPlayMix.j0.eq_2 _ _ _ _ _ _ _ _ _ _) ?_)
    | (with_reducible refine eround (fun k => laws_FnExactPlayMix.j1.eq_2 _ _ _ _ _ _ _ _) ?_)
    | (with_reducible refine eround (fun k => laws_FnExactPlayMix.j2.eq_2 _ _ _ _) ?_)
    | (with_reducible refine enb rfl ?_)
    | (with_reducible refine epos rfl ?_)
    | (refine eneg ?_ ?_; focus (first | omega | (dsimp only; omega) | (simp; done) | (simp; omega)))

end Go.Proofs.Ytkgogglnipdcfaa.Pure
