/- The law FnExactPlayNet, told over lists: the program's PlayNet and the reference's answer alike; nothing is written into an argument; what is made owns its memory. No condition. -/
import Derived.Test.YtihekdlcfohkkaaGreatDoorQFnExactPlayNetx12
import Derived.Test.YtihekdlcfohkkaaGreatDoorPk
namespace Go.Proofs.YtihekdlcfohkkaaGreatDoor.Pure
open Go.RowKit Go.Proofs.YtihekdlcfohkkaaGreatDoor.QFnExactPlayNet Go.Proofs.YtihekdlcfohkkaaGreatDoorW.PrintWords Go.Proofs.YtihekdlcfohkkaaGreatDoorW.PrintLast Go.Proofs.YtihekdlcfohkkaaGreatDoorW.PrintMore Go.Proofs.YtihekdlcfohkkaaGreatDoor
set_option linter.unusedVariables false
set_option linter.unusedSimpArgs false

open Pk
theorem laws_markText_l : ∀ (n : Nat) (m : Int) (x : ByteArray), m ≤ n → (x.size : Int) + m ≤ 4611686018427387904 → 0 ≤ m → ∃ t, Ev (fun k => laws_markText.l0 k m x) t := by
  intro n
  induction n with
  | zero =>
    intro m x h h1 h0
    have : x.size + 1 ≤ 9223372036854775807 := by omega
    exact ⟨_, eround (fun k => by rw [laws_markText.l0]) (eneg (by omega) (epos (by omega) (enow rfl)))⟩
  | succ n ih =>
    intro m x h h1 h0
    by_cases hm : m > 0
    · have hs : ∀ d : Int, (strOfNums [d]).size = 1 := fun d => by simp [strOfNums, ByteArray.size]
      have e : Int.tdiv m 10 = m / 10 := Int.tdiv_eq_ediv_of_nonneg h0
      obtain ⟨t, ht⟩ := ih (m / 10) (strOfNums [(wrap64 (48 + (Int.tmod m 10))) % 256] ++ x) (by omega) (by rw [ByteArray.size_append, hs]; push_cast; omega) (by omega)
      refine ⟨t, eround (fun k => by rw [laws_markText.l0]) (epos hm ?_)⟩
      refine enb rfl ?_
      refine epos (by rw [hs]; omega) ?_
      rw [e, w64 (by omega) (by omega)]
      exact ht
    · have : x.size + 1 ≤ 9223372036854775807 := by omega
      exact ⟨_, eround (fun k => by rw [laws_markText.l0]) (eneg (by omega) (epos (by omega) (enow rfl)))⟩
noncomputable def mtext (m : Int) : ByteArray := theEv ByteArray.empty (fun k => laws_markText.f k m)
theorem laws_markText_m (m : Int) (h0 : 0 ≤ m) (h1 : m ≤ 4611686018427387904) : Ev (fun k => laws_markText.f k m) (mtext m) := by
  have : ∃ t, Ev (fun k => laws_markText.f k m) t := by
    unfold laws_markText.f
    by_cases h : m ≤ 0
    · exact ⟨_, epos h (enow rfl)⟩
    · obtain ⟨t, ht⟩ := laws_markText_l m.toNat m ⟨#[]⟩ (by omega) (by simp [ByteArray.size]; omega) h0
      exact ⟨t, eneg h ht⟩
  obtain ⟨t, ht⟩ := this
  exact theEv_of ht
/-! laws_szNetStep -/
theorem laws_szNetStep_z (a0_0 : Int) (a0_1 : Int) (a0_2 : ByteArray) (m : Int) (h0 : 0 ≤ m) (h1 : m ≤ 1048576) (hw : a0_2.size ≤ 9223372036854775807) : ∃ r, r ≤ m ∧ laws_szNetStep.f a0_0 a0_1 a0_2 m = some r ∧ (0 ≤ r → True) := by
  unfold laws_szNetStep.f
  rw [w64 (by omega) (by omega)]
  by_cases h : m - (a0_2.size : Int) < 0
  · exact ⟨-1, by omega, if_pos h, fun _ => trivial⟩
  · exact ⟨_, by omega, if_neg h, fun _ => trivial⟩
/-! laws_szNetStepS -/
theorem laws_szNetStepS_l (xs : List S50) (hw : xs.length ≤ 9223372036854775807 ∧ ∀ y ∈ xs, y.f2.size ≤ 9223372036854775807) : ∀ (d i : Nat) (m : Int), i + d = xs.length → 0 ≤ m → m ≤ 1048576 → ∃ r, r ≤ m ∧ Ev (fun k => laws_szNetStepS.l0 k xs m (i : Int)) r ∧ (0 ≤ r → ∀ y ∈ xs.drop i, True) := by
  have hn := hw.1
  intro d
  induction d with
  | zero =>
    intro i m hi h0 h1
    exact ⟨m, Int.le_refl _, eround (fun k => by rw [laws_szNetStepS.l0]) (eneg (by omega) (enow rfl)), fun _ y hy => by rw [List.drop_eq_nil_of_le (by omega)] at hy; simp at hy⟩
  | succ d ih =>
    intro i m hi h0 h1
    have hlt : i < xs.length := by omega
    have hg : rd_T50 xs (i : Int) = xs[i] := getD_get xs i _ hlt
    have hy := hw.2 _ (List.getElem_mem hlt)
    obtain ⟨t, t1, t2, t3⟩ := laws_szNetStep_z xs[i].f0 xs[i].f1 xs[i].f2 m h0 h1 hy
    by_cases ht : t < 0
    · refine ⟨-1, by omega, eround (fun k => by rw [laws_szNetStepS.l0]) (epos (by omega) (epos (by omega) ?_)), fun h => by omega⟩
      rw [hg]
      exact enb t2 (epos ht (enow rfl))
    · obtain ⟨r, r1, r2, r3⟩ := ih (i + 1) t (by omega) (by omega) (by omega)
      refine ⟨r, by omega, eround (fun k => by rw [laws_szNetStepS.l0]) (epos (by omega) (epos (by omega) ?_)), fun h y hy' => ?_⟩
      · rw [hg, w64 (x := (i : Int) + 1) (by omega) (by omega)]
        refine enb t2 (eneg ht ?_)
        exact r2
      · rw [List.drop_eq_getElem_cons hlt] at hy'
        rcases List.mem_cons.1 hy' with rfl | hy'
        · exact t3 (by omega)
        · exact r3 h y hy'
theorem laws_szNetStepS_z (xs : List S50) (m : Int) (h0 : 0 ≤ m) (h1 : m ≤ 1048576) (hw : xs.length ≤ 9223372036854775807 ∧ ∀ y ∈ xs, y.f2.size ≤ 9223372036854775807) : ∃ r, r ≤ m ∧ Ev (fun k => laws_szNetStepS.f k xs m) r ∧ (0 ≤ r → xs.length ≤ 1048576) := by
  have hn := hw.1
  unfold laws_szNetStepS.f
  rw [w64 (by omega) (by omega)]
  by_cases h : m - (xs.length : Int) < 0
  · exact ⟨-1, by omega, epos h (enow rfl), fun h => by omega⟩
  · obtain ⟨r, r1, r2, r3⟩ := laws_szNetStepS_l xs hw xs.length 0 (m - xs.length) (by omega) (by omega) (by omega)
    exact ⟨r, by omega, eneg h r2, fun h => by omega⟩
/-! laws_eqIntS -/
theorem laws_eqIntS_lr (xs : List Int) (hs : xs.length ≤ 1048576) : ∀ (d i : Nat), i + d = xs.length → Ev (fun k => laws_eqIntS.l0 k xs xs (i : Int)) true := by
  have hn := hs
  intro d
  induction d with
  | zero =>
    intro i hi
    exact eround (fun k => by rw [laws_eqIntS.l0]) (eneg (by omega) (enow rfl))
  | succ d ih =>
    intro i hi
    have hlt : i < xs.length := by omega
    refine eround (fun k => by rw [laws_eqIntS.l0]) (epos (by omega) (epos (by omega) (epos (by omega) ?_)))
    first | refine epos rfl ?_ | (refine eneg ?_ ?_; focus (simp; done))
    rw [w64 (by omega) (by omega)]
    exact ih (i + 1) (by omega)
theorem laws_eqIntS_r (xs : List Int) (hs : xs.length ≤ 1048576) : Ev (fun k => laws_eqIntS.f k xs xs) true := by
  unfold laws_eqIntS.f
  exact epos rfl (laws_eqIntS_lr xs hs xs.length 0 (by omega))
/-! laws_eqStringS -/
theorem laws_eqStringS_lr (xs : List ByteArray) (hs : xs.length ≤ 1048576) : ∀ (d i : Nat), i + d = xs.length → Ev (fun k => laws_eqStringS.l0 k xs xs (i : Int)) true := by
  have hn := hs
  intro d
  induction d with
  | zero =>
    intro i hi
    exact eround (fun k => by rw [laws_eqStringS.l0]) (eneg (by omega) (enow rfl))
  | succ d ih =>
    intro i hi
    have hlt : i < xs.length := by omega
    refine eround (fun k => by rw [laws_eqStringS.l0]) (epos (by omega) (epos (by omega) (epos (by omega) ?_)))
    first | refine epos rfl ?_ | (refine eneg ?_ ?_; focus (simp; done))
    rw [w64 (by omega) (by omega)]
    exact ih (i + 1) (by omega)
theorem laws_eqStringS_r (xs : List ByteArray) (hs : xs.length ≤ 1048576) : Ev (fun k => laws_eqStringS.f k xs xs) true := by
  unfold laws_eqStringS.f
  exact epos rfl (laws_eqStringS_lr xs hs xs.length 0 (by omega))
/-! laws_eqStringSS -/
theorem laws_eqStringSS_lr (xs : List (List ByteArray)) (hs : (xs.length ≤ 1048576 ∧ ∀ y ∈ xs, y.length ≤ 1048576)) : ∀ (d i : Nat), i + d = xs.length → Ev (fun k => laws_eqStringSS.l0 k xs xs (i : Int)) true := by
  have hn := hs.1
  intro d
  induction d with
  | zero =>
    intro i hi
    exact eround (fun k => by rw [laws_eqStringSS.l0]) (eneg (by omega) (enow rfl))
  | succ d ih =>
    intro i hi
    have hlt : i < xs.length := by omega
    refine eround (fun k => by rw [laws_eqStringSS.l0]) (epos (by omega) (epos (by omega) (epos (by omega) ?_)))
    refine ebind (laws_eqStringS_r (xs.getD ((i : Int)).toNat []) (by rw [getD_get xs i _ hlt]; exact hs.2 _ (List.getElem_mem hlt))) (epos rfl ?_)
    rw [w64 (by omega) (by omega)]
    exact ih (i + 1) (by omega)
theorem laws_eqStringSS_r (xs : List (List ByteArray)) (hs : (xs.length ≤ 1048576 ∧ ∀ y ∈ xs, y.length ≤ 1048576)) : Ev (fun k => laws_eqStringSS.f k xs xs) true := by
  unfold laws_eqStringSS.f
  exact epos rfl (laws_eqStringSS_lr xs hs xs.length 0 (by omega))
/-! laws_eqNet -/
theorem laws_eqNet_r (l0_0 : List Int) (l0_1 : List (List ByteArray)) (l0_2 : List (List ByteArray)) (l0_3 : List (List ByteArray)) (a0_4 : Int) (hl0_0 : l0_0.length ≤ 1048576) (hl0_1 : (l0_1.length ≤ 1048576 ∧ ∀ y ∈ l0_1, y.length ≤ 1048576)) (hl0_2 : (l0_2.length ≤ 1048576 ∧ ∀ y ∈ l0_2, y.length ≤ 1048576)) (hl0_3 : (l0_3.length ≤ 1048576 ∧ ∀ y ∈ l0_3, y.length ≤ 1048576)) : Ev (fun k => laws_eqNet.f k l0_0 l0_1 l0_2 l0_3 a0_4 l0_0 l0_1 l0_2 l0_3 a0_4) true := by
  unfold laws_eqNet.f
  repeat' first
    | exact enow rfl
    | refine epos rfl ?_
    | (refine eneg ?_ ?_; focus (simp; done))
    | refine ebind (laws_eqIntS_r _ (by assumption)) ?_
    | refine ebind (laws_eqStringSS_r _ (by assumption)) ?_
/-! laws_markIntS -/
theorem laws_markIntS_h : ∀ (d i : Nat) (xs : List Int) (m : Int), i + d = xs.length → xs.length ≤ 1048576 → 0 ≤ m → m ≤ 4611686018427387904 - 1 * d → ∃ ys : List Int, ys.length = xs.length ∧ ys.take i = xs.take i ∧
    Ev (fun k => laws_markIntS.l0 k xs m (i : Int)) (m + 1 * d, ys) ∧ Ev (fun k => laws_heldIntS.l0 k ys m (i : Int)) (m + 1 * d) := by
  intro d
  induction d with
  | zero =>
    intro i xs m hi hn h0 h1
    exact ⟨xs, rfl, rfl, eround (fun k => by rw [laws_markIntS.l0]) (eneg (by omega) (enow (by simp))), eround (fun k => by rw [laws_heldIntS.l0]) (eneg (by omega) (enow (by simp)))⟩
  | succ d ih =>
    intro i xs m hi hn h0 h1
    have hlt : i < xs.length := by omega
    have w1 : wrap64 ((i : Int) + 1) = ((i + 1 : Nat) : Int) := by rw [w64 (by omega) (by omega)]; rfl
    have v0 : wrap64 (m + 1) = m + 1 := w64 (by omega) (by omega)
    obtain ⟨ys, hl, ht, hm, hh⟩ := ih (i + 1) (xs.set ((i : Int)).toNat m) (m + 1) (by simp; omega) (by simpa using hn) (by omega) (by push_cast at h1; omega)
    have hlt' : i < ys.length := by rw [hl]; simpa using hlt
    have hy : ys[i] = m := by
      have := congrArg (fun l => l[i]?) ht
      simp only [List.getElem?_take_of_lt (Nat.lt_succ_self i), List.getElem?_eq_getElem hlt'] at this
      rw [show ((i : Int)).toNat = i by simp, List.getElem?_set_self (by simpa using hlt)] at this
      exact Option.some.inj this
    refine ⟨ys, by rw [hl]; simp, ?_, ?_, ?_⟩
    · have := congrArg (List.take i) ht
      rw [List.take_take, List.take_take, Nat.min_eq_left (by omega)] at this
      rw [this]
      simp [List.take_set_of_le]
    · refine eround (fun k => by rw [laws_markIntS.l0]) (epos (by omega) ?_)
      try simp only [w1, v0]
      refine epos (by omega) ?_
      refine enb rfl ?_
      try simp only [w1, v0]
      skip
      rw [show m + 1 * ((d + 1 : Nat) : Int) = m + 1 + 1 * (d : Int) by push_cast; omega]
      simpa using hm
    · refine eround (fun k => by rw [laws_heldIntS.l0]) (epos (by omega) (epos (by omega) ?_))
      have hr : ∀ z, ys.getD ((i : Int)).toNat z = ys[i] := fun z => getD_get ys i z hlt'
      try simp only [w1, v0]
      simp only [rd, rdOf, hr, hy]
      repeat (first | refine epos trivial ?_ | refine epos rfl ?_ | (refine eneg ?_ ?_; focus (simp; done)))
      rw [show m + 1 * ((d + 1 : Nat) : Int) = m + 1 + 1 * (d : Int) by push_cast; omega]
      exact hh
theorem laws_markIntS_m (xs : List Int) (m : Int) (hn : xs.length ≤ 1048576) (h0 : 0 ≤ m) (h1 : m ≤ 4611686018427387904 - 1 * xs.length) : ∃ ys : List Int, ys.length = xs.length ∧ Ev (fun k => laws_markIntS.f k xs m) (m + 1 * xs.length, ys) ∧ Ev (fun k => laws_heldIntS.f k ys m) (m + 1 * xs.length) := by
  obtain ⟨ys, hl, _, h⟩ := laws_markIntS_h xs.length 0 xs m (by omega) hn h0 h1
  exact ⟨ys, hl, h⟩
/-! laws_markStringS -/
theorem laws_markStringS_h : ∀ (d i : Nat) (xs : List ByteArray) (m : Int), i + d = xs.length → xs.length ≤ 1048576 → 0 ≤ m → m ≤ 4611686018427387904 - 1 * d → ∃ ys : List ByteArray, ys.length = xs.length ∧ ys.take i = xs.take i ∧
    Ev (fun k => laws_markStringS.l0 k xs m (i : Int)) (m + 1 * d, ys) ∧ Ev (fun k => laws_heldStringS.l0 k ys m (i : Int)) (m + 1 * d) := by
  intro d
  induction d with
  | zero =>
    intro i xs m hi hn h0 h1
    exact ⟨xs, rfl, rfl, eround (fun k => by rw [laws_markStringS.l0]) (eneg (by omega) (enow (by simp))), eround (fun k => by rw [laws_heldStringS.l0]) (eneg (by omega) (enow (by simp)))⟩
  | succ d ih =>
    intro i xs m hi hn h0 h1
    have hlt : i < xs.length := by omega
    have w1 : wrap64 ((i : Int) + 1) = ((i + 1 : Nat) : Int) := by rw [w64 (by omega) (by omega)]; rfl
    have v0 : wrap64 (m + 1) = m + 1 := w64 (by omega) (by omega)
    obtain ⟨ys, hl, ht, hm, hh⟩ := ih (i + 1) (xs.set ((i : Int)).toNat (mtext m)) (m + 1) (by simp; omega) (by simpa using hn) (by omega) (by push_cast at h1; omega)
    have hlt' : i < ys.length := by rw [hl]; simpa using hlt
    have hy : ys[i] = (mtext m) := by
      have := congrArg (fun l => l[i]?) ht
      simp only [List.getElem?_take_of_lt (Nat.lt_succ_self i), List.getElem?_eq_getElem hlt'] at this
      rw [show ((i : Int)).toNat = i by simp, List.getElem?_set_self (by simpa using hlt)] at this
      exact Option.some.inj this
    refine ⟨ys, by rw [hl]; simp, ?_, ?_, ?_⟩
    · have := congrArg (List.take i) ht
      rw [List.take_take, List.take_take, Nat.min_eq_left (by omega)] at this
      rw [this]
      simp [List.take_set_of_le]
    · refine eround (fun k => by rw [laws_markStringS.l0]) (epos (by omega) ?_)
      try simp only [w1, v0]
      refine ebind (laws_markText_m _ (by omega) (by omega)) ?_
      refine epos (by omega) ?_
      refine enb rfl ?_
      try simp only [w1, v0]
      skip
      rw [show m + 1 * ((d + 1 : Nat) : Int) = m + 1 + 1 * (d : Int) by push_cast; omega]
      simpa using hm
    · refine eround (fun k => by rw [laws_heldStringS.l0]) (epos (by omega) (epos (by omega) ?_))
      have hr : ∀ z, ys.getD ((i : Int)).toNat z = ys[i] := fun z => getD_get ys i z hlt'
      try simp only [w1, v0]
      simp only [rd, rdOf, hr, hy]
      first | ((with_reducible refine ebind (laws_markText_m _ ?_ ?_) ?_); (focus omega); (focus omega)) | (repeat (first | refine epos trivial ?_ | (with_reducible refine epos rfl ?_) | (refine eneg ?_ ?_; focus (simp; done))); (with_reducible refine ebind (laws_markText_m _ ?_ ?_) ?_); (focus omega); (focus omega))
      repeat (first | refine epos trivial ?_ | refine epos rfl ?_ | (refine eneg ?_ ?_; focus (simp; done)))
      rw [show m + 1 * ((d + 1 : Nat) : Int) = m + 1 + 1 * (d : Int) by push_cast; omega]
      exact hh
theorem laws_markStringS_m (xs : List ByteArray) (m : Int) (hn : xs.length ≤ 1048576) (h0 : 0 ≤ m) (h1 : m ≤ 4611686018427387904 - 1 * xs.length) : ∃ ys : List ByteArray, ys.length = xs.length ∧ Ev (fun k => laws_markStringS.f k xs m) (m + 1 * xs.length, ys) ∧ Ev (fun k => laws_heldStringS.f k ys m) (m + 1 * xs.length) := by
  obtain ⟨ys, hl, _, h⟩ := laws_markStringS_h xs.length 0 xs m (by omega) hn h0 h1
  exact ⟨ys, hl, h⟩
/-! laws_markStringSS -/
theorem laws_markStringSS_h : ∀ (d i : Nat) (xs : List (List ByteArray)) (m : Int), i + d = xs.length → xs.length ≤ 1048576 → (∀ (j : Nat) (h : j < xs.length), i ≤ j → xs[j].length ≤ 1048576) → 0 ≤ m → m ≤ 4611686018427387904 - 1048576 * d → ∃ (ys : List (List ByteArray)) (t : Int), m ≤ t ∧ t ≤ m + 1048576 * d ∧ ys.length = xs.length ∧ ys.take i = xs.take i ∧ Ev (fun k => laws_markStringSS.l0 k xs m (i : Int)) (t, ys) ∧ Ev (fun k => laws_heldStringSS.l0 k ys m (i : Int)) t := by
  intro d
  induction d with
  | zero =>
    intro i xs m hi hn hs h0 h1
    exact ⟨xs, m, Int.le_refl _, by omega, rfl, rfl, eround (fun k => by rw [laws_markStringSS.l0]) (eneg (by omega) (enow rfl)), eround (fun k => by rw [laws_heldStringSS.l0]) (eneg (by omega) (enow rfl))⟩
  | succ d ih =>
    intro i xs m hi hn hs h0 h1
    have hlt : i < xs.length := by omega
    have w1 : wrap64 ((i : Int) + 1) = ((i + 1 : Nat) : Int) := by rw [w64 (by omega) (by omega)]; rfl
    have hb := hs i hlt (Nat.le_refl _)
    obtain ⟨zs, hz, m1, m2⟩ := laws_markStringS_m xs[i] m hb h0 (by push_cast at h1; omega)
    generalize he : m + 1 * (xs[i].length : Int) = m' at m1 m2
    obtain ⟨ys, t, t0, t1, hl, ht, hm, hh⟩ := ih (i + 1) (xs.set i zs) m' (by simp; omega) (by simpa using hn) (fun j h hj => by rw [List.getElem_set_ne (by omega)]; exact hs j (by simpa using h) (by omega)) (by omega) (by push_cast at h1; omega)
    have hmk : Ev (fun k => laws_markStringSS.l0 k xs m (i : Int)) (t, ys) := by
      refine eround (fun k => by rw [laws_markStringSS.l0]) (epos (by omega) (epos (by omega) ?_))
      rw [show laws_markStringSS.rd xs (i : Int) = xs[i] from getD_get xs i _ hlt]
      refine ebind m1 ?_
      rw [w1]
      exact hm
    have hlt' : i < ys.length := by rw [hl]; simpa using hlt
    have hy : ys[i] = zs := by
      have := congrArg (fun l => l[i]?) ht
      simp only [List.getElem?_take_of_lt (Nat.lt_succ_self i), List.getElem?_eq_getElem hlt'] at this
      rw [List.getElem?_set_self (by simpa using hlt)] at this
      exact Option.some.inj this
    refine ⟨ys, t, by omega, by push_cast; omega, by rw [hl]; simp, ?_, hmk, ?_⟩
    · have := congrArg (List.take i) ht
      rw [List.take_take, List.take_take, Nat.min_eq_left (by omega)] at this
      rw [this]
      simp [List.take_set_of_le]
    · refine eround (fun k => by rw [laws_heldStringSS.l0]) (epos (by omega) (epos (by omega) ?_))
      rw [show rd_L2 ys (i : Int) = ys[i] from getD_get ys i _ hlt', hy]
      refine ebind m2 (eneg (by omega) ?_)
      rw [w1]
      exact hh
theorem laws_markStringSS_m (xs : List (List ByteArray)) (m : Int) (hs : xs.length ≤ 1048576 ∧ ∀ y ∈ xs, y.length ≤ 1048576) (h0 : 0 ≤ m) (h1 : m ≤ 4611686018427387904 - 1048576 * xs.length) : ∃ (ys : List (List ByteArray)) (t : Int), m ≤ t ∧ t ≤ m + 1048576 * xs.length ∧ Ev (fun k => laws_markStringSS.f k xs m) (t, ys) ∧ Ev (fun k => laws_heldStringSS.f k ys m) t := by
  obtain ⟨ys, t, t0, t1, hl, h⟩ := laws_markStringSS_h xs.length 0 xs m (by omega) hs.1 (fun j h _ => hs.2 _ (List.getElem_mem h)) h0 h1
  exact ⟨ys, t, t0, t1, h.2⟩
/-! laws_markNet -/
theorem laws_markNet_m (l0_0 : List Int) (l0_1 : List (List ByteArray)) (l0_2 : List (List ByteArray)) (l0_3 : List (List ByteArray)) (a0_4 : Int) (m : Int) (hl0_0 : l0_0.length ≤ 1048576) (hl0_1 : (l0_1.length ≤ 1048576 ∧ ∀ y ∈ l0_1, y.length ≤ 1048576)) (hl0_2 : (l0_2.length ≤ 1048576 ∧ ∀ y ∈ l0_2, y.length ≤ 1048576)) (hl0_3 : (l0_3.length ≤ 1048576 ∧ ∀ y ∈ l0_3, y.length ≤ 1048576)) (h0 : 0 ≤ m) (h1 : m ≤ 2305843009213693952) : ∃ (yl0_0 : List Int) (yl0_1 : List (List ByteArray)) (yl0_2 : List (List ByteArray)) (yl0_3 : List (List ByteArray)) (t : Int), m ≤ t ∧ t ≤ m + 3298535931904 ∧ Ev (fun k => laws_markNet.f k l0_0 l0_1 l0_2 l0_3 a0_4 m) (t, yl0_0, yl0_1, yl0_2, yl0_3) ∧ Ev (fun k => laws_heldNet.f k yl0_0 yl0_1 yl0_2 yl0_3 a0_4 m) t := by
  have ll0_1 := hl0_1.1
  have ll0_2 := hl0_2.1
  have ll0_3 := hl0_3.1
  obtain ⟨yl0_0, _, e0, g0⟩ := laws_markIntS_m l0_0 m hl0_0 (by omega) (by omega)
  generalize z0 : m + 1 * (l0_0.length : Int) = t0 at e0 g0
  obtain ⟨yl0_1, t1, a1, b1, e1, g1⟩ := laws_markStringSS_m l0_1 t0 hl0_1 (by omega) (by omega)
  obtain ⟨yl0_2, t2, a2, b2, e2, g2⟩ := laws_markStringSS_m l0_2 t1 hl0_2 (by omega) (by omega)
  obtain ⟨yl0_3, t3, a3, b3, e3, g3⟩ := laws_markStringSS_m l0_3 t2 hl0_3 (by omega) (by omega)
  refine ⟨yl0_0, yl0_1, yl0_2, yl0_3, t3, by omega, by omega, ?_, ?_⟩
  · unfold laws_markNet.f
    exact ebind e0 (ebind e1 (ebind e2 (ebind e3 (enow rfl))))
  · unfold laws_heldNet.f
    repeat' first
    | exact enow rfl
    | (with_reducible refine ebind g0 ?_)
    | (with_reducible refine ebind g1 ?_)
    | (with_reducible refine ebind g2 ?_)
    | (with_reducible refine ebind g3 ?_)
    | (refine eneg ?_ ?_; focus omega)
/-! laws_toIntS -/
theorem laws_toIntS_l (xs : List Int) (hs : xs.length ≤ 1048576) : ∀ (d i : Nat) (acc : List Int), i + d = xs.length → acc.length = xs.length → acc.take i = xs.take i → Ev (fun k => laws_toIntS.l0 k xs acc (i : Int)) xs := by
  have hn := hs
  intro d
  induction d with
  | zero =>
    intro i acc hi hl ht
    refine eround (fun k => by rw [laws_toIntS.l0]) (eneg (by omega) (enow ?_))
    rwa [List.take_of_length_le (by omega), List.take_of_length_le (by first | omega | (simp; omega))] at ht
  | succ d ih =>
    intro i acc hi hl ht
    have hlt : i < xs.length := by omega
    refine eround (fun k => by rw [laws_toIntS.l0]) (epos (by omega) (epos (by omega) ?_))
    refine epos (by omega) ?_
    rw [w64 (by omega) (by omega)]
    refine ih (i + 1) _ (by omega) (by simpa using hl) ?_
    exact take_set_succ _ _ rfl (by first | exact hlt | (simp; omega)) (by first | exact hl | simpa using hl) ht (by first | exact (getD_get xs i _ hlt).symm | (simp only [List.getElem_map]; rw [← getD_get xs i _ hlt]; rfl))
theorem laws_toIntS_e (xs : List Int) (hs : xs.length ≤ 1048576) : Ev (fun k => laws_toIntS.f k xs) xs := by
  have hn := hs
  unfold laws_toIntS.f
  exact epos (by omega) (epos (by omega) (laws_toIntS_l xs hs xs.length 0 _ (by omega) (by simp) (by simp)))
/-! laws_toNetStep -/
theorem laws_toNetStep_e (a0_0 : Int) (a0_1 : Int) (a0_2 : ByteArray) : laws_toNetStep.f a0_0 a0_1 a0_2 = some (a0_0, a0_1, a0_2) := rfl
/-! laws_toNetStepS -/
theorem laws_toNetStepS_l (xs : List S50) (hs : xs.length ≤ 1048576) : ∀ (d i : Nat) (acc : List S53), i + d = xs.length → acc.length = xs.length → acc.take i = (xs.map fun x => (⟨x.f0, x.f1, x.f2⟩ : S53)).take i → Ev (fun k => laws_toNetStepS.l0 k xs acc (i : Int)) (xs.map fun x => (⟨x.f0, x.f1, x.f2⟩ : S53)) := by
  have hn := hs
  intro d
  induction d with
  | zero =>
    intro i acc hi hl ht
    refine eround (fun k => by rw [laws_toNetStepS.l0]) (eneg (by omega) (enow ?_))
    rwa [List.take_of_length_le (by omega), List.take_of_length_le (by first | omega | (simp; omega))] at ht
  | succ d ih =>
    intro i acc hi hl ht
    have hlt : i < xs.length := by omega
    refine eround (fun k => by rw [laws_toNetStepS.l0]) (epos (by omega) (epos (by omega) ?_))
    refine enb rfl (epos (by omega) ?_)
    rw [w64 (by omega) (by omega)]
    refine ih (i + 1) _ (by omega) (by simpa using hl) ?_
    exact take_set_succ _ _ rfl (by first | exact hlt | (simp; omega)) (by first | exact hl | simpa using hl) ht (by first | exact (getD_get xs i _ hlt).symm | (simp only [List.getElem_map]; rw [← getD_get xs i _ hlt]; rfl))
theorem laws_toNetStepS_e (xs : List S50) (hs : xs.length ≤ 1048576) : Ev (fun k => laws_toNetStepS.f k xs) (xs.map fun x => (⟨x.f0, x.f1, x.f2⟩ : S53)) := by
  have hn := hs
  unfold laws_toNetStepS.f
  exact epos (by omega) (epos (by omega) (laws_toNetStepS_l xs hs xs.length 0 _ (by omega) (by simp) (by simp)))
/-! laws_eqBoolS -/
theorem laws_eqBoolS_lr (xs : List Bool) (hs : xs.length ≤ 1048576) : ∀ (d i : Nat), i + d = xs.length → Ev (fun k => laws_eqBoolS.l0 k xs xs (i : Int)) true := by
  have hn := hs
  intro d
  induction d with
  | zero =>
    intro i hi
    exact eround (fun k => by rw [laws_eqBoolS.l0]) (eneg (by omega) (enow rfl))
  | succ d ih =>
    intro i hi
    have hlt : i < xs.length := by omega
    refine eround (fun k => by rw [laws_eqBoolS.l0]) (epos (by omega) (epos (by omega) (epos (by omega) ?_)))
    first | refine epos rfl ?_ | (refine eneg ?_ ?_; focus (simp; done))
    rw [w64 (by omega) (by omega)]
    exact ih (i + 1) (by omega)
theorem laws_eqBoolS_r (xs : List Bool) (hs : xs.length ≤ 1048576) : Ev (fun k => laws_eqBoolS.f k xs xs) true := by
  unfold laws_eqBoolS.f
  exact epos rfl (laws_eqBoolS_lr xs hs xs.length 0 (by omega))
/-! laws_eqNetStep -/
theorem laws_eqNetStep_r (a0_0 : Int) (a0_1 : Int) (a0_2 : ByteArray) : laws_eqNetStep.f a0_0 a0_1 a0_2 a0_0 a0_1 a0_2 = some true := by
  unfold laws_eqNetStep.f
  simp
/-! laws_eqNetStepS -/
theorem laws_eqNetStepS_lr (xs : List S53) (hs : xs.length ≤ 1048576) : ∀ (d i : Nat), i + d = xs.length → Ev (fun k => laws_eqNetStepS.l0 k xs xs (i : Int)) true := by
  have hn := hs
  intro d
  induction d with
  | zero =>
    intro i hi
    exact eround (fun k => by rw [laws_eqNetStepS.l0]) (eneg (by omega) (enow rfl))
  | succ d ih =>
    intro i hi
    have hlt : i < xs.length := by omega
    refine eround (fun k => by rw [laws_eqNetStepS.l0]) (epos (by omega) (epos (by omega) (epos (by omega) ?_)))
    refine enb (laws_eqNetStep_r _ _ _) (epos rfl ?_)
    rw [w64 (by omega) (by omega)]
    exact ih (i + 1) (by omega)
theorem laws_eqNetStepS_r (xs : List S53) (hs : xs.length ≤ 1048576) : Ev (fun k => laws_eqNetStepS.f k xs xs) true := by
  unfold laws_eqNetStepS.f
  exact epos rfl (laws_eqNetStepS_lr xs hs xs.length 0 (by omega))
/-! laws_markNetStepS -/
theorem laws_markNetStepS_o : ∀ (d i : Nat) (xs : List S53) (m : Int), i + d = xs.length → xs.length ≤ 1048576 → 0 ≤ m → m ≤ 4611686018427387904 - 3 * d → ∃ ys : List S53, Ev (fun k => laws_markNetStepS.l0 k xs m (i : Int)) (m + 3 * d, ys) := by
  intro d
  induction d with
  | zero =>
    intro i xs m hi hn h0 h1
    exact ⟨xs, eround (fun k => by rw [laws_markNetStepS.l0]) (eneg (by omega) (enow (by simp)))⟩
  | succ d ih =>
    intro i xs m hi hn h0 h1
    have w1 : wrap64 ((i : Int) + 1) = ((i + 1 : Nat) : Int) := by rw [w64 (by omega) (by omega)]; rfl
    have v0 : wrap64 (m + 1) = m + 1 := w64 (by omega) (by omega)
    have v1 : wrap64 (m + 1 + 1) = m + 2 := by rw [w64 (by omega) (by omega)]; omega
    have v2 : wrap64 (m + 2 + 1) = m + 3 := by rw [w64 (by omega) (by omega)]; omega
    have hr : ∃ zs : List S53, zs.length = xs.length ∧ ∀ r, Ev (fun k => laws_markNetStepS.l0 k zs (m + 3) ((i + 1 : Nat) : Int)) r → Ev (fun k => laws_markNetStepS.l0 k xs m (i : Int)) r := by
      apply Exists.intro
      apply And.intro
      rotate_left
      · intro r hz
        refine eround (fun k => by rw [laws_markNetStepS.l0]) (epos (by omega) ?_)
        try simp only [w1, v0, v1, v2]
        refine epos (by omega) ?_
        refine enb rfl ?_
        refine enb rfl ?_
        refine ebind (laws_markText_m _ (by omega) (by omega)) ?_
        refine enb rfl ?_
        try simp only [w1, v0, v1, v2]
        exact hz
      · simp
    obtain ⟨zs, hz, hr⟩ := hr
    obtain ⟨ys, hy⟩ := ih (i + 1) zs (m + 3) (by omega) (by omega) (by omega) (by push_cast at h1; omega)
    refine ⟨ys, hr _ ?_⟩
    rw [show m + 3 * ((d + 1 : Nat) : Int) = m + 3 + 3 * (d : Int) by push_cast; omega]
    exact hy
theorem laws_markNetStepS_m (xs : List S53) (m : Int) (hn : xs.length ≤ 1048576) (h0 : 0 ≤ m) (h1 : m ≤ 4611686018427387904 - 3 * xs.length) : ∃ ys : List S53, Ev (fun k => laws_markNetStepS.f k xs m) (m + 3 * xs.length, ys) :=
  laws_markNetStepS_o xs.length 0 xs m (by omega) hn h0 h1
/-! laws_markBoolS -/
theorem laws_markBoolS_h : ∀ (d i : Nat) (xs : List Bool) (m : Int), i + d = xs.length → xs.length ≤ 1048576 → 0 ≤ m → m ≤ 4611686018427387904 - 1 * d → ∃ ys : List Bool, ys.length = xs.length ∧ ys.take i = xs.take i ∧
    Ev (fun k => laws_markBoolS.l0 k xs m (i : Int)) (m + 1 * d, ys) ∧ Ev (fun k => laws_heldBoolS.l0 k ys m (i : Int)) (m + 1 * d) := by
  intro d
  induction d with
  | zero =>
    intro i xs m hi hn h0 h1
    exact ⟨xs, rfl, rfl, eround (fun k => by rw [laws_markBoolS.l0]) (eneg (by omega) (enow (by simp))), eround (fun k => by rw [laws_heldBoolS.l0]) (eneg (by omega) (enow (by simp)))⟩
  | succ d ih =>
    intro i xs m hi hn h0 h1
    have hlt : i < xs.length := by omega
    have w1 : wrap64 ((i : Int) + 1) = ((i + 1 : Nat) : Int) := by rw [w64 (by omega) (by omega)]; rfl
    have v0 : wrap64 (m + 1) = m + 1 := w64 (by omega) (by omega)
    obtain ⟨ys, hl, ht, hm, hh⟩ := ih (i + 1) (xs.set ((i : Int)).toNat (Int.tmod m 3 == 0)) (m + 1) (by simp; omega) (by simpa using hn) (by omega) (by push_cast at h1; omega)
    have hlt' : i < ys.length := by rw [hl]; simpa using hlt
    have hy : ys[i] = (Int.tmod m 3 == 0) := by
      have := congrArg (fun l => l[i]?) ht
      simp only [List.getElem?_take_of_lt (Nat.lt_succ_self i), List.getElem?_eq_getElem hlt'] at this
      rw [show ((i : Int)).toNat = i by simp, List.getElem?_set_self (by simpa using hlt)] at this
      exact Option.some.inj this
    refine ⟨ys, by rw [hl]; simp, ?_, ?_, ?_⟩
    · have := congrArg (List.take i) ht
      rw [List.take_take, List.take_take, Nat.min_eq_left (by omega)] at this
      rw [this]
      simp [List.take_set_of_le]
    · refine eround (fun k => by rw [laws_markBoolS.l0]) (epos (by omega) ?_)
      try simp only [w1, v0]
      refine epos (by omega) ?_
      refine enb rfl ?_
      try simp only [w1, v0]
      skip
      rw [show m + 1 * ((d + 1 : Nat) : Int) = m + 1 + 1 * (d : Int) by push_cast; omega]
      simpa using hm
    · refine eround (fun k => by rw [laws_heldBoolS.l0]) (epos (by omega) (epos (by omega) ?_))
      have hr : ∀ z, ys.getD ((i : Int)).toNat z = ys[i] := fun z => getD_get ys i z hlt'
      try simp only [w1, v0]
      simp only [rd, rdOf, hr, hy]
      repeat (first | refine epos trivial ?_ | refine epos rfl ?_ | (refine eneg ?_ ?_; focus (simp; done)))
      rw [show m + 1 * ((d + 1 : Nat) : Int) = m + 1 + 1 * (d : Int) by push_cast; omega]
      exact hh
theorem laws_markBoolS_m (xs : List Bool) (m : Int) (hn : xs.length ≤ 1048576) (h0 : 0 ≤ m) (h1 : m ≤ 4611686018427387904 - 1 * xs.length) : ∃ ys : List Bool, ys.length = xs.length ∧ Ev (fun k => laws_markBoolS.f k xs m) (m + 1 * xs.length, ys) ∧ Ev (fun k => laws_heldBoolS.f k ys m) (m + 1 * xs.length) := by
  obtain ⟨ys, hl, _, h⟩ := laws_markBoolS_h xs.length 0 xs m (by omega) hn h0 h1
  exact ⟨ys, hl, h⟩
theorem mul_in {a b A B : Int} (ha : 0 ≤ a ∧ a ≤ A) (hb : 0 ≤ b ∧ b ≤ B) : 0 ≤ a * b ∧ a * b ≤ A * B := ⟨Int.mul_nonneg ha.1 hb.1, Int.mul_le_mul ha.2 hb.2 hb.1 (by omega)⟩
theorem tmod_in (a n : Int) (ha : 0 ≤ a) (hn : 0 < n) : 0 ≤ Int.tmod a n ∧ Int.tmod a n ≤ n - 1 := by
  have h1 := Int.tmod_nonneg n ha
  have h2 := Int.tmod_lt_of_pos a hn
  omega
theorem tdiv_in (a n m : Int) (ha : 0 ≤ a) (hn : 0 < n) (hm : a < n * (m + 1)) : 0 ≤ Int.tdiv a n ∧ Int.tdiv a n ≤ m := by
  rw [Int.tdiv_eq_ediv_of_nonneg ha]
  exact ⟨Int.ediv_nonneg ha (by omega), by have := Int.ediv_lt_of_lt_mul hn (show a < (m + 1) * n by rw [Int.mul_comm]; exact hm); omega⟩
theorem rnd_in (key half : Int) (hk : 0 ≤ key ∧ key ≤ 65535) (hh : 0 ≤ half ∧ half ≤ 255) : ∃ r, spec_l4Round.f key half = some r ∧ 0 ≤ r ∧ r ≤ 255 := by
  unfold spec_l4Round.f
  have h1 := tmod_in key 256 hk.1 (by omega)
  have h2 := tdiv_in key 256 255 hk.1 (by omega) (by omega)
  rw [w64 (x := half + Int.tmod key 256) (by omega) (by omega), w64 (x := Int.tdiv key 256) (by omega) (by omega)]
  have h3 := tmod_in (half + Int.tmod key 256) 256 (by omega) (by omega)
  generalize Int.tmod (half + Int.tmod key 256) 256 = x at h3 ⊢
  generalize Int.tdiv key 256 = d at h2 ⊢
  have h4 := mul_in (A := 255) (B := 255) h3 h3
  have h5 := mul_in (A := 255) (B := 255) h3 h2
  rw [w64 (x := x * x) (by omega) (by omega), w64 (x := x * d) (by omega) (by omega), w64 (x := x * x + x * d) (by omega) (by omega), w64 (x := x * x + x * d + 29) (by omega) (by omega)]
  have h6 := tmod_in (x * x + x * d + 29) 65521 (by omega) (by omega)
  exact ⟨_, rfl, tmod_in _ 256 h6.1 (by omega)⟩
theorem xor8 {a b : Int} (ha : 0 ≤ a ∧ a ≤ 255) (hb : 0 ≤ b ∧ b ≤ 255) : 0 ≤ Go.bits .xor .i64 a b ∧ Go.bits .xor .i64 a b ≤ 255 := by
  obtain ⟨x, rfl⟩ := Int.eq_ofNat_of_zero_le ha.1
  obtain ⟨y, rfl⟩ := Int.eq_ofNat_of_zero_le hb.1
  have e : (2 : Nat) ^ 62 = 4611686018427387904 := by decide
  rw [bxor x y (by omega) (by omega)]
  have := Nat.xor_lt_two_pow (n := 8) (show x < 2 ^ 8 by omega) (show y < 2 ^ 8 by omega)
  omega
theorem mix_same : ∀ (k : Nat) (a b : Int) (l : List Int) (n i : Int), impl_mix.l0 k a b l n i = spec_l4Mix.l0 k a b l n i
  | 0, _, _, _, _, _ => rfl
  | k + 1, a, b, l, n, i => by
    rw [impl_mix.l0, spec_l4Mix.l0, Int.mul_comm a 256]
    have : impl_round.f = spec_l4Round.f := rfl
    rw [this]
    simp only [mix_same k]
theorem mix_l (l : List Int) (hn : l.length ≤ 8) (hl : ∀ x ∈ l, 0 ≤ x ∧ x ≤ 65535) : ∀ (d i : Nat) (a b : Int), i + d = l.length → 0 ≤ a ∧ a ≤ 255 → 0 ≤ b ∧ b ≤ 255 → ∃ r, 0 ≤ r ∧ r ≤ 65535 ∧ Ev (fun k => spec_l4Mix.l0 k a b l (l.length : Int) (i : Int)) r := by
  intro d
  induction d with
  | zero =>
    intro i a b hi ha hb
    refine ⟨256 * a + b, by omega, by omega, eround (fun k => by rw [spec_l4Mix.l0]) (eneg (by omega) (enow ?_))⟩
    rw [w64 (x := 256 * a) (by omega) (by omega), w64 (by omega) (by omega)]
  | succ d ih =>
    intro i a b hi ha hb
    have hlt : i < l.length := by omega
    obtain ⟨r, e, hr⟩ := rnd_in l[i] b (hl _ (List.getElem_mem hlt)) hb
    obtain ⟨q, q1, q2, q3⟩ := ih (i + 1) b (Go.bits .xor .i64 a r) (by omega) hb (xor8 ha hr)
    refine ⟨q, q1, q2, eround (fun k => by rw [spec_l4Mix.l0]) (epos (by omega) (epos (by omega) (epos (by omega) ?_)))⟩
    rw [show rd l (i : Int) = l[i] from rd_get l i hlt]
    refine enb e ?_
    rw [w64 (x := (i : Int) + 1) (by omega) (by omega)]
    exact q3
theorem mix_e (key b : Int) (hk : 0 ≤ key ∧ key ≤ 65535) (hb : 0 ≤ b ∧ b ≤ 65535) : ∃ r, 0 ≤ r ∧ r ≤ 65535 ∧ Ev (fun k => spec_l4Mix.f k [key, key, key] b) r ∧ Ev (fun k => impl_mix.f k [key, key, key] b) r := by
  have h1 := tdiv_in b 256 255 hb.1 (by omega) (by omega)
  have h2 := tmod_in b 256 hb.1 (by omega)
  obtain ⟨r, r1, r2, r3⟩ := mix_l [key, key, key] (by simp) (by intro x hx; simp at hx; subst hx; exact hk) 3 0 (Int.tdiv b 256) (Int.tmod b 256) rfl h1 (by omega)
  have e : Ev (fun k => spec_l4Mix.f k [key, key, key] b) r := by
    unfold spec_l4Mix.f
    rw [w64 (x := Int.tdiv b 256) (by omega) (by omega)]
    exact r3
  refine ⟨r, r1, r2, e, ?_⟩
  have e2 : (fun k => impl_mix.f k [key, key, key] b) = fun k => spec_l4Mix.f k [key, key, key] b := by
    funext k
    unfold impl_mix.f spec_l4Mix.f
    exact mix_same k _ _ _ _ _
  rw [e2]
  exact e
def zT : ByteArray := strOfNums (List.replicate 24 0)
theorem zT_at : ∀ n : Nat, n < 24 → bt zT (n : Int) = 0 := by decide
theorem zT_size : zT.size = 24 := by decide
theorem xor0 (x : Int) (h : 0 ≤ x ∧ x ≤ 65535) : Go.bits .xor .i64 0 x = x := by
  obtain ⟨y, rfl⟩ := Int.eq_ofNat_of_zero_le h.1
  have e : (2 : Nat) ^ 62 = 4611686018427387904 := by decide
  have := bxor 0 y (by omega) (by omega)
  rw [Nat.zero_xor] at this
  exact this
theorem text_l (key : Int) (hk : 0 ≤ key ∧ key ≤ 65535) : ∀ (d j : Nat) (st : Int) (out : List Int), j + d = 12 → out.length = 2 * j → 0 ≤ st ∧ st ≤ 65535 →
    ∃ r : List Int, r.length = 24 ∧ Ev (fun k => spec_MixText.l0 k [key, key, key] st zT out ((2 * j : Nat) : Int)) (strOfNums r, true) ∧ Ev (fun k => impl_mixText.l0 k [key, key, key] st zT out ((2 * j : Nat) : Int)) (strOfNums r) := by
  intro d
  induction d with
  | zero =>
    intro j st out hj ho hs
    have h24 : ¬ ((2 * j : Nat) : Int) < (zT.size : Int) := by rw [zT_size]; omega
    exact ⟨out, by omega, eround (fun k => by rw [spec_MixText.l0]) (eneg h24 (enow rfl)), eround (fun k => by rw [impl_mixText.l0]) (eneg h24 (enow rfl))⟩
  | succ d ih =>
    intro j st out hj ho hs
    obtain ⟨m, m1, m2, m3, m4⟩ := mix_e key st hk hs
    have hd := tdiv_in m 256 255 m1 (by omega) (by omega)
    have hm := tmod_in m 256 m1 (by omega)
    have ed : Int.tdiv m 256 = m / 256 := Int.tdiv_eq_ediv_of_nonneg m1
    have em : Int.tmod m 256 = m % 256 := Int.tmod_eq_emod_of_nonneg m1
    obtain ⟨r, r1, r2, r3⟩ := ih (j + 1) m (out ++ [(m / 256) % 256, m % 256]) (by omega) (by simp; omega) ⟨m1, m2⟩
    have z0 : bt zT ((2 * j : Nat) : Int) = 0 := zT_at _ (by omega)
    have z1 : bt zT (((2 * j : Nat) : Int) + 1) = 0 := by
      have := zT_at (2 * j + 1) (by omega)
      simpa using this
    have hw : wrap64 (((2 * j : Nat) : Int) + 1) = ((2 * j : Nat) : Int) + 1 := w64 (by omega) (by omega)
    have hw2 : wrap64 (((2 * j : Nat) : Int) + 2) = ((2 * (j + 1) : Nat) : Int) := by rw [w64 (by omega) (by omega)]; omega
    have w0 : wrap64 0 = 0 := w64 (by omega) (by omega)
    have hsz : (zT.size : Int) = 24 := by rw [zT_size]; rfl
    refine ⟨r, r1, eround (fun k => by rw [spec_MixText.l0]) ?_, eround (fun k => by rw [impl_mixText.l0]) ?_⟩
    · rw [hw, hw2, hsz, z0, z1, w0, Int.mul_zero, w0, Int.zero_add, w0, xor0 st hs]
      refine epos (by omega) (epos (by omega) (epos (by omega) (epos (by omega) (ebind m3 ?_))))
      rw [w64 (x := Int.tdiv m 256) (by omega) (by omega), ed, em, show m % 256 % 256 = m % 256 by omega]
      exact enb rfl (epos (by simp; omega) r2)
    · rw [hw, hw2, hsz, z0, z1, w0, Int.zero_mul, w0, show Go.bits .or .i64 (0 : Int) 0 = 0 by decide, xor0 st hs]
      exact epos (by omega) (epos (by omega) (epos (by omega) (epos (by omega) (ebind m4 (enb rfl (epos (by simp; omega) r3))))))
theorem keys_in (key : Int) (hk : 0 ≤ key ∧ key ≤ 65535) : Ev (fun k => spec_l4Text.f k [key, key, key] key zT) true := by
  have hin : spec_l1In.f key 0 65535 = some true := by unfold spec_l1In.f; rw [if_pos (by omega), decide_eq_true hk.2]
  have hall : ∀ (d i : Nat), i + d = 3 → Ev (fun k => spec_l1All.l0 k 0 65535 [key, key, key] ((3 : Nat) : Int) (i : Int)) true := by
    intro d
    induction d with
    | zero => intro i hi; exact eround (fun k => by rw [spec_l1All.l0]) (eneg (by omega) (enow rfl))
    | succ d ih =>
      intro i hi
      refine eround (fun k => by rw [spec_l1All.l0]) (epos (by omega) (epos (by omega) (epos (by simp; omega) ?_)))
      have e : rd [key, key, key] (i : Int) = key := by
        have : i = 0 ∨ i = 1 ∨ i = 2 := by omega
        rcases this with rfl | rfl | rfl <;> rfl
      rw [e]
      refine enb hin (epos rfl ?_)
      rw [w64 (x := (i : Int) + 1) (by omega) (by omega)]
      exact ih (i + 1) (by omega)
  unfold spec_l4Text.f
  refine ebind (a := true) ?_ (epos rfl ?_)
  · unfold spec_l4Keys.f
    refine epos (by simp) (ebind (a := true) ?_ (enow rfl))
    exact hall 3 0 rfl
  · have e : spec_l4Key.f key = some true := by unfold spec_l4Key.f; rw [hin]; rfl
    refine enb e (epos rfl (epos ?_ (enow ?_)))
    · rw [zT_size]; decide
    · rw [zT_size]; decide
theorem pad_ex (key : Int) (hk : 0 ≤ key ∧ key ≤ 65535) : ∃ p : ByteArray, p.size = 24 ∧ Ev (fun k => spec_l7Pad.f k key 24) p ∧ Ev (fun k => impl_pad.f k key 24) p := by
  obtain ⟨r, r1, r2, r3⟩ := text_l key hk 12 0 key [] rfl rfl hk
  refine ⟨strOfNums r, by simp [strOfNums, ByteArray.size, r1], ?_, ?_⟩
  · unfold spec_l7Pad.f
    refine epos (by omega) (epos (by decide) (ebind (a := (strOfNums r, true)) ?_ (enow rfl)))
    unfold spec_MixText.f
    exact ebind (keys_in key hk) (epos rfl r2)
  · unfold impl_pad.f
    refine ebind (a := zT) ?_ (ebind (a := strOfNums r) ?_ (enow rfl))
    · unfold strings_Repeat.f
      exact epos (by omega) (epos (by decide) (epos (by decide) (enow (by decide))))
    · unfold impl_mixText.f
      exact r3
theorem Ev_all {α : Type} {g : Nat → Option α} {r : α} (h : ∀ k, g k = some r) : Ev g r := ⟨0, fun k _ => h k⟩
def unpD (L : List UInt8) : List UInt8 := match L.dropWhile (· == 0) with
  | [] => []
  | b :: r => if b = 128 then r.reverse else []
def unp (s : ByteArray) : ByteArray := ⟨(unpD s.data.toList.reverse).toArray⟩
theorem ex_take (s : ByteArray) (n : Nat) : s.extract 0 n = ⟨(s.data.toList.take n).toArray⟩ := by
  apply ByteArray.ext
  rw [ByteArray.data_extract]
  apply Array.ext'
  simp
theorem bt_list (s : ByteArray) (n : Nat) (h : n < s.data.toList.length) : bt s (n : Int) = (s.data.toList[n].toNat : Int) := by
  have h' : n < s.size := by rw [Array.length_toList] at h; exact h
  rw [← bt_at s n h']
  simp [ByteArray.getElem_eq_getElem_data]
theorem u8_eq {b : UInt8} {n : Nat} (hn : n < 256) : ((b.toNat : Int) = (n : Int)) ↔ b = UInt8.ofNat n := by
  constructor
  · intro h
    apply UInt8.toNat_inj.1
    rw [UInt8.toNat_ofNat', Nat.mod_eq_of_lt hn]
    omega
  · rintro rfl
    rw [UInt8.toNat_ofNat', Nat.mod_eq_of_lt hn]
theorem unp_l (s : ByteArray) (hs : s.size = 16) : ∀ n : Nat, n ≤ 15 → ∃ q, Ev (fun k => spec_UnpadBody.l0 k s (n : Int)) (⟨(unpD (s.data.toList.reverse.drop (15 - n))).toArray⟩, q) := by
  have hl : s.data.toList.length = 16 := by rw [Array.length_toList]; exact hs
  have hd : ∀ n : Nat, (h : n ≤ 15) → s.data.toList.reverse.drop (15 - n) = s.data.toList[n]'(by omega) :: (s.data.toList.take n).reverse := by
    intro n h
    rw [List.drop_eq_getElem_cons (by simp; omega), List.getElem_reverse]
    congr 1
    · congr 1; simp at hl ⊢; omega
    · rw [List.drop_reverse]; congr 2; omega
  intro n
  induction n with
  | zero =>
    intro _
    have e := bt_list s 0 (by omega)
    rw [hd 0 (by omega)]
    generalize s.data.toList[0]'(by omega) = b at e ⊢
    by_cases hb : b = 128
    · refine ⟨true, eround (fun k => by rw [spec_UnpadBody.l0]) (eneg (by omega) (epos (by omega) (epos (by rw [hs]; omega) (epos ?_ (epos (by rw [hs]; omega) (enow ?_))))))⟩
      · rw [show ((0 : Nat) : Int) = 0 from rfl] at e ⊢; rw [e, hb]; decide
      · rw [hb, show (((0 : Nat) : Int)).toNat = 0 from rfl, ex_take]; simp [unpD]
    · refine ⟨false, eround (fun k => by rw [spec_UnpadBody.l0]) (eneg (by omega) (epos (by omega) (epos (by rw [hs]; omega) (eneg ?_ (enow ?_)))))⟩
      · rw [e]; intro h; exact hb ((u8_eq (n := 128) (by omega)).1 h)
      · by_cases h0 : b = 0
        · subst h0; simp [unpD]
        · simp [unpD, h0, hb]
  | succ n ih =>
    intro hn
    have e := bt_list s (n + 1) (by omega)
    obtain ⟨q, hq⟩ := ih (by omega)
    rw [hd (n + 1) hn]
    rw [hd n (by omega)] at hq
    have hrec : (s.data.toList.take (n + 1)).reverse = s.data.toList[n]'(by omega) :: (s.data.toList.take n).reverse := by
      rw [List.take_succ_eq_append_getElem (by omega)]; simp
    generalize s.data.toList[n + 1]'(by omega) = b at e ⊢
    by_cases h0 : b = 0
    · refine ⟨q, eround (fun k => by rw [spec_UnpadBody.l0]) (epos (by omega) (epos (by omega) (epos (by rw [hs]; omega) (epos (by rw [e, h0]; rfl) ?_))))⟩
      rw [w64 (x := ((n + 1 : Nat) : Int) - 1) (by omega) (by omega), show ((n + 1 : Nat) : Int) - 1 = (n : Int) by omega, hrec]
      have : unpD (b :: s.data.toList[n]'(by omega) :: (s.data.toList.take n).reverse) = unpD (s.data.toList[n]'(by omega) :: (s.data.toList.take n).reverse) := by
        subst h0; unfold unpD; rw [List.dropWhile_cons_of_pos (by rfl)]
      rw [this]
      exact hq
    · have hb0 : ¬ bt s ((n + 1 : Nat) : Int) = 0 := by rw [e]; intro h; exact h0 ((u8_eq (n := 0) (by omega)).1 h)
      have hu : unpD (b :: (s.data.toList.take (n + 1)).reverse) = if b = 128 then s.data.toList.take (n + 1) else [] := by
        unfold unpD; rw [List.dropWhile_cons_of_neg (by simpa using h0)]; simp
      rw [hu]
      by_cases hb : b = 128
      · refine ⟨true, eround (fun k => by rw [spec_UnpadBody.l0]) (epos (by omega) (epos (by omega) (epos (by rw [hs]; omega) (eneg hb0 (epos (by rw [e, hb]; decide) (epos (by rw [hs]; omega) (enow ?_)))))))⟩
        rw [if_pos hb, show (((n + 1 : Nat) : Int)).toNat = n + 1 from rfl, ex_take]
      · refine ⟨false, eround (fun k => by rw [spec_UnpadBody.l0]) (epos (by omega) (epos (by omega) (epos (by rw [hs]; omega) (eneg hb0 (eneg ?_ (enow ?_))))))⟩
        · rw [e]; intro h; exact hb ((u8_eq (n := 128) (by omega)).1 h)
        · rw [if_neg hb]
theorem unpS_e (s : ByteArray) (hs : s.size = 16) : ∃ q, Ev (fun k => spec_UnpadBody.f k s) (unp s, q) := by
  obtain ⟨q, h⟩ := unp_l s hs 15 (by omega)
  refine ⟨q, ?_⟩
  unfold spec_UnpadBody.f
  refine epos (by rw [hs]; rfl) ?_
  rw [hs, w64 (by omega) (by omega)]
  exact h
theorem unpI_e (s : ByteArray) (hs : s.size = 16) : ∃ q, Ev (fun k => impl_UnpadBody.f k s) (unp s, q) := by
  have hT : ∀ k, strings_TrimRight.f k s (⟨#[0]⟩ : ByteArray) = some ⟨(Lib.trimRightB s.data.toList 0).toArray⟩ := by
    intro k
    show (if (0 : UInt8).toNat < 128 then (if s.size ≤ 9223372036854775807 then some _ else none) else none) = _
    rw [if_pos (by decide), if_pos (by omega)]
  have hlen : ∀ L : List UInt8, (L.dropWhile (· == 0)).length ≤ L.length := fun L => (List.dropWhile_suffix _).length_le
  have hl : s.data.toList.length = 16 := by rw [Array.length_toList]; exact hs
  have h1 := hlen s.data.toList.reverse
  rw [List.length_reverse, hl] at h1
  unfold impl_UnpadBody.f
  have hz : Lib.trimRightB s.data.toList 0 = (s.data.toList.reverse.dropWhile (· == 0)).reverse := rfl
  unfold unp unpD
  rw [hz] at hT
  generalize hD : s.data.toList.reverse.dropWhile (· == 0) = D at hT h1
  have hS : ∀ k, strings_HasSuffix.f k (⟨D.reverse.toArray⟩ : ByteArray) (⟨#[128]⟩ : ByteArray) = some ([128].isPrefixOf D) := by
    intro k
    unfold strings_HasSuffix.f
    rw [if_pos (by simp [ByteArray.size]; omega)]
    simp [Lib.hasSuffix, List.isSuffixOf]
  cases D with
  | nil =>
    refine ⟨false, ebind (Ev_all hT) (epos (by rw [hs]; rfl) (ebind (Ev_all hS) (eneg (by simp) (enow rfl))))⟩
  | cons b r =>
    by_cases hb : b = 128
    · subst hb
      have hsz : (⟨(128 :: r : List UInt8).reverse.toArray⟩ : ByteArray).size = r.length + 1 := by simp [ByteArray.size]
      have hr : r.length ≤ 15 := by simpa using h1
      have hw : wrap64 (((r.length + 1 : Nat) : Int) - 1) = (r.length : Int) := by rw [w64 (by omega) (by omega)]; omega
      refine ⟨true, ebind (Ev_all hT) (epos (by rw [hs]; rfl) (ebind (Ev_all hS) (epos (by simp) ?_)))⟩
      rw [hsz, hw]
      refine epos (by omega) (epos (by omega) (enow ?_))
      rw [Int.toNat_natCast, ex_take]
      simp
    · refine ⟨false, ebind (Ev_all hT) (epos (by rw [hs]; rfl) (ebind (Ev_all hS) (eneg (by simp; exact fun h => hb h.symm) (enow ?_))))⟩
      simp [hb]
theorem chk_l (s : ByteArray) (hs : s.size ≤ 64) : ∀ (d i : Nat) (a : Int), i + d = s.size → 0 ≤ a → a ≤ 20000 * i → ∃ r, 0 ≤ r ∧ r ≤ 250 ∧ Ev (fun k => spec_l7Check.l0 k s a (i : Int)) r ∧ Ev (fun k => impl_check.l0 k s a (s.size : Int) (i : Int)) r := by
  intro d
  induction d with
  | zero =>
    intro i a hi h0 h1
    have h2 := tmod_in a 251 h0 (by omega)
    exact ⟨_, h2.1, h2.2, eround (fun k => by rw [spec_l7Check.l0]) (eneg (by omega) (enow rfl)), eround (fun k => by rw [impl_check.l0]) (eneg (by omega) (enow rfl))⟩
  | succ d ih =>
    intro i a hi h0 h1
    have hb := bt_range s (i : Int)
    have hm := mul_in (a := bt s (i : Int)) (b := (i : Int) + 1) (A := 255) (B := 64) hb (by omega)
    obtain ⟨r, r1, r2, r3, r4⟩ := ih (i + 1) (a + bt s (i : Int) * ((i : Int) + 1)) (by omega) (by omega) (by omega)
    refine ⟨r, r1, r2, eround (fun k => by rw [spec_l7Check.l0]) (epos (by omega) (epos (by omega) ?_)), eround (fun k => by rw [impl_check.l0]) (epos (by omega) (epos (by omega) (epos (by omega) ?_)))⟩
    all_goals
      rw [w64 (x := bt s (i : Int)) (by omega) (by omega), w64 (x := (i : Int) + 1) (by omega) (by omega), w64 (x := bt s (i : Int) * ((i : Int) + 1)) (by omega) (by omega), w64 (x := a + bt s (i : Int) * ((i : Int) + 1)) (by omega) (by omega)]
    · exact r3
    · exact r4
theorem chk_ex (s : ByteArray) (hs : s.size ≤ 64) : ∃ r, 0 ≤ r ∧ r ≤ 250 ∧ Ev (fun k => spec_l7Check.f k s) r ∧ Ev (fun k => impl_check.f k s) r := chk_l s hs s.size 0 0 (by omega) (by omega) (by omega)
open Classical in
noncomputable def padK (key : Int) : ByteArray := if h : 0 ≤ key ∧ key ≤ 65535 then Classical.choose (pad_ex key h) else ⟨#[]⟩
theorem padK_e (key : Int) (hk : 0 ≤ key ∧ key ≤ 65535) : (padK key).size = 24 ∧ Ev (fun k => spec_l7Pad.f k key 24) (padK key) ∧ Ev (fun k => impl_pad.f k key 24) (padK key) := by
  unfold padK
  rw [dif_pos hk]
  exact Classical.choose_spec (pad_ex key hk)
open Classical in
noncomputable def chk (s : ByteArray) : Int := if h : s.size ≤ 64 then Classical.choose (chk_ex s h) else 0
theorem chk_e (s : ByteArray) (hs : s.size ≤ 64) : 0 ≤ chk s ∧ chk s ≤ 250 ∧ Ev (fun k => spec_l7Check.f k s) (chk s) ∧ Ev (fun k => impl_check.f k s) (chk s) := by
  unfold chk
  rw [dif_pos hs]
  exact Classical.choose_spec (chk_ex s hs)
theorem xorT_size (a b : ByteArray) : (xorT a b).size = a.size := by
  unfold xorT strOfNums
  show (List.toArray _).size = _
  rw [List.size_toArray]
  simp
/-- What peeling an onion of 24 bytes gives: the next hop, the rest, the body; none for a bad one. -/
noncomputable def peelF (key : Int) (s : ByteArray) : Option (Int × ByteArray × ByteArray) :=
  let t := xorT s (padK key)
  if 1 ≤ bt t 0 ∧ bt t 0 ≤ 250 ∧ bt t 1 = chk (t.extract 2 18) then some (bt t 0, t.extract 2 t.size ++ (⟨#[0, 0]⟩ : ByteArray), unp ((t.extract 2 t.size ++ (⟨#[0, 0]⟩ : ByteArray)).extract 0 16)) else none
def peelR : Option (Int × ByteArray × ByteArray) → Int × ByteArray × ByteArray × Bool
  | some (x, y, b) => (x, y, b, true)
  | none => (0, ⟨#[]⟩, ⟨#[]⟩, false)
theorem peel_size (key : Int) (s : ByteArray) (hs : s.size = 24) {x : Int} {y b : ByteArray} (h : peelF key s = some (x, y, b)) : y.size = 24 ∧ 1 ≤ x ∧ x ≤ 250 ∧ b.size ≤ 15 := by
  unfold peelF at h
  dsimp only at h
  split at h
  · rename_i hc
    simp only [Option.some.injEq, Prod.mk.injEq] at h
    obtain ⟨rfl, rfl, rfl⟩ := h
    have ht : (xorT s (padK key)).size = 24 := by rw [xorT_size, hs]
    have h2 : ((xorT s (padK key)).extract 2 (xorT s (padK key)).size ++ (⟨#[0, 0]⟩ : ByteArray)).size = 24 := by rw [ByteArray.size_append, ByteArray.size_extract, ht]; rfl
    refine ⟨h2, hc.1, hc.2.1, ?_⟩
    generalize (xorT s (padK key)).extract 2 (xorT s (padK key)).size ++ (⟨#[0, 0]⟩ : ByteArray) = u at h2
    have h3 : (u.extract 0 16).size = 16 := by rw [ByteArray.size_extract, h2]; rfl
    generalize u.extract 0 16 = v at h3
    unfold unp unpD
    have hl : v.data.toList.length = 16 := by rw [Array.length_toList]; exact h3
    have hlen : (v.data.toList.reverse.dropWhile (· == 0)).length ≤ 16 := by
      have := (List.dropWhile_suffix (l := v.data.toList.reverse) (· == (0 : UInt8))).length_le
      rw [List.length_reverse, hl] at this
      exact this
    show (List.toArray _).size ≤ 15
    rw [List.size_toArray]
    split
    · simp
    · rename_i b r hr
      rw [hr] at hlen
      split
      · simp at hlen ⊢; omega
      · simp
  · cases h
theorem peelS_e (key : Int) (s : ByteArray) (hk : 0 ≤ key ∧ key ≤ 65535) (hs : s.size = 24) : Ev (fun k => spec_PeelOnion.f k key s) (peelR (peelF key s)) := by
  obtain ⟨p1, p2, p3⟩ := padK_e key hk
  have hin : spec_l1In.f key 0 65535 = some true := by unfold spec_l1In.f; rw [if_pos (by omega), decide_eq_true hk.2]
  have e : spec_l4Key.f key = some true := by unfold spec_l4Key.f; rw [hin]; rfl
  have hx : ∀ k, spec_l7Xor.f k s (padK key) = some (xorT s (padK key)) := by intro k; unfold spec_l7Xor.f; rw [if_pos (by omega), if_pos (by omega)]
  have ht : (xorT s (padK key)).size = 24 := by rw [xorT_size, hs]
  unfold spec_PeelOnion.f peelF
  refine enb e (epos ⟨rfl, hs⟩ (ebind p2 (ebind (Ev_all hx) (epos ht ?_))))
  dsimp only
  generalize xorT s (padK key) = t at ht ⊢
  have b0 := bt_range t 0
  have b1 := bt_range t 1
  have hc := chk_e (t.extract 2 18) (by rw [ByteArray.size_extract, ht]; decide)
  have hu : ((t.extract 2 t.size ++ (⟨#[0, 0]⟩ : ByteArray)).extract 0 16).size = 16 := by rw [ByteArray.size_extract, ByteArray.size_append, ByteArray.size_extract, ht]; rfl
  obtain ⟨q, hq⟩ := unpS_e _ hu
  rw [w64 (x := bt t 0) (by omega) (by omega), w64 (x := bt t 1) (by omega) (by omega)]
  by_cases h0 : 1 ≤ bt t 0
  · have hi : spec_l1In.f (bt t 0) 1 250 = some (decide (bt t 0 ≤ 250)) := by unfold spec_l1In.f; rw [if_pos (by omega)]
    refine enb hi ?_
    by_cases h1 : bt t 0 ≤ 250
    · refine epos (decide_eq_true h1) (ebind hc.2.2.1 ?_)
      by_cases h2 : bt t 1 = chk (t.extract 2 18)
      · refine epos h2 (ebind hq (enow ?_))
        rw [if_pos ⟨h0, h1, h2⟩]; rfl
      · refine eneg h2 (enow ?_)
        rw [if_neg (fun z => h2 z.2.2)]; rfl
    · refine eneg (by simp; omega) (enow ?_)
      rw [if_neg (fun z => h1 z.2.1)]; rfl
  · have hi : spec_l1In.f (bt t 0) 1 250 = some false := by unfold spec_l1In.f; rw [if_neg (by omega)]
    refine enb hi (eneg (by simp) (enow ?_))
    rw [if_neg (fun z => h0 z.1)]; rfl
theorem peelI_e (key : Int) (s : ByteArray) (hk : 0 ≤ key ∧ key ≤ 65535) (hs : s.size = 24) : Ev (fun k => impl_PeelOnion.f k key s) (peelR (peelF key s)) := by
  obtain ⟨p1, p2, p3⟩ := padK_e key hk
  have hin : impl_within.f key 0 65535 = some true := by unfold impl_within.f; rw [if_pos (by omega), decide_eq_true hk.2]
  have e : impl_isKey.f key = some true := by unfold impl_isKey.f; rw [hin]; rfl
  have hx : ∀ k, impl_xor.f k s (padK key) = some (xorT s (padK key)) := by intro k; unfold impl_xor.f; rw [if_pos (by omega), if_pos (by omega)]
  have ht : (xorT s (padK key)).size = 24 := by rw [xorT_size, hs]
  unfold impl_PeelOnion.f peelF
  refine enb e (epos ⟨rfl, hs⟩ (ebind p3 (ebind (Ev_all hx) (epos ht ?_))))
  dsimp only
  generalize xorT s (padK key) = t at ht ⊢
  have b0 := bt_range t 0
  have b1 := bt_range t 1
  have hc := chk_e (t.extract 2 18) (by rw [ByteArray.size_extract, ht]; decide)
  have hu : ((t.extract 2 t.size ++ (⟨#[0, 0]⟩ : ByteArray)).extract 0 16).size = 16 := by rw [ByteArray.size_extract, ByteArray.size_append, ByteArray.size_extract, ht]; rfl
  obtain ⟨q, hq⟩ := unpI_e _ hu
  rw [w64 (x := bt t 0) (by omega) (by omega), w64 (x := bt t 1) (by omega) (by omega)]
  by_cases h0 : 1 ≤ bt t 0
  · have hi : impl_isHop.f (bt t 0) = some (decide (bt t 0 ≤ 250)) := by unfold impl_isHop.f impl_within.f; rw [if_pos (by omega)]; rfl
    refine enb hi ?_
    by_cases h1 : bt t 0 ≤ 250
    · refine epos (decide_eq_true h1) (ebind hc.2.2.2 ?_)
      by_cases h2 : bt t 1 = chk (t.extract 2 18)
      · refine epos h2 (ebind hq (enow ?_))
        rw [if_pos ⟨h0, h1, h2⟩]; rfl
      · refine eneg h2 (enow ?_)
        rw [if_neg (fun z => h2 z.2.2)]; rfl
    · refine eneg (by simp; omega) (enow ?_)
      rw [if_neg (fun z => h1 z.2.1)]; rfl
  · have hi : impl_isHop.f (bt t 0) = some false := by unfold impl_isHop.f impl_within.f; rw [if_neg (by omega)]; rfl
    refine enb hi (eneg (by simp) (enow ?_))
    rw [if_neg (fun z => h0 z.1)]; rfl
/-! texts in order -/
theorem u8_irr (a : UInt8) : ¬ a < a := fun z => by have := UInt8.lt_iff_toNat_lt.1 z; omega
theorem bl_irr : ∀ x : List UInt8, Op.bytesLess x x = false
  | [] => rfl
  | a :: x => by
    have h := bl_irr x
    have := u8_irr a
    simp [Op.bytesLess, this, h]
theorem bl_trans : ∀ x y z : List UInt8, Op.bytesLess x y = true → Op.bytesLess y z = true → Op.bytesLess x z = true
  | x, [], z => fun h _ => by cases x <;> simp [Op.bytesLess] at h
  | x, _ :: _, [] => fun _ h => by simp [Op.bytesLess] at h
  | [], _ :: _, _ :: _ => fun _ _ => rfl
  | a :: x, b :: y, c :: z => fun h1 h2 => by
    have ih := bl_trans x y z
    simp only [Op.bytesLess, Bool.or_eq_true, decide_eq_true_eq, Bool.and_eq_true, beq_iff_eq] at h1 h2 ⊢
    rcases h1 with h1 | ⟨rfl, h1⟩
    · rcases h2 with h2 | ⟨rfl, h2⟩
      · left
        have := UInt8.lt_iff_toNat_lt.1 h1
        have := UInt8.lt_iff_toNat_lt.1 h2
        exact UInt8.lt_iff_toNat_lt.2 (by omega)
      · exact Or.inl h1
    · rcases h2 with h2 | ⟨rfl, h2⟩
      · exact Or.inl h2
      · exact Or.inr ⟨rfl, ih h1 h2⟩
def ltT (a b : ByteArray) : Bool := Op.bytesLess a.toList b.toList
theorem ltT_irr (a : ByteArray) : ltT a a = false := bl_irr _
theorem ltT_trans {a b c : ByteArray} (h1 : ltT a b = true) (h2 : ltT b c = true) : ltT a c = true := bl_trans _ _ _ h1 h2
theorem ltT_asym {a b : ByteArray} (h : ltT a b = true) : ltT b a = false := by
  rw [Bool.eq_false_iff]
  intro h2
  have := ltT_trans h h2
  rw [ltT_irr] at this
  cases this
theorem ltT_tri {a b : ByteArray} (h1 : ltT a b = false) (h2 : ltT b a = false) : a = b := by
  have h := bytesLess_rev a.toList b.toList
  unfold ltT at h1 h2
  rw [h1, h2] at h
  have e : a.toList = b.toList := by simpa using h
  rw [ByteArray.toList_eq, ByteArray.toList_eq] at e
  exact ByteArray.ext (Array.toList_inj.1 e)
theorem leT_trans {a b c : ByteArray} (h1 : ltT b a = false) (h2 : ltT c b = false) : ltT c a = false := by
  rw [Bool.eq_false_iff]
  intro h
  cases h3 : ltT a b with
  | true =>
    have := ltT_trans h h3
    rw [h2] at this
    cases this
  | false =>
    have := ltT_tri h3 h1
    subst this
    rw [h2] at h
    cases h
def chainLe : List ByteArray → Bool
  | a :: b :: r => !ltT b a && chainLe (b :: r)
  | _ => true
theorem chainLe_pair : ∀ l : List ByteArray, chainLe l = true → l.Pairwise (fun a b => ltT b a = false)
  | [], _ => List.Pairwise.nil
  | [_], _ => List.pairwise_singleton _ _
  | a :: b :: r, h => by
    simp only [chainLe, Bool.and_eq_true, Bool.not_eq_true'] at h
    have ih := chainLe_pair (b :: r) h.2
    refine List.Pairwise.cons (fun c hc => ?_) ih
    rcases List.mem_cons.1 hc with rfl | hc
    · exact h.1
    · exact leT_trans h.1 ((List.pairwise_cons.1 ih).1 c hc)
theorem chainLe_drop (xs : List ByteArray) (i : Nat) (h : i + 1 < xs.length) : chainLe (xs.drop i) = (!ltT xs[i + 1] xs[i] && chainLe (xs.drop (i + 1))) := by
  rw [List.drop_eq_getElem_cons (show i < xs.length by omega), List.drop_eq_getElem_cons h]; rfl
theorem chainLe_end (xs : List ByteArray) (i : Nat) (h : xs.length ≤ i + 1) : chainLe (xs.drop i) = true := by
  have : (xs.drop i).length ≤ 1 := by simp; omega
  match hx : xs.drop i, this with
  | [], _ => rfl
  | [_], _ => rfl
  | _ :: _ :: _, h => simp at h
/-- x put behind all that are not above it. -/
def placeT (x : ByteArray) : List ByteArray → List ByteArray
  | [] => [x]
  | y :: r => if ltT x y = true then x :: y :: r else y :: placeT x r
theorem placeT_len (x : ByteArray) : ∀ l, (placeT x l).length = l.length + 1
  | [] => rfl
  | y :: r => by
    unfold placeT
    split
    · simp
    · simp [placeT_len x r]
theorem placeT_eq (x : ByteArray) : ∀ l : List ByteArray, l.Pairwise (fun a b => ltT b a = false) → l.takeWhile (fun y => ltT y x) ++ x :: l.dropWhile (fun y => ltT y x) = placeT x l
  | [], _ => rfl
  | y :: r, h => by
    obtain ⟨h1, h2⟩ := List.pairwise_cons.1 h
    have ih := placeT_eq x r h2
    unfold placeT
    by_cases c : ltT x y = true
    · rw [if_pos c]
      have := ltT_asym c
      simp [this]
    · rw [if_neg c]
      cases c2 : ltT y x with
      | true => simp [c2, ih]
      | false =>
        have e := ltT_tri (by simpa using c) c2
        subst e
        have hr : ∀ r : List ByteArray, (∀ z ∈ r, ltT z x = false) → placeT x r = x :: r := by
          intro r
          induction r with
          | nil => intro _; rfl
          | cons z r ih2 =>
            intro hz
            unfold placeT
            by_cases c3 : ltT x z = true
            · rw [if_pos c3]
            · rw [if_neg c3, ih2 (fun q hq => hz q (by simp [hq]))]
              rw [ltT_tri (by simpa using c3) (hz z (by simp))]
        rw [hr r h1]
        simp [c2]
theorem cut_while {α : Type} (p : α → Bool) : ∀ (l : List α) (t : Nat), t ≤ l.length → (∀ q (h : q < l.length), q < t → p l[q] = true) → (∀ q (h : q < l.length), t ≤ q → p l[q] = false) → l.take t = l.takeWhile p ∧ l.drop t = l.dropWhile p
  | [], t, _, _, _ => by simp
  | y :: r, 0, _, _, h2 => by
    have := h2 0 (by simp) (Nat.le_refl _)
    simp at this
    simp [this]
  | y :: r, t + 1, ht, h1, h2 => by
    have h0 := h1 0 (by simp) (by omega)
    simp at h0
    obtain ⟨e1, e2⟩ := cut_while p r t (by simpa using ht) (fun q hq hl => by have h := h1 (q + 1) (by simpa using hq) (by omega); rw [List.getElem_cons_succ] at h; exact h) (fun q hq hl => by have h := h2 (q + 1) (by simpa using hq) (by omega); rw [List.getElem_cons_succ] at h; exact h)
    simp [h0, e1, e2]
theorem bsS_l (xs : List ByteArray) (a : ByteArray) (p : ByteArray → Bool) (hp : ∀ y, cmp_Less_string.f y a = some (p y)) (hn : xs.length ≤ 4194304) (mono : ∀ q r (hr : r < xs.length) (hq : q ≤ r), p xs[r] = true → p xs[q] = true) : ∀ (d i j : Nat), j - i ≤ d → i ≤ j → j ≤ xs.length → (∀ q (h : q < xs.length), q < i → p xs[q] = true) → (∀ q (h : q < xs.length), j ≤ q → p xs[q] = false) →
    ∃ (t : Nat) (b : Bool), t ≤ xs.length ∧ Ev (fun k => slices_BinarySearch_string_string.l0 k xs a (xs.length : Int) (i : Int) (j : Int)) ((t : Int), b) ∧ (∀ q (h : q < xs.length), q < t → p xs[q] = true) ∧ (∀ q (h : q < xs.length), t ≤ q → p xs[q] = false) := by
  intro d
  induction d with
  | zero =>
    intro i j hd hij hj h1 h2
    have e : i = j := by omega
    subst e
    by_cases hi : i < xs.length
    · by_cases c : (fun u v : ByteArray => u.toList = v.toList) ((rdOf ByteArray.empty) xs (i : Int)) a
      · exact ⟨i, true, hj, eround (fun k => by rw [slices_BinarySearch_string_string.l0]) (eneg (by omega) (epos (by omega) (epos (by omega) (epos (by omega) (epos c (enow rfl)))))), h1, h2⟩
      · refine ⟨i, false, hj, eround (fun k => by rw [slices_BinarySearch_string_string.l0]) (eneg (by omega) (epos (by omega) (epos (by omega) (epos (by omega) (eneg c (enb (a := false) (by unfold slices_isNaN_string.f; simp) (eneg Bool.false_ne_true (enow rfl)))))))), h1, h2⟩
    · exact ⟨i, false, hj, eround (fun k => by rw [slices_BinarySearch_string_string.l0]) (eneg (by omega) (eneg (by omega) (enow rfl))), h1, h2⟩
  | succ d ih =>
    intro i j hd hij hj h1 h2
    by_cases c : i < j
    · have hm : wrap64 (IntKind.u64.wrap (wrap64 ((i : Int) + (j : Int))) / 2) = (((i + j) / 2 : Nat) : Int) := by
        rw [w64 (x := (i : Int) + j) (by omega) (by omega), u64_wrap_small ((i : Int) + j) (by omega) (by omega), w64 (by omega) (by omega)]
        omega
      have hlt : (i + j) / 2 < xs.length := by omega
      have hr : (rdOf ByteArray.empty) xs (((i + j) / 2 : Nat) : Int) = xs[(i + j) / 2] := (getD_get xs _ _ hlt)
      cases hb : p xs[(i + j) / 2] with
      | true =>
        obtain ⟨t, b, t1, t2, t3, t4⟩ := ih ((i + j) / 2 + 1) j (by omega) (by omega) hj (fun q hq hl => mono q _ hlt (by omega) hb) h2
        refine ⟨t, b, t1, eround (fun k => by rw [slices_BinarySearch_string_string.l0]) (epos (by omega) ?_), t3, t4⟩
        rw [hm, hr]
        refine epos (by omega) (epos (by omega) (enb (hp _) ?_))
        refine epos hb ?_
        rw [w64 (by omega) (by omega)]
        exact t2
      | false =>
        obtain ⟨t, b, t1, t2, t3, t4⟩ := ih i ((i + j) / 2) (by omega) (by omega) (by omega) h1 (fun q hq hl => by
          rw [Bool.eq_false_iff]
          intro z
          rw [mono _ q hq hl z] at hb
          cases hb)
        refine ⟨t, b, t1, eround (fun k => by rw [slices_BinarySearch_string_string.l0]) (epos (by omega) ?_), t3, t4⟩
        rw [hm, hr]
        refine epos (by omega) (epos (by omega) (enb (hp _) ?_))
        exact eneg (by rw [hb]; decide) t2
    · exact by
        have e : i = j := by omega
        subst e
        by_cases hi : i < xs.length
        · by_cases c : (fun u v : ByteArray => u.toList = v.toList) ((rdOf ByteArray.empty) xs (i : Int)) a
          · exact ⟨i, true, hj, eround (fun k => by rw [slices_BinarySearch_string_string.l0]) (eneg (by omega) (epos (by omega) (epos (by omega) (epos (by omega) (epos c (enow rfl)))))), h1, h2⟩
          · refine ⟨i, false, hj, eround (fun k => by rw [slices_BinarySearch_string_string.l0]) (eneg (by omega) (epos (by omega) (epos (by omega) (epos (by omega) (eneg c (enb (a := false) (by unfold slices_isNaN_string.f; simp) (eneg Bool.false_ne_true (enow rfl)))))))), h1, h2⟩
        · exact ⟨i, false, hj, eround (fun k => by rw [slices_BinarySearch_string_string.l0]) (eneg (by omega) (eneg (by omega) (enow rfl))), h1, h2⟩
theorem bsS_e (xs : List ByteArray) (a : ByteArray) (p : ByteArray → Bool) (hp : ∀ y, cmp_Less_string.f y a = some (p y)) (hn : xs.length ≤ 4194304) (mono : ∀ q r (hr : r < xs.length) (hq : q ≤ r), p xs[r] = true → p xs[q] = true) :
    Ev (fun k => impl_placed_string.f k xs a) (xs.takeWhile p ++ a :: xs.dropWhile p) := by
  obtain ⟨t, b, t1, t2, t3, t4⟩ := bsS_l xs a p hp hn mono xs.length 0 xs.length (by omega) (by omega) (Nat.le_refl _) (fun q h hl => by omega) (fun q h hl => by omega)
  obtain ⟨e1, e2⟩ := cut_while p xs t t1 t3 t4
  unfold impl_placed_string.f slices_BinarySearch_string_string.f
  refine ebind t2 ?_
  refine enb (a := xs) (by unfold slices_Clone_string_string.f; simp; omega) ?_
  refine epos (by omega) (epos (by omega) (epos (by omega) (enow ?_)))
  rw [Int.toNat_natCast, e1, e2]
theorem less_S (a b : ByteArray) : cmp_Less_string.f a b = some (ltT a b) := by
  unfold cmp_Less_string.f cmp_isNaN_string.f
  simp [ltT]
theorem placedS_e (xs : List ByteArray) (x : ByteArray) (hn : xs.length ≤ 4194304) (hc : chainLe xs = true) : Ev (fun k => impl_placed_string.f k xs x) (placeT x xs) := by
  have hp := chainLe_pair xs hc
  have := bsS_e xs x (fun y => ltT y x) (fun y => less_S y x) hn (fun q r hr hq h => by
    rcases Nat.lt_or_eq_of_le hq with hq | rfl
    · have h2 := List.pairwise_iff_getElem.1 hp q r (by omega) hr hq
      cases h3 : ltT xs[q] x with
      | true => rfl
      | false =>
        have := leT_trans h3 h2
        rw [h] at this
        cases this
    · exact h)
  rwa [placeT_eq x xs hp] at this
theorem place_l (xs : List ByteArray) (x : ByteArray) (hn : xs.length ≤ 1048576) : ∀ (d i : Nat), i + d = xs.length → Ev (fun k => spec_l8Place.l0 k xs x (i : Int)) (xs.take i ++ placeT x (xs.drop i)) := by
  intro d
  induction d with
  | zero =>
    intro i hi
    have e1 : xs.take i = xs := List.take_of_length_le (by omega)
    have e2 : xs.drop i = [] := List.drop_eq_nil_of_le (by omega)
    refine eround (fun k => by rw [spec_l8Place.l0]) ?_
    refine eneg (by omega) (enb rfl (epos (by omega) (epos (by omega) ?_)))
    rw [Int.toNat_natCast, e1, e2]
    refine epos (by simp; omega) (enb rfl (epos (by simp; omega) (enb rfl (epos (by simp; omega) (enow ?_)))))
    simp [placeT]
  | succ d ih =>
    intro i hi
    have hlt : i < xs.length := by omega
    refine eround (fun k => by rw [spec_l8Place.l0]) ?_
    refine epos (by omega) (epos (by omega) ?_)
    rw [show rdOf ByteArray.empty xs (i : Int) = xs[i] from getD_get xs i _ hlt]
    have e3 : xs.drop i = xs[i] :: xs.drop (i + 1) := List.drop_eq_getElem_cons hlt
    by_cases c : ltT x xs[i] = true
    · refine epos c (enb rfl (epos (by omega) ?_))
      rw [Int.toNat_natCast]
      refine epos (by simp; omega) (enb rfl (epos (by simp; omega) (enb rfl (epos (by simp; omega) (enow ?_)))))
      rw [e3, placeT, if_pos c, ← e3]
      simp
    · refine eneg c ?_
      rw [w64 (by omega) (by omega), e3, placeT, if_neg c, show (i : Int) + 1 = ((i + 1 : Nat) : Int) by omega]
      have := ih (i + 1) (by omega)
      rw [List.take_succ_eq_append_getElem hlt, List.append_assoc] at this
      exact this
theorem place_e (xs : List ByteArray) (x : ByteArray) (hn : xs.length ≤ 1048576) : Ev (fun k => spec_l8Place.f k xs x) (placeT x xs) := by
  have := place_l xs x hn xs.length 0 (by omega)
  rw [List.take_zero, List.nil_append, List.drop_zero] at this
  exact this
theorem placeT_perm (x : ByteArray) : ∀ l, (placeT x l).Perm (x :: l)
  | [] => List.Perm.refl _
  | y :: r => by
    unfold placeT
    split
    · exact List.Perm.refl _
    · exact ((placeT_perm x r).cons y).trans (List.Perm.swap x y r)
theorem pair_chainLe : ∀ l : List ByteArray, l.Pairwise (fun a b => ltT b a = false) → chainLe l = true
  | [], _ => rfl
  | [_], _ => rfl
  | a :: b :: r, h => by
    obtain ⟨h1, h2⟩ := List.pairwise_cons.1 h
    simp only [chainLe, Bool.and_eq_true, Bool.not_eq_true']
    exact ⟨h1 b (by simp), pair_chainLe (b :: r) h2⟩
theorem placeT_pair (x : ByteArray) : ∀ l : List ByteArray, l.Pairwise (fun a b => ltT b a = false) → (placeT x l).Pairwise (fun a b => ltT b a = false)
  | [], _ => List.pairwise_singleton _ _
  | y :: r, h => by
    obtain ⟨h1, h2⟩ := List.pairwise_cons.1 h
    unfold placeT
    by_cases c : ltT x y = true
    · rw [if_pos c]
      refine List.Pairwise.cons (fun z hz => ?_) h
      rcases List.mem_cons.1 hz with rfl | hz
      · exact ltT_asym c
      · exact leT_trans (ltT_asym c) (h1 z hz)
    · rw [if_neg c]
      refine List.Pairwise.cons (fun z hz => ?_) (placeT_pair x r h2)
      rcases List.mem_cons.1 ((placeT_perm x r).mem_iff.1 hz) with rfl | hz
      · simpa using c
      · exact h1 z hz
def inR (lo hi x : Int) : Bool := decide (x ≥ lo) && decide (x ≤ hi)
theorem inR_iff {lo hi x : Int} : inR lo hi x = true ↔ lo ≤ x ∧ x ≤ hi := by simp [inR]
/-- all elements, each with its place, from place i on -/
def allI {α : Type} (p : Nat → α → Bool) : Nat → List α → Bool
  | _, [] => true
  | i, x :: xs => p i x && allI p (i + 1) xs
theorem allI_congr {α : Type} {p q : Nat → α → Bool} : ∀ (xs : List α) (i : Nat), (∀ j x, i ≤ j → j < i + xs.length → p j x = q j x) → allI p i xs = allI q i xs
  | [], _, _ => rfl
  | x :: xs, i, h => by
    simp only [allI]
    rw [h i x (Nat.le_refl _) (by simp), allI_congr xs (i + 1) (fun j y h1 h2 => h j y (by omega) (by simp only [List.length_cons]; omega))]
def onP (xs : List ByteArray) (i : Nat) (x : ByteArray) : Bool := decide ((x.size : Int) = 24) && (decide (i = 0) || Op.bytesLess (xs.getD (i - 1) ByteArray.empty).toList x.toList)
def onG (xs : List ByteArray) : Bool := allI (onP xs) 0 xs && decide ((xs.length : Int) ≤ 100)
def hasT (ys : List ByteArray) (x : ByteArray) : Bool := ys.any fun y => decide (y.toList = x.toList)
def boxP (b : List ByteArray) : Bool := b.all (fun x => inR 1 15 (x.size : Int)) && decide (b.length ≤ 60)
def relayP (outs : List (List ByteArray)) (i : Nat) (x : List ByteArray) : Bool := onG x && (onG (outs.getD i []) && x.all (hasT (outs.getD i [])))
def goodN (K : List Int) (ins outs boxes : List (List ByteArray)) (t : Int) : Bool := inR 1 4 (K.length : Int) && (K.all (inR 0 65535) && (decide ((ins.length : Int) = (K.length : Int)) && (decide ((outs.length : Int) = (K.length : Int)) && (decide ((boxes.length : Int) = 4) && (inR 0 60 t && (allI (relayP outs) 0 ins && boxes.all boxP))))))
def smallT (ps : List (List ByteArray)) : Prop := ps.length ≤ 1048576 ∧ ∀ p ∈ ps, p.length ≤ 1048576
theorem l1In_eq (a lo hi : Int) : spec_l1In.f a lo hi = some (inR lo hi a) := by
  unfold spec_l1In.f inR
  by_cases h : a ≥ lo <;> simp [h]
theorem l1All_l (xs : List Int) (lo up : Int) (hn : xs.length ≤ 9223372036854775807) : ∀ (d i : Nat), i + d = xs.length → Ev (fun k => spec_l1All.l0 k lo up xs (xs.length : Int) (i : Int)) ((xs.drop i).all (inR lo up)) := by
  intro d
  induction d with
  | zero =>
    intro i hi
    refine eround (fun k => by rw [spec_l1All.l0]) ?_
    refine eneg (by omega) (enow ?_)
    rw [List.drop_eq_nil_of_le (by omega)]; rfl
  | succ d ih =>
    intro i hi
    have hlt : i < xs.length := by omega
    refine eround (fun k => by rw [spec_l1All.l0]) ?_
    refine epos (by omega) (epos (by omega) (epos (by omega) ?_))
    rw [rd_get xs i hlt, List.drop_eq_getElem_cons hlt, List.all_cons]
    refine enb (l1In_eq _ _ _) ?_
    cases h : inR lo up xs[i] with
    | true =>
      refine epos rfl ?_
      rw [w64 (by omega) (by omega)]
      simpa using ih (i + 1) (by omega)
    | false => exact eneg (by simp) (enow (by simp))
theorem l1All_e (xs : List Int) (lo up : Int) (hn : xs.length ≤ 9223372036854775807) : Ev (fun k => spec_l1All.f k xs lo up) (xs.all (inR lo up)) :=
  l1All_l xs lo up hn xs.length 0 (by omega)
theorem specOn_l (xs : List ByteArray) (hn : xs.length ≤ 1048576) : ∀ (d i : Nat), i + d = xs.length → Ev (fun k => spec_l17Onions.l0 k xs xs (xs.length : Int) (i : Int)) (allI (onP xs) i (xs.drop i) && decide ((xs.length : Int) ≤ 100)) := by
  intro d
  induction d with
  | zero =>
    intro i hi
    refine eround (fun k => by rw [spec_l17Onions.l0]) (eneg (by omega) (enow ?_))
    rw [List.drop_eq_nil_of_le (by omega)]; rfl
  | succ d ih =>
    intro i hi
    have hlt : i < xs.length := by omega
    refine eround (fun k => by rw [spec_l17Onions.l0]) (epos (by omega) (epos (by omega) (epos (by omega) ?_)))
    rw [show rdOf ByteArray.empty xs (i : Int) = xs[i] from getD_get xs i _ hlt, List.drop_eq_getElem_cons hlt, w64 (x := (i : Int) + 1) (by omega) (by omega)]
    simp only [allI]
    by_cases h : (xs[i].size : Int) = 24
    · refine epos h ?_
      by_cases h0 : (i : Int) > 0
      · refine epos h0 ?_
        rw [w64 (x := (i : Int) - 1) (by omega) (by omega)]
        refine epos (by omega) (epos (by omega) ?_)
        have e : rdOf ByteArray.empty xs ((i : Int) - 1) = xs.getD (i - 1) ByteArray.empty := by
          unfold rdOf
          rw [show ((i : Int) - 1).toNat = i - 1 by omega]
        rw [e]
        have hi0 : ¬ i = 0 := by omega
        cases hb : Op.bytesLess (xs.getD (i - 1) ByteArray.empty).toList xs[i].toList with
        | true =>
          refine epos rfl ?_
          have hp : onP xs i xs[i] = true := by unfold onP; rw [hb]; simp [h]
          rw [hp, Bool.true_and]
          exact ih (i + 1) (by omega)
        | false =>
          have hp : onP xs i xs[i] = false := by unfold onP; rw [hb]; simp [hi0]
          exact eneg (by simp) (enow (by rw [hp]; rfl))
      · refine eneg h0 ?_
        have hi0 : i = 0 := by omega
        have hp : onP xs i xs[i] = true := by unfold onP; rw [decide_eq_true h, decide_eq_true hi0]; rfl
        rw [hp, Bool.true_and]
        exact ih (i + 1) (by omega)
    · have hp : onP xs i xs[i] = false := by unfold onP; simp [h]
      exact eneg h (enow (by rw [hp]; rfl))
theorem specOn_e (xs : List ByteArray) (hn : xs.length ≤ 1048576) : Ev (fun k => spec_l17Onions.f k xs) (onG xs) := specOn_l xs hn xs.length 0 (by omega)
theorem specHas_l (ys : List ByteArray) (x : ByteArray) (hn : ys.length ≤ 1048576) : ∀ (d i : Nat), i + d = ys.length → Ev (fun k => spec_l17Has.l0 k x ys (ys.length : Int) (i : Int)) (hasT (ys.drop i) x) := by
  intro d
  induction d with
  | zero =>
    intro i hi
    refine eround (fun k => by rw [spec_l17Has.l0]) (eneg (by omega) (enow ?_))
    rw [List.drop_eq_nil_of_le (by omega)]; rfl
  | succ d ih =>
    intro i hi
    have hlt : i < ys.length := by omega
    refine eround (fun k => by rw [spec_l17Has.l0]) (epos (by omega) (epos (by omega) (epos (by omega) ?_)))
    rw [show rdOf ByteArray.empty ys (i : Int) = ys[i] from getD_get ys i _ hlt, List.drop_eq_getElem_cons hlt, w64 (by omega) (by omega)]
    unfold hasT
    rw [List.any_cons]
    by_cases h : ys[i].toList = x.toList
    · exact epos h (enow (by simp [h]))
    · refine eneg h ?_
      rw [decide_eq_false h, Bool.false_or]
      exact ih (i + 1) (by omega)
theorem specHas_e (ys : List ByteArray) (x : ByteArray) (hn : ys.length ≤ 1048576) : Ev (fun k => spec_l17Has.f k ys x) (hasT ys x) := specHas_l ys x hn ys.length 0 (by omega)
theorem specNt_l3 (bs : List (List ByteArray)) (i : Nat) (b : List ByteArray) (hx : b.length ≤ 1048576) (R : Bool) (H : Ev (fun k => spec_GoodNet.l2 k bs (bs.length : Int) (wrap64 ((i : Int) + 1))) R) : ∀ (d j : Nat), j + d = b.length → Ev (fun k => spec_GoodNet.l3 k b bs (bs.length : Int) (i : Int) b (b.length : Int) (j : Int)) ((b.drop j).all (fun x => inR 1 15 (x.size : Int)) && (decide (b.length ≤ 60) && R)) := by
  intro d
  induction d with
  | zero =>
    intro j hj
    refine eround (fun k => by rw [spec_GoodNet.l3]) (eneg (by omega) ?_)
    rw [List.drop_eq_nil_of_le (by omega)]
    by_cases h : (b.length : Int) > 60
    · exact epos h (enow (by have : ¬ b.length ≤ 60 := by omega
                             simp [this]))
    · have h' : b.length ≤ 60 := by omega
      refine eneg h ?_
      simpa [h'] using H
  | succ d ih =>
    intro j hj
    have hlt : j < b.length := by omega
    refine eround (fun k => by rw [spec_GoodNet.l3]) (epos (by omega) (epos (by omega) (epos (by omega) ?_)))
    rw [show rdOf ByteArray.empty b (j : Int) = b[j] from getD_get b j _ hlt, List.drop_eq_getElem_cons hlt, List.all_cons]
    refine enb (l1In_eq _ _ _) ?_
    cases h : inR 1 15 (b[j].size : Int) with
    | true =>
      refine epos rfl ?_
      rw [w64 (x := (j : Int) + 1) (by omega) (by omega)]
      exact ih (j + 1) (by omega)
    | false => exact eneg (by simp) (enow (by simp))
theorem specNt_l2 (bs : List (List ByteArray)) (hb : smallT bs) : ∀ (d i : Nat), i + d = bs.length → Ev (fun k => spec_GoodNet.l2 k bs (bs.length : Int) (i : Int)) ((bs.drop i).all boxP) := by
  have hn := hb.1
  intro d
  induction d with
  | zero =>
    intro i hi
    refine eround (fun k => by rw [spec_GoodNet.l2]) (eneg (by omega) (enow ?_))
    rw [List.drop_eq_nil_of_le (by omega)]; rfl
  | succ d ih =>
    intro i hi
    have hlt : i < bs.length := by omega
    refine eround (fun k => by rw [spec_GoodNet.l2]) (epos (by omega) (epos (by omega) (epos (by omega) ?_)))
    rw [show rd_L2 bs (i : Int) = bs[i] from getD_get bs i _ hlt, List.drop_eq_getElem_cons hlt, List.all_cons]
    have hx := hb.2 _ (List.getElem_mem hlt)
    have := specNt_l3 bs i bs[i] hx _ (by rw [w64 (by omega) (by omega)]; exact ih (i + 1) (by omega)) bs[i].length 0 (by omega)
    unfold boxP
    rw [Bool.and_assoc]
    exact this
theorem specNt_l1 (K : List Int) (ins outs boxes : List (List ByteArray)) (t : Int) (i : Nat) (hi : i < ins.length) (hn : ins.length ≤ 1048576) (ho : i < outs.length) (hos : (outs.getD i []).length ≤ 1048576) (x : List ByteArray) (hx : x.length ≤ 1048576) (R : Bool) (H : Ev (fun k => spec_GoodNet.l0 k ins (ins.length : Int) (wrap64 ((i : Int) + 1)) K ins outs boxes t) R) :
    ∀ (d j : Nat), j + d = x.length → Ev (fun k => spec_GoodNet.l1 k (i : Int) ins (ins.length : Int) (i : Int) x (x.length : Int) (j : Int) K ins outs boxes t) ((x.drop j).all (hasT (outs.getD i [])) && R) := by
  intro d
  induction d with
  | zero =>
    intro j hj
    refine eround (fun k => by rw [spec_GoodNet.l1]) (eneg (by omega) ?_)
    rw [List.drop_eq_nil_of_le (by omega)]
    exact H
  | succ d ih =>
    intro j hj
    have hlt : j < x.length := by omega
    refine eround (fun k => by rw [spec_GoodNet.l1]) (epos (by omega) (epos (by omega) (epos (by omega) (epos (by omega) (epos (by omega) ?_)))))
    rw [show rdOf ByteArray.empty x (j : Int) = x[j] from getD_get x j _ hlt, List.drop_eq_getElem_cons hlt, List.all_cons, w64 (x := (j : Int) + 1) (by omega) (by omega), show rd_L2 outs (i : Int) = outs.getD i [] from by unfold rd_L2; rw [Int.toNat_natCast]]
    refine ebind (specHas_e _ _ hos) ?_
    cases hasT (outs.getD i []) x[j] with
    | true => exact epos rfl (by simpa using ih (j + 1) (by omega))
    | false => exact eneg (by simp) (enow (by simp))
theorem specNt_l0 (K : List Int) (ins outs boxes : List (List ByteArray)) (t : Int) (hi : smallT ins) (ho : smallT outs) (hb : smallT boxes) (hl : outs.length = ins.length) : ∀ (d i : Nat), i + d = ins.length → Ev (fun k => spec_GoodNet.l0 k ins (ins.length : Int) (i : Int) K ins outs boxes t) (allI (relayP outs) i (ins.drop i) && boxes.all boxP) := by
  have hn := hi.1
  intro d
  induction d with
  | zero =>
    intro i hd
    refine eround (fun k => by rw [spec_GoodNet.l0]) (eneg (by omega) ?_)
    rw [List.drop_eq_nil_of_le (by omega)]
    exact specNt_l2 boxes hb boxes.length 0 (by omega)
  | succ d ih =>
    intro i hd
    have hlt : i < ins.length := by omega
    refine eround (fun k => by rw [spec_GoodNet.l0]) (epos (by omega) (epos (by omega) (epos (by omega) ?_)))
    rw [show rd_L2 ins (i : Int) = ins[i] from getD_get ins i _ hlt, show rd_L2 outs (i : Int) = outs.getD i [] from by unfold rd_L2; rw [Int.toNat_natCast], List.drop_eq_getElem_cons hlt]
    have hx := hi.2 _ (List.getElem_mem hlt)
    generalize ins[i] = x at hx
    have hos : (outs.getD i []).length ≤ 1048576 := by
      rw [List.getD_eq_getElem?_getD, List.getElem?_eq_getElem (by omega)]
      exact ho.2 _ (List.getElem_mem _)
    have J : ∀ b, Ev (fun k => spec_GoodNet.j2 k (i : Int) x ins (ins.length : Int) (i : Int) b K ins outs boxes t) (!b && (x.all (hasT (outs.getD i [])) && (allI (relayP outs) (i + 1) (ins.drop (i + 1)) && boxes.all boxP))) := by
      intro b
      refine eround (fun k => by rw [spec_GoodNet.j2]) ?_
      cases b with
      | true => exact epos rfl (enow rfl)
      | false =>
        refine eneg (by simp) ?_
        have := specNt_l1 K ins outs boxes t i hlt hn (by omega) hos x hx _ (by rw [w64 (by omega) (by omega)]; exact ih (i + 1) (by omega)) x.length 0 (by omega)
        exact this
    simp only [allI, relayP]
    refine ebind (specOn_e x hx) ?_
    cases h1 : onG x with
    | false => refine eneg (by simp) ?_; simpa using J true
    | true =>
      refine epos rfl (epos (by omega) (ebind (specOn_e _ hos) ?_))
      have := J (!onG (outs.getD i []))
      rw [Bool.not_not] at this
      rw [Bool.true_and, Bool.and_assoc, Bool.and_assoc]
      exact this
theorem specNt_j0 (K : List Int) (ins outs boxes : List (List ByteArray)) (t : Int) (hi : smallT ins) (ho : smallT outs) (hb : smallT boxes) (b : Bool) (hl : b = false → outs.length = ins.length) : Ev (fun k => spec_GoodNet.j0 k b K ins outs boxes t) (!b && (allI (relayP outs) 0 ins && boxes.all boxP)) := by
  refine eround (fun k => by rw [spec_GoodNet.j0]) ?_
  cases b with
  | true => exact epos rfl (enow rfl)
  | false => exact eneg (by simp) (specNt_l0 K ins outs boxes t hi ho hb (hl rfl) ins.length 0 (by omega))
theorem specNt_e (K : List Int) (ins outs boxes : List (List ByteArray)) (t : Int) (hK : K.length ≤ 1048576) (hi : smallT ins) (ho : smallT outs) (hb : smallT boxes) : Ev (fun k => spec_GoodNet.f k K ins outs boxes t) (goodN K ins outs boxes t) := by
  have J := specNt_j0 K ins outs boxes t hi ho hb
  unfold spec_GoodNet.f goodN
  refine enb (l1In_eq _ _ _) ?_
  cases h1 : inR 1 4 (K.length : Int) with
  | false => refine eneg (by simp) ?_; simpa using J true (by simp)
  | true =>
    have h1' := inR_iff.1 h1
    refine epos rfl (ebind (l1All_e K 0 65535 (by omega)) ?_)
    cases h2 : K.all (inR 0 65535) with
    | false => refine eneg (by simp) ?_; simpa using J true (by simp)
    | true =>
      refine epos rfl ?_
      by_cases h3 : (ins.length : Int) = (K.length : Int)
      · refine epos h3 ?_
        by_cases h4 : (outs.length : Int) = (K.length : Int)
        · refine epos h4 ?_
          by_cases h5 : (boxes.length : Int) = 4
          · refine epos h5 (enb (l1In_eq _ _ _) ?_)
            have := J (!inR 0 60 t) (fun _ => by omega)
            simpa [h3, h4, h5] using this
          · refine eneg h5 ?_; simpa [h5] using J true (by simp)
        · refine eneg h4 ?_; simpa [h4] using J true (by simp)
      · refine eneg h3 ?_; simpa [h3] using J true (by simp)
theorem ixT_l (ys : List ByteArray) (x : ByteArray) (hn : ys.length ≤ 1048576) : ∀ (d i : Nat), i + d = ys.length → ∃ r : Int, Ev (fun k => slices_Index_string_string.l0 k ys x (ys.length : Int) (i : Int)) r ∧ (r ≥ 0 ↔ hasT (ys.drop i) x = true) := by
  intro d
  induction d with
  | zero =>
    intro i hi
    refine ⟨-1, eround (fun k => by rw [slices_Index_string_string.l0]) (eneg (by omega) (enow rfl)), ?_⟩
    rw [List.drop_eq_nil_of_le (by omega)]; simp [hasT]
  | succ d ih =>
    intro i hi
    have hlt : i < ys.length := by omega
    obtain ⟨r, h1, h3⟩ := ih (i + 1) (by omega)
    unfold hasT at h3 ⊢
    rw [List.drop_eq_getElem_cons hlt, List.any_cons]
    by_cases h : x.toList = ys[i].toList
    · refine ⟨(i : Int), eround (fun k => by rw [slices_Index_string_string.l0]) (epos (by omega) (epos (by omega) (epos (by omega) ?_))), by simp [h]⟩
      rw [show rdOf ByteArray.empty ys (i : Int) = ys[i] from getD_get ys i _ hlt]
      exact epos h (enow rfl)
    · refine ⟨r, eround (fun k => by rw [slices_Index_string_string.l0]) (epos (by omega) (epos (by omega) (epos (by omega) ?_))), by rw [decide_eq_false (fun z => h z.symm), Bool.false_or]; exact h3⟩
      rw [show rdOf ByteArray.empty ys (i : Int) = ys[i] from getD_get ys i _ hlt]
      refine eneg h ?_
      rw [w64 (by omega) (by omega)]
      exact h1
theorem implHas_e (ys : List ByteArray) (x : ByteArray) (hn : ys.length ≤ 1048576) : Ev (fun k => slices_Contains_string_string.f k ys x) (hasT ys x) := by
  obtain ⟨r, h1, h3⟩ := ixT_l ys x hn ys.length 0 (by omega)
  refine ebind (f := fun _ t => some (decide (t ≥ 0))) h1 (enow ?_)
  rw [List.drop_zero] at h3
  cases e : hasT ys x with
  | true => rw [e] at h3; simpa using h3
  | false => rw [e] at h3; simpa using h3
/-! ### nets: what is good, what comes, what goes on -/
def OnS (l : List ByteArray) : Prop := l.length ≤ 100 ∧ (∀ x ∈ l, x.size = 24) ∧ l.Pairwise (fun a b => ltT b a = false) ∧ l.Nodup
structure GN (n : Nt) : Prop where
  k1 : 1 ≤ n.ks.length
  k4 : n.ks.length ≤ 4
  kr : ∀ x ∈ n.ks, 0 ≤ x ∧ x ≤ 65535
  pl : n.ps.length = n.ks.length
  sl : n.ss.length = n.ks.length
  il : n.ib.length = 4
  sd : 0 ≤ n.sd ∧ n.sd ≤ 60
  po : ∀ i, OnS (n.ps.getD i [])
  so : ∀ i, OnS (n.ss.getD i [])
  sub : ∀ i x, x ∈ n.ps.getD i [] → x ∈ n.ss.getD i []
  bx : ∀ b ∈ n.ib, b.length ≤ 60 ∧ ∀ x ∈ b, 1 ≤ x.size ∧ x.size ≤ 15
theorem OnS_nil : OnS [] := ⟨by simp, by simp, List.Pairwise.nil, List.nodup_nil⟩
theorem hasT_iff (l : List ByteArray) (x : ByteArray) : hasT l x = true ↔ x ∈ l := by
  unfold hasT
  rw [List.any_eq_true]
  constructor
  · rintro ⟨y, h1, h2⟩
    have h3 : y.toList = x.toList := of_decide_eq_true h2
    have : y = x := by
      rw [ByteArray.toList_eq, ByteArray.toList_eq] at h3
      exact ByteArray.ext (Array.toList_inj.1 h3)
    rwa [← this]
  · intro h
    exact ⟨x, h, decide_eq_true rfl⟩
open Classical in
theorem nodup_le {α : Type} : ∀ (l m : List α), l.Nodup → (∀ x ∈ l, x ∈ m) → l.length ≤ m.length
  | [], _, _, _ => Nat.zero_le _
  | x :: r, m, hn, hs => by
    obtain ⟨h1, h2⟩ := List.nodup_cons.1 hn
    have hx := hs x (by simp)
    have ih := nodup_le r (m.erase x) h2 (fun y hy => (List.mem_erase_of_ne (fun e => h1 (by rw [← e]; exact hy))).2 (hs y (by simp [hy])))
    have hp := List.length_pos_of_mem hx
    rw [List.length_erase_of_mem hx] at ih
    simp only [List.length_cons]
    omega
theorem OnS_place {l : List ByteArray} {x : ByteArray} (h : OnS l) (hx : x.size = 24) (hn : x ∉ l) (hl : l.length < 100) : OnS (placeT x l) := by
  obtain ⟨h1, h2, h3, h4⟩ := h
  have hp := placeT_perm x l
  refine ⟨by rw [placeT_len]; omega, fun y hy => ?_, placeT_pair x l h3, (hp.nodup_iff).2 (List.nodup_cons.2 ⟨hn, h4⟩)⟩
  rcases List.mem_cons.1 (hp.mem_iff.1 hy) with rfl | hy
  · exact hx
  · exact h2 y hy
def comeF (n : Nt) (i : Nat) (s : ByteArray) : Nt := if hasT (n.ss.getD i []) s = true ∨ (n.ss.getD i []).length = 100 then n else ⟨n.ks, n.ps.set i (placeT s (n.ps.getD i [])), n.ss.set i (placeT s (n.ss.getD i [])), n.ib, n.sd⟩
theorem comeS_e (n : Nt) (i : Nat) (s : ByteArray) (h1 : i < n.ps.length) (h2 : i < n.ss.length) (h3 : (n.ps.getD i []).length ≤ 1048576) (h4 : (n.ss.getD i []).length ≤ 1048576) : Ev (fun k => spec_l17Come.f k n (i : Int) s) (comeF n i s) := by
  unfold spec_l17Come.f comeF
  rw [Int.toNat_natCast]
  refine epos ⟨by omega, by omega, by omega⟩ (ebind (specHas_e _ s h4) ?_)
  by_cases c : hasT (n.ss.getD i []) s = true ∨ (n.ss.getD i []).length = 100
  · rw [if_pos c]
    exact epos c (enow rfl)
  · rw [if_neg c]
    exact eneg c (ebind (place_e _ s h4) (ebind (place_e _ s h3) (enow rfl)))
theorem comeI_e (n : Nt) (i : Nat) (s : ByteArray) (h1 : i < n.ps.length) (h2 : i < n.ss.length) (h3 : OnS (n.ps.getD i [])) (h4 : OnS (n.ss.getD i [])) : Ev (fun k => impl_Net_come.f k n (i : Int) s) (comeF n i s) := by
  obtain ⟨p1, p2, p3, p4⟩ := h3
  obtain ⟨q1, q2, q3, q4⟩ := h4
  unfold impl_Net_come.f comeF
  rw [Int.toNat_natCast]
  refine epos ⟨by omega, by omega, by omega⟩ (ebind (implHas_e _ s (by omega)) ?_)
  by_cases c : hasT (n.ss.getD i []) s = true ∨ (n.ss.getD i []).length = 100
  · rw [if_pos c]
    exact epos c (enow rfl)
  · rw [if_neg c]
    exact eneg c (ebind (placedS_e _ s (by omega) (pair_chainLe _ q3)) (ebind (placedS_e _ s (by omega) (pair_chainLe _ p3)) (enow rfl)))
theorem getD_setE {α : Type} (z : α) (l : List α) (i j : Nat) (x : α) : (l.set i x).getD j z = if i = j ∧ j < l.length then x else l.getD j z := List_getD_set l i j x
theorem GN_come {n : Nt} (g : GN n) {i : Nat} {s : ByteArray} (hi : i < n.ks.length) (hs : s.size = 24) : GN (comeF n i s) := by
  unfold comeF
  by_cases c : hasT (n.ss.getD i []) s = true ∨ (n.ss.getD i []).length = 100
  · rw [if_pos c]; exact g
  · rw [if_neg c]
    obtain ⟨c1, c2⟩ := not_or.1 c
    have c1' : s ∉ n.ss.getD i [] := fun h => c1 ((hasT_iff _ _).2 h)
    have hss := g.so i
    have hps := g.po i
    have hlt : (n.ss.getD i []).length < 100 := by have := hss.1; omega
    have hpl : (n.ps.getD i []).length ≤ (n.ss.getD i []).length := nodup_le _ _ hps.2.2.2 (g.sub i)
    refine ⟨g.k1, g.k4, g.kr, by rw [List.length_set]; exact g.pl, by rw [List.length_set]; exact g.sl, g.il, g.sd, fun j => ?_, fun j => ?_, fun j x hx => ?_, g.bx⟩
    · rw [getD_setE]
      split
      · exact OnS_place hps hs (fun h => c1' (g.sub i s h)) (by omega)
      · exact g.po j
    · rw [getD_setE]
      split
      · exact OnS_place hss hs c1' hlt
      · exact g.so j
    · rw [getD_setE] at hx ⊢
      have e1 := g.pl
      have e2 := g.sl
      by_cases hij : i = j
      · subst hij
        rw [if_pos ⟨rfl, by omega⟩] at hx ⊢
        rcases List.mem_cons.1 ((placeT_perm s _).mem_iff.1 hx) with rfl | hx
        · exact (placeT_perm x _).mem_iff.2 (by simp)
        · exact (placeT_perm s _).mem_iff.2 (List.mem_cons_of_mem _ (g.sub i x hx))
      · rw [if_neg (fun h => hij h.1)] at hx ⊢
        exact g.sub j x hx
theorem come_keeps (n : Nt) (i : Nat) (s : ByteArray) : (comeF n i s).ks = n.ks ∧ (comeF n i s).ib = n.ib ∧ (comeF n i s).sd = n.sd := by
  unfold comeF
  split <;> exact ⟨rfl, rfl, rfl⟩
/-- One onion of the pool of hand i goes on (z: the last hand). -/
noncomputable def tick1 (z : Bool) (i : Nat) (n : Nt) (s : ByteArray) : Nt := match peelF (rd n.ks (i : Int)) s with
  | none => n
  | some (x, y, b) => if z = false then (if x = 1 then comeF n (i + 1) y else n) else if (2 ≤ x ∧ x ≤ 5) ∧ ¬ b = (⟨#[]⟩ : ByteArray) ∧ (n.ib.getD (x - 2).toNat []).length < 60 then ⟨n.ks, n.ps, n.ss, n.ib.set (x - 2).toNat (n.ib.getD (x - 2).toNat [] ++ [b]), n.sd⟩ else n
noncomputable def tickF (n : Nt) (i : Nat) : Nt := (n.ps.getD i []).foldl (tick1 (decide (i + 1 = n.ks.length)) i) ⟨n.ks, n.ps.set i [], n.ss, n.ib, n.sd⟩
theorem GN_tick1 {n : Nt} (g : GN n) {z : Bool} {i : Nat} {s : ByteArray} (hz : z = decide (i + 1 = n.ks.length)) (hi : i < n.ks.length) (hs : s.size = 24) : GN (tick1 z i n s) ∧ (tick1 z i n s).ks = n.ks ∧ (tick1 z i n s).sd = n.sd := by
  unfold tick1
  split
  · exact ⟨g, rfl, rfl⟩
  · rename_i x y b hp
    obtain ⟨p1, p2, p3, p4⟩ := peel_size _ _ hs hp
    split
    · rename_i h0
      split
      · have hi1 : i + 1 < n.ks.length := by
          rw [hz] at h0
          have := of_decide_eq_false h0
          omega
        exact ⟨GN_come g hi1 p1, (come_keeps _ _ _).1, (come_keeps _ _ _).2.2⟩
      · exact ⟨g, rfl, rfl⟩
    · split
      · rename_i c
        obtain ⟨⟨c1, c2⟩, c3, c4⟩ := c
        refine ⟨⟨g.k1, g.k4, g.kr, g.pl, g.sl, by rw [List.length_set]; exact g.il, g.sd, g.po, g.so, g.sub, fun q hq => ?_⟩, rfl, rfl⟩
        rcases List.mem_or_eq_of_mem_set hq with hq | rfl
        · exact g.bx q hq
        · have hb0 : 1 ≤ b.size := by
            rcases Nat.eq_zero_or_pos b.size with h | h
            · exact absurd (ByteArray.ext (Array.eq_empty_of_size_eq_zero h)) c3
            · exact h
          refine ⟨by rw [List.length_append]; simp only [List.length_cons, List.length_nil]; omega, fun w hw => ?_⟩
          rcases List.mem_append.1 hw with hw | hw
          · have hil := g.il
            have hlt : (x - 2).toNat < n.ib.length := by omega
            rw [List.getD_eq_getElem?_getD, List.getElem?_eq_getElem hlt] at hw
            exact (g.bx _ (List.getElem_mem hlt)).2 w hw
          · rw [List.mem_singleton.1 hw]
            exact ⟨hb0, p4⟩
      · exact ⟨g, rfl, rfl⟩
theorem GN_fold {z : Bool} {i : Nat} : ∀ (P : List ByteArray) {n : Nt}, GN n → z = decide (i + 1 = n.ks.length) → i < n.ks.length → (∀ s ∈ P, s.size = 24) → GN (P.foldl (tick1 z i) n) ∧ (P.foldl (tick1 z i) n).ks = n.ks ∧ (P.foldl (tick1 z i) n).sd = n.sd
  | [], n, g, _, _, _ => ⟨g, rfl, rfl⟩
  | s :: P, n, g, hz, hi, hs => by
    obtain ⟨h1, h2, h3⟩ := GN_tick1 g hz hi (hs s (by simp))
    obtain ⟨h4, h5, h6⟩ := GN_fold (z := z) (i := i) P h1 (by rw [h2]; exact hz) (by rw [h2]; exact hi) (fun q hq => hs q (by simp [hq]))
    exact ⟨h4, h5.trans h2, h6.trans h3⟩
theorem GN_empty {n : Nt} (g : GN n) (i : Nat) : GN ⟨n.ks, n.ps.set i [], n.ss, n.ib, n.sd⟩ := by
  refine ⟨g.k1, g.k4, g.kr, by rw [List.length_set]; exact g.pl, g.sl, g.il, g.sd, fun j => ?_, g.so, fun j x hx => ?_, g.bx⟩
  · rw [getD_setE]
    split
    · exact OnS_nil
    · exact g.po j
  · rw [getD_setE] at hx
    split at hx
    · cases hx
    · exact g.sub j x hx
theorem GN_tick {n : Nt} (g : GN n) {i : Nat} (hi : i < n.ks.length) : GN (tickF n i) ∧ (tickF n i).ks = n.ks ∧ (tickF n i).sd = n.sd :=
  GN_fold _ (GN_empty g i) rfl hi (g.po i).2.1
theorem tickS_come {n : Nt} (g : GN n) {i : Nat} (s : ByteArray) (hi : i < n.ks.length) : Ev (fun k => spec_l17Come.f k n (i : Int) s) (comeF n i s) := by
  have h1 := g.po i
  have h2 := g.so i
  have e1 := g.pl
  have e2 := g.sl
  first
  | exact comeS_e n i s (by omega) (by omega) (by have := h1.1; omega) (by have := h2.1; omega)
  | exact comeI_e n i s (by omega) (by omega) h1 h2
theorem tickS_l (i : Nat) (z : Bool) : ∀ (P : List ByteArray) (n : Nt), GN n → z = decide (i + 1 = n.ks.length) → i < n.ks.length → (∀ s ∈ P, s.size = 24) → Ev (fun k => spec_l17Tick.l0 k (i : Int) z P n) (P.foldl (tick1 z i) n)
  | [], n, _, _, _, _ => by
    simp only [spec_l17Tick.l0]
    exact enow rfl
  | s :: P, n, g, hz, hi, hs => by
    simp only [spec_l17Tick.l0]
    have hlt : (i : Int) < (n.ks.length : Int) := by omega
    have hk : 0 ≤ rd n.ks (i : Int) ∧ rd n.ks (i : Int) ≤ 65535 := by
      rw [rd_get _ i hi]
      exact g.kr _ (List.getElem_mem hi)
    have hsz := hs s (by simp)
    obtain ⟨g1, g2, g3⟩ := GN_tick1 g hz hi hsz
    have ih := tickS_l i z P (tick1 z i n s) g1 (by rw [g2]; exact hz) (by rw [g2]; exact hi) (fun q hq => hs q (by simp [hq]))
    rw [List.foldl_cons]
    refine epos hlt (ebind (peelS_e _ s hk hsz) ?_)
    unfold tick1 at ih ⊢
    cases hp : peelF (rd n.ks (i : Int)) s with
    | none =>
      rw [hp] at ih
      exact epos rfl ih
    | some p =>
      obtain ⟨x, y, b⟩ := p
      rw [hp] at ih
      obtain ⟨p1, p2, p3, p4⟩ := peel_size _ _ hsz hp
      dsimp only [peelR] at ih ⊢
      refine eneg (by decide) ?_
      by_cases h0 : z = false
      · rw [if_pos h0] at ih ⊢
        refine epos h0 ?_
        by_cases hx : x = 1
        · rw [if_pos hx] at ih ⊢
          have hi1 : i + 1 < n.ks.length := by
            rw [hz] at h0
            have := of_decide_eq_false h0
            omega
          refine epos hx (ebind (a := comeF n (i + 1) y) ?_ ih)
          rw [show wrap64 ((i : Int) + 1) = ((i + 1 : Nat) : Int) by rw [w64 (by have := g.k4; omega) (by have := g.k4; omega)]; omega]
          exact tickS_come g y hi1
        · rw [if_neg hx] at ih ⊢
          exact eneg hx ih
      · rw [if_neg h0] at ih ⊢
        refine eneg h0 ?_
        have hw := w64 (x := x - 2) (by omega) (by omega)
        simp only [hw]
        have hin : spec_l1In.f (x - 2) 0 3 = some (decide (2 ≤ x ∧ x ≤ 5)) := by
          unfold spec_l1In.f
          by_cases h2 : 2 ≤ x
          · rw [if_pos (by omega)]
            congr 1
            by_cases h3 : x ≤ 5
            · rw [decide_eq_true (show x - 2 ≤ 3 by omega), decide_eq_true ⟨h2, h3⟩]
            · rw [decide_eq_false (show ¬ x - 2 ≤ 3 by omega), decide_eq_false (fun h => h3 h.2)]
          · rw [if_neg (by omega), decide_eq_false (fun h => h2 h.1)]
        refine enb hin ?_
        by_cases hx : 2 ≤ x ∧ x ≤ 5
        · refine eneg (by rw [decide_eq_true hx]; decide) ?_
          by_cases hb : b = (⟨#[]⟩ : ByteArray)
          · rw [if_neg (fun h => h.2.1 hb)] at ih ⊢
            exact epos hb ih
          · refine eneg hb (epos (by have := g.il; omega) ?_)
            by_cases hl : (n.ib.getD (x - 2).toNat []).length < 60
            · rw [if_pos ⟨hx, hb, hl⟩] at ih ⊢
              exact epos hl ih
            · rw [if_neg (fun h => hl h.2.2)] at ih ⊢
              exact eneg hl ih
        · rw [if_neg (fun h => hx h.1)] at ih ⊢
          exact epos (decide_eq_false hx) ih
theorem tickS_e {n : Nt} (g : GN n) {i : Nat} (hi : i < n.ks.length) : Ev (fun k => spec_l17Tick.f k n (i : Int)) (tickF n i) := by
  have e1 := g.pl
  have e2 := g.il
  have e3 := (g.po i).1
  have e4 := g.k4
  unfold spec_l17Tick.f tickF
  rw [Int.toNat_natCast]
  refine epos ⟨by omega, by omega, by omega, by omega, by omega⟩ ?_
  have hz : ((i : Int) == wrap64 ((n.ks.length : Int) - 1)) = decide (i + 1 = n.ks.length) := by
    rw [w64 (by omega) (by omega)]
    by_cases h : i + 1 = n.ks.length
    · rw [decide_eq_true h, beq_iff_eq]; omega
    · rw [decide_eq_false h, beq_eq_false_iff_ne]; omega
  rw [hz]
  exact tickS_l i _ _ _ (GN_empty g i) rfl hi (g.po i).2.1
theorem tickI_come {n : Nt} (g : GN n) {i : Nat} (s : ByteArray) (hi : i < n.ks.length) : Ev (fun k => impl_Net_come.f k n (i : Int) s) (comeF n i s) := by
  have h1 := g.po i
  have h2 := g.so i
  have e1 := g.pl
  have e2 := g.sl
  first
  | exact comeS_e n i s (by omega) (by omega) (by have := h1.1; omega) (by have := h2.1; omega)
  | exact comeI_e n i s (by omega) (by omega) h1 h2
theorem tickI_l (i : Nat) (z : Bool) : ∀ (P : List ByteArray) (n : Nt), GN n → z = decide (i + 1 = n.ks.length) → i < n.ks.length → (∀ s ∈ P, s.size = 24) → Ev (fun k => impl_Net_goOn.l0 k (i : Int) z P n) (P.foldl (tick1 z i) n)
  | [], n, _, _, _, _ => by
    simp only [impl_Net_goOn.l0]
    exact enow rfl
  | s :: P, n, g, hz, hi, hs => by
    simp only [impl_Net_goOn.l0]
    have hlt : (i : Int) < (n.ks.length : Int) := by omega
    have hk : 0 ≤ rd n.ks (i : Int) ∧ rd n.ks (i : Int) ≤ 65535 := by
      rw [rd_get _ i hi]
      exact g.kr _ (List.getElem_mem hi)
    have hsz := hs s (by simp)
    obtain ⟨g1, g2, g3⟩ := GN_tick1 g hz hi hsz
    have ih := tickI_l i z P (tick1 z i n s) g1 (by rw [g2]; exact hz) (by rw [g2]; exact hi) (fun q hq => hs q (by simp [hq]))
    rw [List.foldl_cons]
    refine epos hlt (ebind (peelI_e _ s hk hsz) ?_)
    unfold tick1 at ih ⊢
    cases hp : peelF (rd n.ks (i : Int)) s with
    | none =>
      rw [hp] at ih
      exact epos rfl ih
    | some p =>
      obtain ⟨x, y, b⟩ := p
      rw [hp] at ih
      obtain ⟨p1, p2, p3, p4⟩ := peel_size _ _ hsz hp
      dsimp only [peelR] at ih ⊢
      refine eneg (by decide) ?_
      by_cases h0 : z = false
      · rw [if_pos h0] at ih ⊢
        refine epos h0 ?_
        by_cases hx : x = 1
        · rw [if_pos hx] at ih ⊢
          have hi1 : i + 1 < n.ks.length := by
            rw [hz] at h0
            have := of_decide_eq_false h0
            omega
          refine epos hx (ebind (a := comeF n (i + 1) y) ?_ ih)
          rw [show wrap64 ((i : Int) + 1) = ((i + 1 : Nat) : Int) by rw [w64 (by have := g.k4; omega) (by have := g.k4; omega)]; omega]
          exact tickI_come g y hi1
        · rw [if_neg hx] at ih ⊢
          exact eneg hx ih
      · rw [if_neg h0] at ih ⊢
        refine eneg h0 ?_
        have hw := w64 (x := x - 2) (by omega) (by omega)
        simp only [hw]
        have hin : impl_within.f (x - 2) 0 3 = some (decide (2 ≤ x ∧ x ≤ 5)) := by
          unfold impl_within.f
          by_cases h2 : 2 ≤ x
          · rw [if_pos (by omega)]
            congr 1
            by_cases h3 : x ≤ 5
            · rw [decide_eq_true (show x - 2 ≤ 3 by omega), decide_eq_true ⟨h2, h3⟩]
            · rw [decide_eq_false (show ¬ x - 2 ≤ 3 by omega), decide_eq_false (fun h => h3 h.2)]
          · rw [if_neg (by omega), decide_eq_false (fun h => h2 h.1)]
        refine enb hin ?_
        by_cases hx : 2 ≤ x ∧ x ≤ 5
        · refine eneg (by rw [decide_eq_true hx]; decide) ?_
          by_cases hb : b = (⟨#[]⟩ : ByteArray)
          · rw [if_neg (fun h => h.2.1 hb)] at ih ⊢
            exact epos hb ih
          · refine eneg hb (epos (by have := g.il; omega) ?_)
            by_cases hl : (n.ib.getD (x - 2).toNat []).length < 60
            · rw [if_pos ⟨hx, hb, hl⟩] at ih ⊢
              exact epos hl ih
            · rw [if_neg (fun h => hl h.2.2)] at ih ⊢
              exact eneg hl ih
        · rw [if_neg (fun h => hx h.1)] at ih ⊢
          exact epos (decide_eq_false hx) ih
theorem tickI_e {n : Nt} (g : GN n) {i : Nat} (hi : i < n.ks.length) : Ev (fun k => impl_Net_goOn.f k n (i : Int)) (tickF n i) := by
  have e1 := g.pl
  have e2 := g.il
  have e3 := (g.po i).1
  have e4 := g.k4
  unfold impl_Net_goOn.f tickF
  rw [Int.toNat_natCast]
  refine epos ⟨by omega, by omega, by omega, by omega, by omega⟩ ?_
  have hz : ((i : Int) == wrap64 ((n.ks.length : Int) - 1)) = decide (i + 1 = n.ks.length) := by
    rw [w64 (by omega) (by omega)]
    by_cases h : i + 1 = n.ks.length
    · rw [decide_eq_true h, beq_iff_eq]; omega
    · rw [decide_eq_false h, beq_eq_false_iff_ne]; omega
  rw [hz]
  exact tickI_l i _ _ _ (GN_empty g i) rfl hi (g.po i).2.1
theorem allI_all {α : Type} {p : Nat → α → Bool} : ∀ (xs : List α) (i : Nat), allI p i xs = true → ∀ j (h : j < xs.length), p (i + j) xs[j] = true
  | [], _, _, j, h => absurd h (Nat.not_lt_zero _)
  | x :: xs, i, ha, j, h => by
    simp only [allI, Bool.and_eq_true] at ha
    cases j with
    | zero => exact ha.1
    | succ j =>
      have := allI_all xs (i + 1) ha.2 j (by simpa using h)
      rw [show i + (j + 1) = i + 1 + j by omega]
      exact this
theorem onG_OnS {xs : List ByteArray} (h : onG xs = true) : OnS xs := by
  unfold onG at h
  rw [Bool.and_eq_true] at h
  have ha := allI_all xs 0 h.1
  have hl : (xs.length : Int) ≤ 100 := of_decide_eq_true h.2
  have hp : ∀ j (hj : j < xs.length), (xs[j].size : Int) = 24 ∧ (j = 0 ∨ ltT (xs.getD (j - 1) ByteArray.empty) xs[j] = true) := by
    intro j hj
    have := ha j hj
    rw [Nat.zero_add] at this
    simpa [onP, ltT] using this
  have hlt : ∀ d i (hi : i + (d + 1) < xs.length), ltT (xs[i]'(by omega)) xs[i + (d + 1)] = true := by
    intro d
    induction d with
    | zero =>
      intro i hi
      rcases (hp (i + 1) (by omega)).2 with h0 | h0
      · omega
      · rw [Nat.add_sub_cancel, List.getD_eq_getElem?_getD, List.getElem?_eq_getElem (by omega)] at h0
        exact h0
    | succ d ih =>
      intro i hi
      refine ltT_trans (ih i (by omega)) ?_
      rcases (hp (i + (d + 1 + 1)) (by omega)).2 with h0 | h0
      · omega
      · rw [show i + (d + 1 + 1) - 1 = i + (d + 1) by omega, List.getD_eq_getElem?_getD, List.getElem?_eq_getElem (by omega)] at h0
        exact h0
  have hlt' : ∀ i j (hi : i < xs.length) (hj : j < xs.length), i < j → ltT xs[i] xs[j] = true := by
    intro i j hi hj hij
    have := hlt (j - i - 1) i (by omega)
    simpa [show i + (j - i - 1 + 1) = j by omega] using this
  refine ⟨by omega, fun x hx => ?_, List.pairwise_iff_getElem.2 (fun i j hi hj hij => ltT_asym (hlt' i j hi hj hij)), List.pairwise_iff_getElem.2 (fun i j hi hj hij e => ?_)⟩
  · obtain ⟨j, hj, rfl⟩ := List.getElem_of_mem hx
    have := (hp j hj).1
    omega
  · have h1 := hlt' i j hi hj hij
    rw [e, ltT_irr] at h1
    cases h1
theorem goodN_GN {n : Nt} (h : goodN n.ks n.ps n.ss n.ib n.sd = true) : GN n := by
  unfold goodN at h
  simp only [Bool.and_eq_true, decide_eq_true_eq] at h
  obtain ⟨h1, h2, h3, h4, h5, h6, h7, h8⟩ := h
  have h1 := inR_iff.1 h1
  have h6 := inR_iff.1 h6
  have hr := allI_all _ 0 h7
  have hp : ∀ i, OnS (n.ps.getD i []) ∧ OnS (n.ss.getD i []) ∧ ∀ x, x ∈ n.ps.getD i [] → x ∈ n.ss.getD i [] := by
    intro i
    by_cases hi : i < n.ps.length
    · have := hr i hi
      rw [Nat.zero_add] at this
      simp only [relayP, Bool.and_eq_true] at this
      obtain ⟨a1, a2, a3⟩ := this
      have e : n.ps.getD i [] = n.ps[i] := by rw [List.getD_eq_getElem?_getD, List.getElem?_eq_getElem hi]; rfl
      rw [e]
      exact ⟨onG_OnS a1, onG_OnS a2, fun x hx => (hasT_iff _ _).1 (List.all_eq_true.1 a3 x hx)⟩
    · have e1 : n.ps.getD i [] = [] := by rw [List.getD_eq_getElem?_getD, List.getElem?_eq_none (by omega)]; rfl
      have e2 : n.ss.getD i [] = [] := by rw [List.getD_eq_getElem?_getD, List.getElem?_eq_none (by omega)]; rfl
      rw [e1, e2]
      exact ⟨OnS_nil, OnS_nil, fun x hx => hx⟩
  refine ⟨by omega, by omega, fun x hx => inR_iff.1 (List.all_eq_true.1 h2 x hx), by omega, by omega, by omega, h6, fun i => (hp i).1, fun i => (hp i).2.1, fun i => (hp i).2.2, fun b hb => ?_⟩
  have := List.all_eq_true.1 h8 b hb
  simp only [boxP, Bool.and_eq_true, decide_eq_true_eq] at this
  refine ⟨this.2, fun x hx => ?_⟩
  have := inR_iff.1 (List.all_eq_true.1 this.1 x hx)
  omega
theorem GN_small {n : Nt} (g : GN n) : n.ks.length ≤ 1048576 ∧ smallT n.ps ∧ smallT n.ss ∧ smallT n.ib := by
  have e1 := g.k4
  have e2 := g.pl
  have e3 := g.sl
  have e4 := g.il
  have hx : ∀ (L : List (List ByteArray)), (∀ i, OnS (L.getD i [])) → ∀ p ∈ L, p.length ≤ 1048576 := by
    intro L h p hp
    obtain ⟨j, hj, rfl⟩ := List.getElem_of_mem hp
    have := (h j).1
    rw [List.getD_eq_getElem?_getD, List.getElem?_eq_getElem hj] at this
    exact Nat.le_trans this (by decide)
  exact ⟨by omega, ⟨by omega, hx _ g.po⟩, ⟨by omega, hx _ g.so⟩, ⟨by omega, fun p hp => Nat.le_trans (g.bx p hp).1 (by decide)⟩⟩
theorem rows_l (l : List (List ByteArray)) (hl : smallT l) : ∀ (d i : Nat) (acc : List (List ByteArray)), i + d = l.length → acc.length ≤ i → Ev (fun k => spec_l17Rows.l0 k acc l (l.length : Int) (i : Int)) (acc ++ l.drop i) := by
  obtain ⟨l1, l2⟩ := hl
  intro d
  induction d with
  | zero =>
    intro i acc hi ha
    rw [List.drop_eq_nil_of_le (by omega), List.append_nil]
    exact eround (fun k => by rw [spec_l17Rows.l0]) (eneg (by omega) (enow rfl))
  | succ d ih =>
    intro i acc hi ha
    have hlt : i < l.length := by omega
    have hz := l2 _ (List.getElem_mem hlt)
    have e : rd_L2 l (i : Int) = l[i] := getD_get l i _ hlt
    have := ih (i + 1) (acc ++ [l[i]]) (by omega) (by simp; omega)
    rw [List.append_assoc, List.singleton_append, ← List.drop_eq_getElem_cons hlt] at this
    refine eround (fun k => by rw [spec_l17Rows.l0]) (epos (by omega) (epos (by omega) (epos (by omega) ?_)))
    rw [e, w64 (x := (i : Int) + 1) (by omega) (by omega)]
    exact enb rfl (epos (by simp; omega) (epos (by omega) this))
theorem rowsS_e (l : List (List ByteArray)) (hl : smallT l) : Ev (fun k => spec_l17Rows.f k l) l := rows_l l hl l.length 0 [] (by omega) (by simp)
theorem ownS_e (n : Nt) (h1 : n.ks.length ≤ 1048576) (h2 : smallT n.ps) (h3 : smallT n.ss) (h4 : smallT n.ib) : Ev (fun k => spec_l17Own.f k n) n := by
  unfold spec_l17Own.f
  exact epos h1 (ebind (rowsS_e _ h2) (ebind (rowsS_e _ h3) (ebind (rowsS_e _ h4) (enow rfl))))
theorem within_eq (a lo hi : Int) : impl_within.f a lo hi = some (inR lo hi a) := by
  unfold impl_within.f inR
  by_cases h : a ≥ lo <;> simp [h]
theorem mulS : ∀ n : Nat, 1 ≤ n → n ≤ 6 → bits_Mul.f 1 (n : Int) = some (0, (n : Int)) := by
  intro n h1 h6
  obtain rfl | rfl | rfl | rfl | rfl | rfl : n = 1 ∨ n = 2 ∨ n = 3 ∨ n = 4 ∨ n = 5 ∨ n = 6 := by omega
  all_goals decide
theorem rep_zero : ∀ n : Nat, (⟨(Lib.repeatL [0] n).toArray⟩ : ByteArray) = strOfNums (List.replicate n 0) := by
  have h : ∀ n : Nat, Lib.repeatL [0] n = List.replicate n (0 : UInt8) := by
    intro n
    induction n with
    | zero => rfl
    | succ n ih => rw [List.replicate_succ, ← ih]; rfl
  intro n
  unfold strOfNums
  rw [h, List.map_replicate]
  rfl
theorem strN_size (l : List Int) : (strOfNums l).size = l.length := by
  unfold strOfNums
  show (List.toArray _).size = _
  rw [List.size_toArray, List.length_map]
theorem ex16 (s : ByteArray) : (s.extract 0 22).extract 0 16 = s.extract 0 16 := by
  rw [ex_take, ex_take, ex_take]
  show (⟨((List.take 22 s.data.toList).take 16).toArray⟩ : ByteArray) = _
  rw [List.take_take]
  rfl
noncomputable def layer (k h : Int) (s : ByteArray) : ByteArray := xorT (strOfNums [h % 256, chk (s.extract 0 16) % 256] ++ s.extract 0 22) (padK k)
noncomputable def onL (ks hs : List Int) : Nat → ByteArray → ByteArray
  | 0, s => s
  | i + 1, s => onL ks hs i (layer (rd ks (i : Int)) (rd hs (i : Int)) s)
def startB (b : ByteArray) : ByteArray := ((b ++ (⟨#[128]⟩ : ByteArray)) ++ strOfNums (List.replicate (15 - b.size) 0)) ++ strOfNums (List.replicate 8 0)
noncomputable def onF (ks hs : List Int) (b : ByteArray) : ByteArray := onL ks hs ks.length (startB b)
theorem layer_size (k h : Int) (s : ByteArray) (hs : s.size = 24) : (layer k h s).size = 24 := by
  unfold layer
  rw [xorT_size, ByteArray.size_append, strN_size, ByteArray.size_extract, hs]
  rfl
theorem onL_size (ks hs : List Int) : ∀ (i : Nat) (s : ByteArray), s.size = 24 → (onL ks hs i s).size = 24
  | 0, s, h => h
  | i + 1, s, h => onL_size ks hs i _ (layer_size _ _ _ h)
theorem startB_size (b : ByteArray) (hb : b.size ≤ 15) : (startB b).size = 24 := by
  unfold startB
  rw [ByteArray.size_append, ByteArray.size_append, ByteArray.size_append, strN_size, strN_size, List.length_replicate, List.length_replicate]
  show b.size + 1 + (15 - b.size) + 8 = 24
  omega
theorem buildS_l (ks hs : List Int) (hn : ks.length ≤ 4) (hl : hs.length = ks.length) (hk : ∀ x ∈ ks, 0 ≤ x ∧ x ≤ 65535) : ∀ (i : Nat) (s : ByteArray), i ≤ ks.length → s.size = 24 → Ev (fun k => spec_BuildOnion.l0 k ks hs s ((i : Int) - 1)) (onL ks hs i s, true)
  | 0, s, hi, hq => by
    refine eround (fun k => by rw [spec_BuildOnion.l0]) ?_
    exact eneg (by omega) (enow rfl)
  | i + 1, s, hi, hq => by
    have hlt : i < ks.length := by omega
    have e : (((i + 1 : Nat) : Int) - 1) = (i : Int) := by omega
    have hc := chk_e (s.extract 0 16) (by rw [ByteArray.size_extract, hq]; decide)
    have hki : 0 ≤ rd ks (i : Int) ∧ rd ks (i : Int) ≤ 65535 := by rw [rd_get ks i hlt]; exact hk _ (List.getElem_mem hlt)
    obtain ⟨p1, p2, p3⟩ := padK_e _ hki
    have h22 : (s.extract 0 22).size = 22 := by rw [ByteArray.size_extract, hq]; rfl
    have ih := buildS_l ks hs hn hl hk i (layer (rd ks (i : Int)) (rd hs (i : Int)) s) (by omega) (layer_size _ _ _ hq)
    refine eround (fun k => by rw [spec_BuildOnion.l0]) ?_
    rw [e]
    refine epos (by omega) (epos (by omega) (epos (by omega) (epos (by omega) (epos (by omega) (epos (by omega) (epos (by omega) ?_))))))
    rw [ex16]
    refine ebind hc.2.2.1 (enb rfl (epos (by rw [strN_size]; simp; omega) (epos (by omega) (ebind p2 (ebind (a := layer (rd ks (i : Int)) (rd hs (i : Int)) s) (Ev_all fun k => ?_) ?_)))))
    · unfold spec_l7Xor.f layer
      have hz : (strOfNums [rd hs (i : Int) % 256, chk (s.extract 0 16) % 256] ++ s.extract 0 22).size = 24 := by rw [ByteArray.size_append, strN_size, h22]; rfl
      rw [if_pos (by omega), if_pos (by omega)]
    · rw [w64 (x := (i : Int) - 1) (by omega) (by omega)]
      exact ih
theorem buildI_l (ks hs : List Int) (hn : ks.length ≤ 4) (hl : hs.length = ks.length) (hk : ∀ x ∈ ks, 0 ≤ x ∧ x ≤ 65535) : ∀ (i : Nat) (s : ByteArray), i ≤ ks.length → s.size = 24 → Ev (fun k => impl_onion.l0 k ks hs s ((i : Int) - 1)) (onL ks hs i s)
  | 0, s, hi, hq => by
    refine eround (fun k => by rw [impl_onion.l0]) ?_
    exact eneg (by omega) (enow rfl)
  | i + 1, s, hi, hq => by
    have hlt : i < ks.length := by omega
    have e : (((i + 1 : Nat) : Int) - 1) = (i : Int) := by omega
    have hc := chk_e (s.extract 0 16) (by rw [ByteArray.size_extract, hq]; decide)
    have hki : 0 ≤ rd ks (i : Int) ∧ rd ks (i : Int) ≤ 65535 := by rw [rd_get ks i hlt]; exact hk _ (List.getElem_mem hlt)
    obtain ⟨p1, p2, p3⟩ := padK_e _ hki
    have h22 : (s.extract 0 22).size = 22 := by rw [ByteArray.size_extract, hq]; rfl
    have ih := buildI_l ks hs hn hl hk i (layer (rd ks (i : Int)) (rd hs (i : Int)) s) (by omega) (layer_size _ _ _ hq)
    refine eround (fun k => by rw [impl_onion.l0]) ?_
    rw [e]
    refine epos (by omega) (epos (by omega) (epos (by omega) (epos (by omega) (epos (by omega) ?_))))
    refine ebind hc.2.2.2 (enb rfl (epos (by omega) (epos (by omega) (epos (by rw [strN_size]; simp; omega) (epos (by omega) (ebind p3 (ebind (a := layer (rd ks (i : Int)) (rd hs (i : Int)) s) (Ev_all fun k => ?_) ?_)))))))
    · unfold impl_xor.f layer
      have hz : (strOfNums [rd hs (i : Int) % 256, chk (s.extract 0 16) % 256] ++ s.extract 0 22).size = 24 := by rw [ByteArray.size_append, strN_size, h22]; rfl
      rw [if_pos (by omega), if_pos (by omega)]
    · rw [w64 (x := (i : Int) - 1) (by omega) (by omega)]
      exact ih
theorem onionI_e (ks hs : List Int) (b : ByteArray) (hn : ks.length ≤ 4) (hl : hs.length = ks.length) (hk : ∀ x ∈ ks, 0 ≤ x ∧ x ≤ 65535) (hb : b.size ≤ 15) : Ev (fun k => impl_onion.f k ks hs b) (onF ks hs b) := by
  unfold impl_onion.f onF
  have z1 : (b ++ (⟨#[128]⟩ : ByteArray)).size = b.size + 1 := by rw [ByteArray.size_append]; rfl
  have hr : ∀ (n : Nat) (k : Nat), n ≤ 15 → strings_Repeat.f k (⟨#[0]⟩ : ByteArray) (n : Int) = some (strOfNums (List.replicate n 0)) := by
    intro n k hn
    unfold strings_Repeat.f
    have h1 : (⟨#[0]⟩ : ByteArray).size * ((n : Int)).toNat ≤ 140737488355328 := by show 1 * _ ≤ _; omega
    rw [if_pos (by omega), if_pos h1, if_pos (by omega)]
    show some (⟨(Lib.repeatL [0] ((n : Int)).toNat).toArray⟩ : ByteArray) = _
    rw [Int.toNat_natCast, rep_zero]
  refine ebind (a := (b ++ (⟨#[128]⟩ : ByteArray)) ++ strOfNums (List.replicate (15 - b.size) 0)) ?_ (ebind (a := strOfNums (List.replicate 8 0)) (Ev_all fun k => hr 8 k (by omega)) ?_)
  · unfold impl_padded.f
    refine epos (by omega) (ebind (a := strOfNums (List.replicate (15 - b.size) 0)) (Ev_all fun k => ?_) (epos (by rw [z1, strN_size, List.length_replicate]; omega) (enow rfl)))
    rw [show (15 : Int) - (b.size : Int) = ((15 - b.size : Nat) : Int) by omega]
    exact hr _ k (by omega)
  · refine epos (by rw [ByteArray.size_append, z1, strN_size, strN_size, List.length_replicate, List.length_replicate]; omega) ?_
    rw [w64 (x := (ks.length : Int) - 1) (by omega) (by omega)]
    exact buildI_l ks hs hn hl hk ks.length _ (Nat.le_refl _) (startB_size b hb)
theorem onionS_e (ks hs : List Int) (b : ByteArray) (h1 : 1 ≤ ks.length) (hn : ks.length ≤ 4) (hl : hs.length = ks.length) (hk : ∀ x ∈ ks, 0 ≤ x ∧ x ≤ 65535) (hh : ∀ x ∈ hs, 1 ≤ x ∧ x ≤ 250) (hb : b.size ≤ 15) : Ev (fun k => spec_BuildOnion.f k ks hs b) (onF ks hs b, true) := by
  unfold spec_BuildOnion.f onF
  have z1 : (b ++ (⟨#[128]⟩ : ByteArray)).size = b.size + 1 := by rw [ByteArray.size_append]; rfl
  have a1 : inR 1 4 (ks.length : Int) = true := inR_iff.2 ⟨by omega, by omega⟩
  have a2 : ks.all (inR 0 65535) = true := List.all_eq_true.2 fun x hx => inR_iff.2 (hk x hx)
  have a3 : hs.all (inR 1 250) = true := List.all_eq_true.2 fun x hx => inR_iff.2 (hh x hx)
  have a4 : spec_l7Body.f b = some true := by unfold spec_l7Body.f; rw [decide_eq_true (by omega)]
  refine enb (by rw [l1In_eq, a1]) (epos rfl (ebind (by have := l1All_e ks 0 65535 (by omega); rw [a2] at this; exact this) (epos rfl (epos (by omega) (ebind (by have := l1All_e hs 1 250 (by omega); rw [a3] at this; exact this) (epos rfl (enb a4 ?_)))))))
  have hp : spec_l7PadBody.f b = some ((b ++ (⟨#[128]⟩ : ByteArray)) ++ strOfNums (List.replicate (15 - b.size) 0)) := by
    unfold spec_l7PadBody.f
    rw [w64 (x := 15 - (b.size : Int)) (by omega) (by omega), show (15 : Int) - (b.size : Int) = ((15 - b.size : Nat) : Int) by omega, Int.toNat_natCast]
    rw [if_pos (by omega), if_pos (by omega), if_pos (by omega)]
    show (if (b ++ (⟨#[128]⟩ : ByteArray)).size + (strOfNums (List.replicate (15 - b.size) 0)).size ≤ 9223372036854775807 then _ else none) = _
    rw [if_pos (by rw [z1, strN_size, List.length_replicate]; omega)]
  refine eround (fun k => by rw [spec_BuildOnion.j0]) ?_
  refine eneg (by decide) ?_
  refine enb hp ?_
  refine epos (by decide) ?_
  refine enb rfl ?_
  refine epos (by rw [ByteArray.size_append, z1, strN_size, strN_size, List.length_replicate, List.length_replicate]; omega) ?_
  rw [w64 (x := (ks.length : Int) - 1) (by omega) (by omega)]
  exact buildS_l ks hs hn hl hk ks.length _ (Nat.le_refl _) (startB_size b hb)
/-! ### saying -/
def hopsF (m : Nat) (u : Int) : List Int := (List.replicate m 1).set (m - 1) (u + 2)
theorem hopsF_len (m : Nat) (u : Int) : (hopsF m u).length = m := by unfold hopsF; rw [List.length_set, List.length_replicate]
theorem hopsF_in (m : Nat) (u : Int) (hu : 0 ≤ u ∧ u ≤ 3) : ∀ x ∈ hopsF m u, 1 ≤ x ∧ x ≤ 250 := by
  intro x hx
  unfold hopsF at hx
  rcases List.mem_or_eq_of_mem_set hx with h | h
  · have := (List.mem_replicate.1 h).2
    omega
  · omega
noncomputable def onionF (n : Nt) (u : Int) (t : ByteArray) : ByteArray := onF n.ks (hopsF n.ks.length u) (strOfNums [n.sd + 1] ++ t)
noncomputable def sayF (n : Nt) (u : Int) (t : ByteArray) : Nt × Bool := if (0 ≤ u ∧ u ≤ 3) ∧ t.size ≤ 14 ∧ ¬ n.sd = 60 then (comeF ⟨n.ks, n.ps, n.ss, n.ib, n.sd + 1⟩ 0 (onionF n u t), true) else (n, false)
theorem onionF_size (n : Nt) (u : Int) (t : ByteArray) (ht : t.size ≤ 14) : (onionF n u t).size = 24 := onL_size _ _ _ _ (startB_size _ (by rw [ByteArray.size_append, strN_size]; show 1 + t.size ≤ 15; omega))
theorem GN_said {n : Nt} (g : GN n) (h : ¬ n.sd = 60) : GN ⟨n.ks, n.ps, n.ss, n.ib, n.sd + 1⟩ := ⟨g.k1, g.k4, g.kr, g.pl, g.sl, g.il, by have := g.sd; show 0 ≤ n.sd + 1 ∧ n.sd + 1 ≤ 60; omega, g.po, g.so, g.sub, g.bx⟩
theorem GN_say {n : Nt} (g : GN n) (u : Int) (t : ByteArray) : GN (sayF n u t).1 := by
  unfold sayF
  split
  · rename_i c
    exact GN_come (GN_said g c.2.2) (by have := g.k1; exact this) (onionF_size n u t c.2.1)
  · exact g
theorem hops_eq (m : Nat) (u : Int) (h1 : 1 ≤ m) (h4 : m ≤ 4) (hu : 0 ≤ u ∧ u ≤ 3) : wrap64 (((List.replicate m (1 : Int)).length : Int) - 1) = ((m - 1 : Nat) : Int) ∧ (List.replicate m (1 : Int)).set (wrap64 (((List.replicate m (1 : Int)).length : Int) - 1)).toNat (wrap64 (u + 2)) = hopsF m u := by
  have e : wrap64 (((List.replicate m (1 : Int)).length : Int) - 1) = ((m - 1 : Nat) : Int) := by rw [List.length_replicate, w64 (by omega) (by omega)]; omega
  rw [e, Int.toNat_natCast, w64 (x := u + 2) (by omega) (by omega)]
  exact ⟨rfl, rfl⟩
theorem sayS_e {n : Nt} (g : GN n) (u : Int) (t : ByteArray) : Ev (fun k => spec_l17Say.f k n u t) (sayF n u t) := by
  have k1 := g.k1
  have k4 := g.k4
  have gs := g.sd
  unfold spec_l17Say.f sayF
  refine enb (l1In_eq _ _ _) ?_
  by_cases hu : 0 ≤ u ∧ u ≤ 3
  · refine eneg (by rw [inR_iff.2 hu]; decide) ?_
    by_cases h2 : t.size ≤ 14
    · refine eneg (by omega) ?_
      by_cases h3 : n.sd = 60
      · rw [if_neg (fun h => h.2.2 h3)]
        exact epos h3 (enow rfl)
      · rw [if_pos ⟨hu, h2, h3⟩]
        refine eneg h3 (epos (by omega) ?_)
        obtain ⟨q1, q2⟩ := hops_eq n.ks.length u k1 k4 hu
        unfold spec_l17Say.g
        have hsd : wrap64 (n.sd + 1) = n.sd + 1 := w64 (by omega) (by omega)
        rw [q2, q1, hsd, show (n.sd + 1) % 256 = n.sd + 1 by omega]
        have gs2 := GN_said g h3
        exact epos ⟨by omega, by rw [List.length_replicate]; omega⟩ (ebind (onionS_e n.ks (hopsF n.ks.length u) _ k1 k4 (hopsF_len _ _) g.kr (hopsF_in _ _ hu) (by rw [ByteArray.size_append, strN_size]; show 1 + t.size ≤ 15; omega)) (epos rfl (ebind (tickS_come gs2 (i := 0) (onionF n u t) (by show 0 < n.ks.length; omega)) (enow rfl))))
    · rw [if_neg (fun h => h2 h.2.1)]
      exact epos (by omega) (enow rfl)
  · rw [if_neg (fun h => hu h.1)]
    refine epos ?_ (enow rfl)
    rw [Bool.eq_false_iff]
    intro h
    exact hu (inR_iff.1 h)
theorem sayI_e {n : Nt} (g : GN n) (u : Int) (t : ByteArray) : Ev (fun k => impl_Net_say.f k n u t) (sayF n u t) := by
  have k1 := g.k1
  have k4 := g.k4
  have gs := g.sd
  unfold impl_Net_say.f sayF
  refine enb (within_eq _ _ _) ?_
  by_cases hu : 0 ≤ u ∧ u ≤ 3
  · refine eneg (by rw [inR_iff.2 hu]; decide) ?_
    by_cases h2 : t.size ≤ 14
    · refine eneg (by omega) ?_
      by_cases h3 : n.sd = 60
      · rw [if_neg (fun h => h.2.2 h3)]
        exact epos h3 (enow rfl)
      · rw [if_pos ⟨hu, h2, h3⟩]
        have hr : slices_Repeat_int_int.f [1] (n.ks.length : Int) = some (List.replicate n.ks.length 1) := by
          unfold slices_Repeat_int_int.f
          rw [if_pos (by omega), if_pos (by omega), if_pos (by rfl), mulS _ k1 (by omega)]
          simp [rd]
        refine eneg h3 (enb hr ?_)
        obtain ⟨q1, q2⟩ := hops_eq n.ks.length u k1 k4 hu
        unfold impl_Net_say.g
        have hsd : wrap64 (n.sd + 1) = n.sd + 1 := w64 (by omega) (by omega)
        rw [q2, q1, hsd, show (n.sd + 1) % 256 = n.sd + 1 by omega]
        have gs2 := GN_said g h3
        exact epos ⟨by omega, by rw [List.length_replicate]; omega⟩ (ebind (onionI_e n.ks (hopsF n.ks.length u) _ k4 (hopsF_len _ _) g.kr (by rw [ByteArray.size_append, strN_size]; show 1 + t.size ≤ 15; omega)) (ebind (tickI_come gs2 (i := 0) (onionF n u t) (by show 0 < n.ks.length; omega)) (enow rfl)))
    · rw [if_neg (fun h => h2 h.2.1)]
      exact epos (by omega) (enow rfl)
  · rw [if_neg (fun h => hu h.1)]
    refine epos ?_ (enow rfl)
    rw [Bool.eq_false_iff]
    intro h
    exact hu (inR_iff.1 h)
noncomputable def stepF (n : Nt) (a b : Int) (x : ByteArray) : Nt × Bool :=
  if a = 1 then sayF n b x else if x = (⟨#[]⟩ : ByteArray) then
    (if a = 2 then (if 0 ≤ b ∧ b < (n.ks.length : Int) then (tickF n b.toNat, true) else (n, false))
     else if a = 3 then (if 0 ≤ b ∧ b < ((n.ss.getD 0 []).length : Int) then (comeF n 0 (rdOf ByteArray.empty (n.ss.getD 0 []) b), true) else (n, false)) else (n, false))
  else (n, false)
theorem seen_size {n : Nt} (g : GN n) {b : Int} (h0 : 0 ≤ b) (h1 : b < ((n.ss.getD 0 []).length : Int)) : (rdOf ByteArray.empty (n.ss.getD 0 []) b).size = 24 := by
  obtain ⟨j, rfl⟩ := Int.eq_ofNat_of_zero_le h0
  have hj : j < (n.ss.getD 0 []).length := by omega
  rw [show rdOf ByteArray.empty (n.ss.getD 0 []) (j : Int) = (n.ss.getD 0 [])[j] from getD_get _ j _ hj]
  exact (g.so 0).2.1 _ (List.getElem_mem hj)
theorem GN_step {n : Nt} (g : GN n) (a b : Int) (x : ByteArray) : GN (stepF n a b x).1 := by
  have k1 := g.k1
  unfold stepF
  split
  · exact GN_say g b x
  · split
    · split
      · split
        · rename_i h
          exact (GN_tick g (by omega)).1
        · exact g
      · split
        · split
          · rename_i h
            exact GN_come g (by omega) (seen_size g h.1 h.2)
          · exact g
        · exact g
    · exact g
theorem stepS_e {n : Nt} (g : GN n) (a b : Int) (x : ByteArray) : Ev (fun k => spec_l17Step.f k n a b x) (stepF n a b x) := by
  have k1 := g.k1
  have k4 := g.k4
  have sl := g.sl
  unfold spec_l17Step.f stepF
  by_cases a1 : a = 1
  · rw [if_pos a1]
    exact epos a1 (sayS_e g b x)
  rw [if_neg a1]
  refine eneg a1 ?_
  by_cases e : x = (⟨#[]⟩ : ByteArray)
  · rw [if_pos e]
    refine epos e ?_
    by_cases hb : b < 0
    · have n1 : ¬ (0 ≤ b ∧ b < (n.ks.length : Int)) := fun h => by omega
      have n2 : ¬ (0 ≤ b ∧ b < ((n.ss.getD 0 []).length : Int)) := fun h => by omega
      rw [if_neg n1, if_neg n2, ite_self, ite_self]
      exact epos hb (enow rfl)
    · refine eneg hb ?_
      by_cases a2 : a = 2
      · rw [if_pos a2]
        refine epos a2 ?_
        by_cases hl : b < (n.ks.length : Int)
        · rw [if_pos ⟨by omega, hl⟩]
          obtain ⟨j, rfl⟩ := Int.eq_ofNat_of_zero_le (show 0 ≤ b by omega)
          rw [Int.toNat_natCast]
          exact epos hl (ebind (tickS_e g (by omega)) (enow rfl))
        · rw [if_neg (fun h => hl h.2)]
          exact eneg hl (enow rfl)
      · rw [if_neg a2]
        refine eneg a2 ?_
        by_cases a3 : a = 3
        · rw [if_pos a3]
          refine epos a3 (epos (by omega) ?_)
          by_cases hl : b < ((n.ss.getD 0 []).length : Int)
          · rw [if_pos ⟨by omega, hl⟩]
            exact epos hl (ebind (tickS_come g (i := 0) _ (by omega)) (enow rfl))
          · rw [if_neg (fun h => hl h.2)]
            exact eneg hl (enow rfl)
        · rw [if_neg a3]
          exact eneg a3 (enow rfl)
  · rw [if_neg e]
    exact eneg e (enow rfl)
theorem stepI_e {n : Nt} (g : GN n) (a b : Int) (x : ByteArray) : Ev (fun k => impl_Net_step.f k n a b x) (stepF n a b x) := by
  have k1 := g.k1
  have k4 := g.k4
  have sl := g.sl
  have hs := (g.so 0).1
  unfold impl_Net_step.f stepF
  by_cases a1 : a = 1
  · rw [if_pos a1]
    exact epos a1 (sayI_e g b x)
  rw [if_neg a1]
  refine eneg a1 ?_
  by_cases e : x = (⟨#[]⟩ : ByteArray)
  · rw [if_pos e]
    refine epos e ?_
    by_cases a2 : a = 2
    · rw [if_pos a2]
      refine epos a2 (enb (within_eq _ _ _) ?_)
      rw [w64 (x := (n.ks.length : Int) - 1) (by omega) (by omega)]
      by_cases hl : 0 ≤ b ∧ b < (n.ks.length : Int)
      · rw [if_pos hl]
        obtain ⟨j, rfl⟩ := Int.eq_ofNat_of_zero_le hl.1
        rw [Int.toNat_natCast]
        exact epos (inR_iff.2 ⟨by omega, by omega⟩) (ebind (tickI_e g (by omega)) (enow rfl))
      · rw [if_neg hl]
        exact eneg (fun h => hl (by have := inR_iff.1 h; omega)) (enow rfl)
    · rw [if_neg a2]
      refine eneg a2 ?_
      by_cases a3 : a = 3
      · rw [if_pos a3]
        refine epos a3 (epos (by omega) (enb (within_eq _ _ _) ?_))
        rw [w64 (x := ((n.ss.getD 0 []).length : Int) - 1) (by omega) (by omega)]
        by_cases hl : 0 ≤ b ∧ b < ((n.ss.getD 0 []).length : Int)
        · rw [if_pos hl]
          exact epos (inR_iff.2 ⟨by omega, by omega⟩) (epos hl (ebind (tickI_come g (i := 0) _ (by omega)) (enow rfl)))
        · rw [if_neg hl]
          exact eneg (fun h => hl (by have := inR_iff.1 h; omega)) (enow rfl)
      · rw [if_neg a3]
        exact eneg a3 (enow rfl)
  · rw [if_neg e]
    exact eneg e (enow rfl)
theorem allWithin_l (xs : List Int) (lo up : Int) (hn : xs.length ≤ 9223372036854775807) : ∀ (d i : Nat), i + d = xs.length → Ev (fun k => impl_allWithin.l0 k lo up xs (xs.length : Int) (i : Int)) ((xs.drop i).all (inR lo up)) := by
  intro d
  induction d with
  | zero =>
    intro i hi
    refine eround (fun k => by rw [impl_allWithin.l0]) ?_
    refine eneg (by omega) (enow ?_)
    rw [List.drop_eq_nil_of_le (by omega)]; rfl
  | succ d ih =>
    intro i hi
    have hlt : i < xs.length := by omega
    refine eround (fun k => by rw [impl_allWithin.l0]) ?_
    refine epos (by omega) (epos (by omega) (epos (by omega) ?_))
    rw [rd_get xs i hlt, List.drop_eq_getElem_cons hlt, List.all_cons]
    refine enb (within_eq _ _ _) ?_
    cases h : inR lo up xs[i] with
    | true =>
      refine epos rfl ?_
      rw [w64 (by omega) (by omega)]
      simpa using ih (i + 1) (by omega)
    | false => exact eneg (by simp) (enow (by simp))
theorem allWithin_e (xs : List Int) (lo up : Int) (hn : xs.length ≤ 9223372036854775807) : Ev (fun k => impl_allWithin.f k xs lo up) (xs.all (inR lo up)) :=
  allWithin_l xs lo up hn xs.length 0 (by omega)
theorem keys_e (K : List Int) (h : K.length ≤ 8) : Ev (fun k => impl_areKeys.f k K) (K.all (inR 0 65535)) := by
  unfold impl_areKeys.f
  exact epos (by omega) (ebind (allWithin_e K 0 65535 (by omega)) (enow rfl))
def newNR (K : List Int) : List Int × List (List ByteArray) × List (List ByteArray) × List (List ByteArray) × Int × Bool := if (inR 1 4 (K.length : Int) && K.all (inR 0 65535)) = true then (K, List.replicate K.length [], List.replicate K.length [], List.replicate 4 [], 0, true) else ([], [], [], [], 0, false)
theorem smallT_rep (n : Nat) (hn : n ≤ 1048576) : smallT (List.replicate n []) := ⟨by rw [List.length_replicate]; exact hn, fun p hp => by rw [(List.mem_replicate.1 hp).2]; simp⟩
theorem onG_nil : onG [] = true := rfl
theorem relay_rep (n : Nat) : ∀ (m i : Nat), allI (relayP (List.replicate n [])) i (List.replicate m []) = true
  | 0, _ => rfl
  | m + 1, i => by
    have e : (List.replicate n ([] : List ByteArray)).getD i [] = [] := by
      rw [List.getD_eq_getElem?_getD, List.getElem?_replicate]
      split <;> rfl
    rw [List.replicate_succ, allI, relay_rep n m (i + 1), relayP, e, onG_nil]
    rfl
theorem goodN_new (K : List Int) : goodN K (List.replicate K.length []) (List.replicate K.length []) (List.replicate 4 []) 0 = (inR 1 4 (K.length : Int) && K.all (inR 0 65535)) := by
  unfold goodN
  rw [relay_rep, List.length_replicate, List.length_replicate, show inR 0 60 0 = true from by decide, show (List.replicate 4 ([] : List ByteArray)).all boxP = true from rfl]
  simp
theorem specNN_e (K : List Int) (hn : K.length ≤ 1048576) : Ev (fun k => spec_NewNet.f k K) (newNR K) := by
  unfold spec_NewNet.f newNR
  refine epos hn (ebind (specNt_e K _ _ _ 0 hn (smallT_rep _ hn) (smallT_rep _ hn) (smallT_rep 4 (by decide))) ?_)
  rw [goodN_new]
  cases (inR 1 4 (K.length : Int) && K.all (inR 0 65535)) with
  | true => exact enow rfl
  | false => exact enow rfl
theorem implNN_e (K : List Int) (hn : K.length ≤ 1048576) : Ev (fun k => impl_NewNet.f k K) (newNR K) := by
  unfold impl_NewNet.f newNR
  refine enb (within_eq _ _ _) ?_
  cases h : inR 1 4 (K.length : Int) with
  | false => exact eneg (by decide) (enow rfl)
  | true =>
    have h' := inR_iff.1 h
    refine epos rfl (ebind (keys_e K (by omega)) ?_)
    cases K.all (inR 0 65535) with
    | false => exact eneg (by decide) (enow rfl)
    | true => exact epos rfl (epos hn (enow rfl))
theorem newNR_small (K : List Int) (hn : K.length ≤ 1048576) : (newNR K).1.length ≤ 1048576 ∧ smallT (newNR K).2.1 ∧ smallT (newNR K).2.2.1 ∧ smallT (newNR K).2.2.2.1 := by
  have h0 : smallT [] := ⟨by simp, fun _ h => by cases h⟩
  unfold newNR
  split
  · exact ⟨hn, smallT_rep _ hn, smallT_rep _ hn, smallT_rep 4 (by decide)⟩
  · exact ⟨by simp, h0, h0, h0⟩
noncomputable def playL : List S53 → Nt → List Bool → Nt × List Bool
  | [], n, d => (n, d)
  | s :: r, n, d => playL r (stepF n s.f0 s.f1 s.f2).1 (d ++ [(stepF n s.f0 s.f1 s.f2).2])
theorem step_no {n : Nt} {a b : Int} {x : ByteArray} (h : (stepF n a b x).2 = false) : (stepF n a b x).1 = n := by
  have hs : ∀ (u : Int) (t : ByteArray), (sayF n u t).2 = false → (sayF n u t).1 = n := by
    intro u t h
    unfold sayF at h ⊢
    split at h
    · cases h
    · rename_i c
      rw [if_neg c]
  unfold stepF at h ⊢
  split at h
  · rename_i c
    rw [if_pos c]
    exact hs b x h
  · rename_i c
    rw [if_neg c]
    split at h
    · rename_i c
      rw [if_pos c]
      split at h
      · rename_i c
        rw [if_pos c]
        split at h
        · cases h
        · rename_i c
          rw [if_neg c]
      · rename_i c
        rw [if_neg c]
        split at h
        · rename_i c
          rw [if_pos c]
          split at h
          · cases h
          · rename_i c
            rw [if_neg c]
        · rename_i c
          rw [if_neg c]
    · rename_i c
      rw [if_neg c]
theorem GN_play : ∀ (l : List S53) (n : Nt) (d : List Bool), GN n → GN (playL l n d).1 ∧ (playL l n d).2.length = d.length + l.length
  | [], n, d, g => ⟨g, rfl⟩
  | s :: r, n, d, g => by
    obtain ⟨h1, h2⟩ := GN_play r (stepF n s.f0 s.f1 s.f2).1 (d ++ [(stepF n s.f0 s.f1 s.f2).2]) (GN_step g _ _ _)
    refine ⟨h1, ?_⟩
    simp only [playL]
    rw [h2, List.length_append, List.length_cons]
    simp only [List.length_cons, List.length_nil]
    omega
theorem playS_l : ∀ (l : List S53) (n : Nt) (d : List Bool), GN n → Ev (fun k => spec_PlayNet.l0 k l n d) (playL l n d)
  | [], n, d, g => by
    simp only [spec_PlayNet.l0]
    exact enow rfl
  | s :: r, n, d, g => by
    simp only [spec_PlayNet.l0]
    obtain ⟨s1, s2, s3, s4⟩ := GN_small g
    have ih := playS_l r (stepF n s.f0 s.f1 s.f2).1 (d ++ [(stepF n s.f0 s.f1 s.f2).2]) (GN_step g _ _ _)
    refine ebind (ownS_e n s1 s2 s3 s4) (ebind (stepS_e g s.f0 s.f1 s.f2) ?_)
    have hn := step_no (n := n) (a := s.f0) (b := s.f1) (x := s.f2)
    simp only [playL]
    generalize stepF n s.f0 s.f1 s.f2 = p at *
    obtain ⟨m, q⟩ := p
    cases q with
    | false =>
      have e : m = n := hn rfl
      subst e
      exact ih
    | true => exact ih
theorem playI_l : ∀ (l : List S53) (n : Nt) (d : List Bool), GN n → Ev (fun k => impl_PlayNet.l0 k l n d) (playL l n d)
  | [], n, d, g => by
    simp only [impl_PlayNet.l0]
    exact enow rfl
  | s :: r, n, d, g => by
    simp only [impl_PlayNet.l0]
    exact ebind (stepI_e g s.f0 s.f1 s.f2) (playI_l r (stepF n s.f0 s.f1 s.f2).1 (d ++ [(stepF n s.f0 s.f1 s.f2).2]) (GN_step g _ _ _))
def newNt (K : List Int) : Nt := ⟨K, List.replicate K.length [], List.replicate K.length [], List.replicate 4 [], 0⟩
theorem GN_new {K : List Int} (h1 : inR 1 4 (K.length : Int) = true) (h2 : K.all (inR 0 65535) = true) : GN (newNt K) := by
  apply goodN_GN
  show goodN K (List.replicate K.length []) (List.replicate K.length []) (List.replicate 4 []) 0 = true
  rw [goodN_new, h1, h2]
  rfl
noncomputable def playR (K : List Int) (l : List S53) : Nt × List Bool × Bool := if (inR 1 4 (K.length : Int) && K.all (inR 0 65535)) = true ∧ l.length ≤ 60 then ((playL l (newNt K) []).1, (playL l (newNt K) []).2, true) else (⟨[], [], [], [], 0⟩, [], false)
theorem playS_e (K : List Int) (l : List S53) (hK : K.length ≤ 1048576) : Ev (fun k => spec_PlayNet.f k K l) (playR K l) := by
  unfold spec_PlayNet.f playR
  have e := specNN_e K hK
  unfold newNR at e
  by_cases hg : (inR 1 4 (K.length : Int) && K.all (inR 0 65535)) = true
  · rw [if_pos hg] at e
    have h12 := hg
    rw [Bool.and_eq_true] at h12
    have g := GN_new h12.1 h12.2
    refine ebind e (eneg (by decide) ?_)
    by_cases hl : l.length ≤ 60
    · rw [if_pos ⟨hg, hl⟩]
      obtain ⟨g2, _⟩ := GN_play l (newNt K) [] g
      obtain ⟨s1, s2, s3, s4⟩ := GN_small g2
      exact eneg (by omega) (ebind (playS_l l (newNt K) [] g) (ebind (ownS_e _ s1 s2 s3 s4) (enow rfl)))
    · rw [if_neg (fun h => hl h.2)]
      exact epos (by omega) (enow rfl)
  · rw [if_neg hg] at e
    rw [if_neg (fun h => hg h.1)]
    exact ebind e (epos rfl (enow rfl))
theorem playI_e (K : List Int) (l : List S53) (hK : K.length ≤ 1048576) : Ev (fun k => impl_PlayNet.f k K l) (playR K l) := by
  unfold impl_PlayNet.f playR
  have e := implNN_e K hK
  unfold newNR at e
  by_cases hg : (inR 1 4 (K.length : Int) && K.all (inR 0 65535)) = true
  · rw [if_pos hg] at e
    have h12 := hg
    rw [Bool.and_eq_true] at h12
    have g := GN_new h12.1 h12.2
    refine ebind e (eneg (by decide) ?_)
    by_cases hl : l.length ≤ 60
    · rw [if_pos ⟨hg, hl⟩]
      exact eneg (by omega) (ebind (playI_l l (newNt K) [] g) (enow rfl))
    · rw [if_neg (fun h => hl h.2)]
      exact epos (by omega) (enow rfl)
  · rw [if_neg hg] at e
    rw [if_neg (fun h => hg h.1)]
    exact ebind e (epos rfl (enow rfl))
theorem playR_small (K : List Int) (l : List S53) : ((playR K l).1.ks.length ≤ 1048576 ∧ smallT (playR K l).1.ps ∧ smallT (playR K l).1.ss ∧ smallT (playR K l).1.ib) ∧ (playR K l).2.1.length ≤ 1048576 := by
  unfold playR
  split
  · rename_i h
    have h12 := h.1
    rw [Bool.and_eq_true] at h12
    obtain ⟨g2, g3⟩ := GN_play l (newNt K) [] (GN_new h12.1 h12.2)
    refine ⟨GN_small g2, ?_⟩
    show (playL l (newNt K) []).2.length ≤ 1048576
    rw [g3]
    have := h.2
    simp only [List.length_nil]
    omega
  · have h0 : smallT [] := ⟨by simp, fun _ h => by cases h⟩
    exact ⟨⟨by simp, h0, h0, h0⟩, by simp⟩
theorem FnExactPlayNet : laws_FnExactPlayNet.Pure := by
  intro K l _ hl
  apply Ev.rounds
  unfold laws_FnExactPlayNet.f
  by_cases hb : (K.length : Int) > 1048576
  · exact epos hb (enow rfl)
  refine eneg hb ?_
  have hn : K.length ≤ 1048576 := by omega
  obtain ⟨r, r1, r2, r3⟩ := laws_szNetStepS_z l 1048576 (by omega) (by omega) ⟨hl.1, fun y hy => (hl.2 y hy).2.2⟩
  refine ebind r2 ?_
  by_cases hr : r < 0
  · exact epos hr (enow rfl)
  refine eneg hr ?_
  have hll := r3 (by omega)
  have e1 := laws_toIntS_e K hn
  have e2 := laws_toNetStepS_e l hll
  generalize hx : (l.map fun x => (⟨x.f0, x.f1, x.f2⟩ : S53)) = xs at e2
  have hxl : xs.length ≤ 1048576 := by rw [← hx]; simpa using hll
  have e3 := playS_e K xs hn
  have e4 := playI_e K xs hn
  obtain ⟨⟨s0, s1, s2, s3⟩, s4⟩ := playR_small K xs
  have e5 := laws_eqIntS_r K hn
  have e6 := laws_eqNetStepS_r xs hxl
  obtain ⟨_, _, q1, _⟩ := laws_markIntS_m K 1 hn (by omega) (by omega)
  generalize playR K xs = N at *
  obtain ⟨⟨n1, n2, n3, n4, n5⟩, nd, n6⟩ := N
  have e7 := laws_eqNet_r n1 n2 n3 n4 n5 s0 s1 s2 s3
  have s4 : nd.length ≤ 1048576 := s4
  have e8 := laws_eqBoolS_r nd s4
  obtain ⟨ys, q2⟩ := laws_markNetStepS_m xs (1 + 1 * K.length) hxl (by omega) (by omega)
  obtain ⟨_, _, _, _, u, u0, u1, q3, q4⟩ := laws_markNet_m n1 n2 n3 n4 n5 1 s0 s1 s2 s3 (by omega) (by omega)
  obtain ⟨_, _, q5, q6⟩ := laws_markBoolS_m nd u s4 (by omega) (by omega)
  exact ebind e1 (ebind e2 (ebind e3 (ebind e4 (ebind e7 (epos rfl (ebind e8 (epos ⟨rfl, rfl⟩ (ebind e5 (epos rfl (ebind e6 (epos rfl (ebind q1 (ebind q2 (epos (by omega) (ebind q3 (ebind q5 (ebind q4 (epos (by omega) (ebind q6 (epos ⟨by omega, rfl⟩ (enow rfl)))))))))))))))))))))

end Go.Proofs.YtihekdlcfohkkaaGreatDoor.Pure
