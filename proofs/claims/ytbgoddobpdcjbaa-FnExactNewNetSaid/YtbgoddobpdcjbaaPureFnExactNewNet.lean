/- The law FnExactNewNet, told over lists: the program's NewNet and the reference's answer alike; nothing is written into an argument; what is made owns its memory. No condition. -/
import Derived.Test.YtbgoddobpdcjbaaQFnExactNewNetx4
import Derived.Test.YtbgoddobpdcjbaaPk
namespace Go.Proofs.Ytbgoddobpdcjbaa.Pure
open Go.RowKit Go.Proofs.Ytbgoddobpdcjbaa.QFnExactNewNet Go.Proofs.YtbgoddobpdcjbaaW.PrintWords Go.Proofs.YtbgoddobpdcjbaaW.PrintLast Go.Proofs.YtbgoddobpdcjbaaW.PrintMore Go.Proofs.Ytbgoddobpdcjbaa
set_option linter.unusedVariables false
set_option linter.unusedSimpArgs false

open Pk
theorem laws_markText_l : ∀ (n : Nat) (m : Int) (x : ByteArray), m ≤ n → (x.size : Int) + m ≤ 4611686018427387904 → 0 ≤ m → ∃ t, Ev (fun k => laws_markText.l0 k m x) t := by
  intro n
  induction n with
  | zero =>
    intro m x h h1 h0
    have : x.size + 1 ≤ 9223372036854775807 := by omega
    exact ⟨_, eround (fun k => by rw [laws_markText.l0]) (eneg (by omega) (epos (by omega) (enow rfl)))⟩
  | succ n ih =>
    intro m x h h1 h0
    by_cases hm : m > 0
    · have hs : ∀ d : Int, (strOfNums [d]).size = 1 := fun d => by simp [strOfNums, ByteArray.size]
      have e : Int.tdiv m 10 = m / 10 := Int.tdiv_eq_ediv_of_nonneg h0
      obtain ⟨t, ht⟩ := ih (m / 10) (strOfNums [(wrap64 (48 + (Int.tmod m 10))) % 256] ++ x) (by omega) (by rw [ByteArray.size_append, hs]; push_cast; omega) (by omega)
      refine ⟨t, eround (fun k => by rw [laws_markText.l0]) (epos hm ?_)⟩
      refine enb rfl ?_
      refine epos (by rw [hs]; omega) ?_
      rw [e, w64 (by omega) (by omega)]
      exact ht
    · have : x.size + 1 ≤ 9223372036854775807 := by omega
      exact ⟨_, eround (fun k => by rw [laws_markText.l0]) (eneg (by omega) (epos (by omega) (enow rfl)))⟩
noncomputable def mtext (m : Int) : ByteArray := theEv ByteArray.empty (fun k => laws_markText.f k m)
theorem laws_markText_m (m : Int) (h0 : 0 ≤ m) (h1 : m ≤ 4611686018427387904) : Ev (fun k => laws_markText.f k m) (mtext m) := by
  have : ∃ t, Ev (fun k => laws_markText.f k m) t := by
    unfold laws_markText.f
    by_cases h : m ≤ 0
    · exact ⟨_, epos h (enow rfl)⟩
    · obtain ⟨t, ht⟩ := laws_markText_l m.toNat m ⟨#[]⟩ (by omega) (by simp [ByteArray.size]; omega) h0
      exact ⟨t, eneg h ht⟩
  obtain ⟨t, ht⟩ := this
  exact theEv_of ht
/-! laws_toIntS -/
theorem laws_toIntS_l (xs : List Int) (hs : xs.length ≤ 1048576) : ∀ (d i : Nat) (acc : List Int), i + d = xs.length → acc.length = xs.length → acc.take i = xs.take i → Ev (fun k => laws_toIntS.l0 k xs acc (i : Int)) xs := by
  have hn := hs
  intro d
  induction d with
  | zero =>
    intro i acc hi hl ht
    refine eround (fun k => by rw [laws_toIntS.l0]) (eneg (by omega) (enow ?_))
    rwa [List.take_of_length_le (by omega), List.take_of_length_le (by first | omega | (simp; omega))] at ht
  | succ d ih =>
    intro i acc hi hl ht
    have hlt : i < xs.length := by omega
    refine eround (fun k => by rw [laws_toIntS.l0]) (epos (by omega) (epos (by omega) ?_))
    refine epos (by omega) ?_
    rw [w64 (by omega) (by omega)]
    refine ih (i + 1) _ (by omega) (by simpa using hl) ?_
    exact take_set_succ _ _ rfl (by first | exact hlt | (simp; omega)) (by first | exact hl | simpa using hl) ht (by first | exact (getD_get xs i _ hlt).symm | (simp only [List.getElem_map]; rw [← getD_get xs i _ hlt]; rfl))
theorem laws_toIntS_e (xs : List Int) (hs : xs.length ≤ 1048576) : Ev (fun k => laws_toIntS.f k xs) xs := by
  have hn := hs
  unfold laws_toIntS.f
  exact epos (by omega) (epos (by omega) (laws_toIntS_l xs hs xs.length 0 _ (by omega) (by simp) (by simp)))
/-! laws_eqIntS -/
theorem laws_eqIntS_lr (xs : List Int) (hs : xs.length ≤ 1048576) : ∀ (d i : Nat), i + d = xs.length → Ev (fun k => laws_eqIntS.l0 k xs xs (i : Int)) true := by
  have hn := hs
  intro d
  induction d with
  | zero =>
    intro i hi
    exact eround (fun k => by rw [laws_eqIntS.l0]) (eneg (by omega) (enow rfl))
  | succ d ih =>
    intro i hi
    have hlt : i < xs.length := by omega
    refine eround (fun k => by rw [laws_eqIntS.l0]) (epos (by omega) (epos (by omega) (epos (by omega) ?_)))
    first | refine epos rfl ?_ | (refine eneg ?_ ?_; focus (simp; done))
    rw [w64 (by omega) (by omega)]
    exact ih (i + 1) (by omega)
theorem laws_eqIntS_r (xs : List Int) (hs : xs.length ≤ 1048576) : Ev (fun k => laws_eqIntS.f k xs xs) true := by
  unfold laws_eqIntS.f
  exact epos rfl (laws_eqIntS_lr xs hs xs.length 0 (by omega))
/-! laws_eqStringS -/
theorem laws_eqStringS_lr (xs : List ByteArray) (hs : xs.length ≤ 1048576) : ∀ (d i : Nat), i + d = xs.length → Ev (fun k => laws_eqStringS.l0 k xs xs (i : Int)) true := by
  have hn := hs
  intro d
  induction d with
  | zero =>
    intro i hi
    exact eround (fun k => by rw [laws_eqStringS.l0]) (eneg (by omega) (enow rfl))
  | succ d ih =>
    intro i hi
    have hlt : i < xs.length := by omega
    refine eround (fun k => by rw [laws_eqStringS.l0]) (epos (by omega) (epos (by omega) (epos (by omega) ?_)))
    first | refine epos rfl ?_ | (refine eneg ?_ ?_; focus (simp; done))
    rw [w64 (by omega) (by omega)]
    exact ih (i + 1) (by omega)
theorem laws_eqStringS_r (xs : List ByteArray) (hs : xs.length ≤ 1048576) : Ev (fun k => laws_eqStringS.f k xs xs) true := by
  unfold laws_eqStringS.f
  exact epos rfl (laws_eqStringS_lr xs hs xs.length 0 (by omega))
/-! laws_eqStringSS -/
theorem laws_eqStringSS_lr (xs : List (List ByteArray)) (hs : (xs.length ≤ 1048576 ∧ ∀ y ∈ xs, y.length ≤ 1048576)) : ∀ (d i : Nat), i + d = xs.length → Ev (fun k => laws_eqStringSS.l0 k xs xs (i : Int)) true := by
  have hn := hs.1
  intro d
  induction d with
  | zero =>
    intro i hi
    exact eround (fun k => by rw [laws_eqStringSS.l0]) (eneg (by omega) (enow rfl))
  | succ d ih =>
    intro i hi
    have hlt : i < xs.length := by omega
    refine eround (fun k => by rw [laws_eqStringSS.l0]) (epos (by omega) (epos (by omega) (epos (by omega) ?_)))
    refine ebind (laws_eqStringS_r (xs.getD ((i : Int)).toNat []) (by rw [getD_get xs i _ hlt]; exact hs.2 _ (List.getElem_mem hlt))) (epos rfl ?_)
    rw [w64 (by omega) (by omega)]
    exact ih (i + 1) (by omega)
theorem laws_eqStringSS_r (xs : List (List ByteArray)) (hs : (xs.length ≤ 1048576 ∧ ∀ y ∈ xs, y.length ≤ 1048576)) : Ev (fun k => laws_eqStringSS.f k xs xs) true := by
  unfold laws_eqStringSS.f
  exact epos rfl (laws_eqStringSS_lr xs hs xs.length 0 (by omega))
/-! laws_eqNet -/
theorem laws_eqNet_r (l0_0 : List Int) (l0_1 : List (List ByteArray)) (l0_2 : List (List ByteArray)) (l0_3 : List (List ByteArray)) (a0_4 : Int) (hl0_0 : l0_0.length ≤ 1048576) (hl0_1 : (l0_1.length ≤ 1048576 ∧ ∀ y ∈ l0_1, y.length ≤ 1048576)) (hl0_2 : (l0_2.length ≤ 1048576 ∧ ∀ y ∈ l0_2, y.length ≤ 1048576)) (hl0_3 : (l0_3.length ≤ 1048576 ∧ ∀ y ∈ l0_3, y.length ≤ 1048576)) : Ev (fun k => laws_eqNet.f k l0_0 l0_1 l0_2 l0_3 a0_4 l0_0 l0_1 l0_2 l0_3 a0_4) true := by
  unfold laws_eqNet.f
  repeat' first
    | exact enow rfl
    | refine epos rfl ?_
    | (refine eneg ?_ ?_; focus (simp; done))
    | refine ebind (laws_eqIntS_r _ (by assumption)) ?_
    | refine ebind (laws_eqStringSS_r _ (by assumption)) ?_
/-! laws_markIntS -/
theorem laws_markIntS_h : ∀ (d i : Nat) (xs : List Int) (m : Int), i + d = xs.length → xs.length ≤ 1048576 → 0 ≤ m → m ≤ 4611686018427387904 - 1 * d → ∃ ys : List Int, ys.length = xs.length ∧ ys.take i = xs.take i ∧
    Ev (fun k => laws_markIntS.l0 k xs m (i : Int)) (m + 1 * d, ys) ∧ Ev (fun k => laws_heldIntS.l0 k ys m (i : Int)) (m + 1 * d) := by
  intro d
  induction d with
  | zero =>
    intro i xs m hi hn h0 h1
    exact ⟨xs, rfl, rfl, eround (fun k => by rw [laws_markIntS.l0]) (eneg (by omega) (enow (by simp))), eround (fun k => by rw [laws_heldIntS.l0]) (eneg (by omega) (enow (by simp)))⟩
  | succ d ih =>
    intro i xs m hi hn h0 h1
    have hlt : i < xs.length := by omega
    have w1 : wrap64 ((i : Int) + 1) = ((i + 1 : Nat) : Int) := by rw [w64 (by omega) (by omega)]; rfl
    have v0 : wrap64 (m + 1) = m + 1 := w64 (by omega) (by omega)
    obtain ⟨ys, hl, ht, hm, hh⟩ := ih (i + 1) (xs.set ((i : Int)).toNat m) (m + 1) (by simp; omega) (by simpa using hn) (by omega) (by push_cast at h1; omega)
    have hlt' : i < ys.length := by rw [hl]; simpa using hlt
    have hy : ys[i] = m := by
      have := congrArg (fun l => l[i]?) ht
      simp only [List.getElem?_take_of_lt (Nat.lt_succ_self i), List.getElem?_eq_getElem hlt'] at this
      rw [show ((i : Int)).toNat = i by simp, List.getElem?_set_self (by simpa using hlt)] at this
      exact Option.some.inj this
    refine ⟨ys, by rw [hl]; simp, ?_, ?_, ?_⟩
    · have := congrArg (List.take i) ht
      rw [List.take_take, List.take_take, Nat.min_eq_left (by omega)] at this
      rw [this]
      simp [List.take_set_of_le]
    · refine eround (fun k => by rw [laws_markIntS.l0]) (epos (by omega) ?_)
      try simp only [w1, v0]
      refine epos (by omega) ?_
      refine enb rfl ?_
      try simp only [w1, v0]
      skip
      rw [show m + 1 * ((d + 1 : Nat) : Int) = m + 1 + 1 * (d : Int) by push_cast; omega]
      simpa using hm
    · refine eround (fun k => by rw [laws_heldIntS.l0]) (epos (by omega) (epos (by omega) ?_))
      have hr : ∀ z, ys.getD ((i : Int)).toNat z = ys[i] := fun z => getD_get ys i z hlt'
      try simp only [w1, v0]
      simp only [rd, rdOf, hr, hy]
      repeat (first | refine epos trivial ?_ | refine epos rfl ?_ | (refine eneg ?_ ?_; focus (simp; done)))
      rw [show m + 1 * ((d + 1 : Nat) : Int) = m + 1 + 1 * (d : Int) by push_cast; omega]
      exact hh
theorem laws_markIntS_m (xs : List Int) (m : Int) (hn : xs.length ≤ 1048576) (h0 : 0 ≤ m) (h1 : m ≤ 4611686018427387904 - 1 * xs.length) : ∃ ys : List Int, ys.length = xs.length ∧ Ev (fun k => laws_markIntS.f k xs m) (m + 1 * xs.length, ys) ∧ Ev (fun k => laws_heldIntS.f k ys m) (m + 1 * xs.length) := by
  obtain ⟨ys, hl, _, h⟩ := laws_markIntS_h xs.length 0 xs m (by omega) hn h0 h1
  exact ⟨ys, hl, h⟩
/-! laws_markStringS -/
theorem laws_markStringS_h : ∀ (d i : Nat) (xs : List ByteArray) (m : Int), i + d = xs.length → xs.length ≤ 1048576 → 0 ≤ m → m ≤ 4611686018427387904 - 1 * d → ∃ ys : List ByteArray, ys.length = xs.length ∧ ys.take i = xs.take i ∧
    Ev (fun k => laws_markStringS.l0 k xs m (i : Int)) (m + 1 * d, ys) ∧ Ev (fun k => laws_heldStringS.l0 k ys m (i : Int)) (m + 1 * d) := by
  intro d
  induction d with
  | zero =>
    intro i xs m hi hn h0 h1
    exact ⟨xs, rfl, rfl, eround (fun k => by rw [laws_markStringS.l0]) (eneg (by omega) (enow (by simp))), eround (fun k => by rw [laws_heldStringS.l0]) (eneg (by omega) (enow (by simp)))⟩
  | succ d ih =>
    intro i xs m hi hn h0 h1
    have hlt : i < xs.length := by omega
    have w1 : wrap64 ((i : Int) + 1) = ((i + 1 : Nat) : Int) := by rw [w64 (by omega) (by omega)]; rfl
    have v0 : wrap64 (m + 1) = m + 1 := w64 (by omega) (by omega)
    obtain ⟨ys, hl, ht, hm, hh⟩ := ih (i + 1) (xs.set ((i : Int)).toNat (mtext m)) (m + 1) (by simp; omega) (by simpa using hn) (by omega) (by push_cast at h1; omega)
    have hlt' : i < ys.length := by rw [hl]; simpa using hlt
    have hy : ys[i] = (mtext m) := by
      have := congrArg (fun l => l[i]?) ht
      simp only [List.getElem?_take_of_lt (Nat.lt_succ_self i), List.getElem?_eq_getElem hlt'] at this
      rw [show ((i : Int)).toNat = i by simp, List.getElem?_set_self (by simpa using hlt)] at this
      exact Option.some.inj this
    refine ⟨ys, by rw [hl]; simp, ?_, ?_, ?_⟩
    · have := congrArg (List.take i) ht
      rw [List.take_take, List.take_take, Nat.min_eq_left (by omega)] at this
      rw [this]
      simp [List.take_set_of_le]
    · refine eround (fun k => by rw [laws_markStringS.l0]) (epos (by omega) ?_)
      try simp only [w1, v0]
      refine ebind (laws_markText_m _ (by omega) (by omega)) ?_
      refine epos (by omega) ?_
      refine enb rfl ?_
      try simp only [w1, v0]
      skip
      rw [show m + 1 * ((d + 1 : Nat) : Int) = m + 1 + 1 * (d : Int) by push_cast; omega]
      simpa using hm
    · refine eround (fun k => by rw [laws_heldStringS.l0]) (epos (by omega) (epos (by omega) ?_))
      have hr : ∀ z, ys.getD ((i : Int)).toNat z = ys[i] := fun z => getD_get ys i z hlt'
      try simp only [w1, v0]
      simp only [rd, rdOf, hr, hy]
      first | ((with_reducible refine ebind (laws_markText_m _ ?_ ?_) ?_); (focus omega); (focus omega)) | (repeat (first | refine epos trivial ?_ | (with_reducible refine epos rfl ?_) | (refine eneg ?_ ?_; focus (simp; done))); (with_reducible refine ebind (laws_markText_m _ ?_ ?_) ?_); (focus omega); (focus omega))
      repeat (first | refine epos trivial ?_ | refine epos rfl ?_ | (refine eneg ?_ ?_; focus (simp; done)))
      rw [show m + 1 * ((d + 1 : Nat) : Int) = m + 1 + 1 * (d : Int) by push_cast; omega]
      exact hh
theorem laws_markStringS_m (xs : List ByteArray) (m : Int) (hn : xs.length ≤ 1048576) (h0 : 0 ≤ m) (h1 : m ≤ 4611686018427387904 - 1 * xs.length) : ∃ ys : List ByteArray, ys.length = xs.length ∧ Ev (fun k => laws_markStringS.f k xs m) (m + 1 * xs.length, ys) ∧ Ev (fun k => laws_heldStringS.f k ys m) (m + 1 * xs.length) := by
  obtain ⟨ys, hl, _, h⟩ := laws_markStringS_h xs.length 0 xs m (by omega) hn h0 h1
  exact ⟨ys, hl, h⟩
/-! laws_markStringSS -/
theorem laws_markStringSS_h : ∀ (d i : Nat) (xs : List (List ByteArray)) (m : Int), i + d = xs.length → xs.length ≤ 1048576 → (∀ (j : Nat) (h : j < xs.length), i ≤ j → xs[j].length ≤ 1048576) → 0 ≤ m → m ≤ 4611686018427387904 - 1048576 * d → ∃ (ys : List (List ByteArray)) (t : Int), m ≤ t ∧ t ≤ m + 1048576 * d ∧ ys.length = xs.length ∧ ys.take i = xs.take i ∧ Ev (fun k => laws_markStringSS.l0 k xs m (i : Int)) (t, ys) ∧ Ev (fun k => laws_heldStringSS.l0 k ys m (i : Int)) t := by
  intro d
  induction d with
  | zero =>
    intro i xs m hi hn hs h0 h1
    exact ⟨xs, m, Int.le_refl _, by omega, rfl, rfl, eround (fun k => by rw [laws_markStringSS.l0]) (eneg (by omega) (enow rfl)), eround (fun k => by rw [laws_heldStringSS.l0]) (eneg (by omega) (enow rfl))⟩
  | succ d ih =>
    intro i xs m hi hn hs h0 h1
    have hlt : i < xs.length := by omega
    have w1 : wrap64 ((i : Int) + 1) = ((i + 1 : Nat) : Int) := by rw [w64 (by omega) (by omega)]; rfl
    have hb := hs i hlt (Nat.le_refl _)
    obtain ⟨zs, hz, m1, m2⟩ := laws_markStringS_m xs[i] m hb h0 (by push_cast at h1; omega)
    generalize he : m + 1 * (xs[i].length : Int) = m' at m1 m2
    obtain ⟨ys, t, t0, t1, hl, ht, hm, hh⟩ := ih (i + 1) (xs.set i zs) m' (by simp; omega) (by simpa using hn) (fun j h hj => by rw [List.getElem_set_ne (by omega)]; exact hs j (by simpa using h) (by omega)) (by omega) (by push_cast at h1; omega)
    have hmk : Ev (fun k => laws_markStringSS.l0 k xs m (i : Int)) (t, ys) := by
      refine eround (fun k => by rw [laws_markStringSS.l0]) (epos (by omega) (epos (by omega) ?_))
      rw [show laws_markStringSS.rd xs (i : Int) = xs[i] from getD_get xs i _ hlt]
      refine ebind m1 ?_
      rw [w1]
      exact hm
    have hlt' : i < ys.length := by rw [hl]; simpa using hlt
    have hy : ys[i] = zs := by
      have := congrArg (fun l => l[i]?) ht
      simp only [List.getElem?_take_of_lt (Nat.lt_succ_self i), List.getElem?_eq_getElem hlt'] at this
      rw [List.getElem?_set_self (by simpa using hlt)] at this
      exact Option.some.inj this
    refine ⟨ys, t, by omega, by push_cast; omega, by rw [hl]; simp, ?_, hmk, ?_⟩
    · have := congrArg (List.take i) ht
      rw [List.take_take, List.take_take, Nat.min_eq_left (by omega)] at this
      rw [this]
      simp [List.take_set_of_le]
    · refine eround (fun k => by rw [laws_heldStringSS.l0]) (epos (by omega) (epos (by omega) ?_))
      rw [show rd_L2 ys (i : Int) = ys[i] from getD_get ys i _ hlt', hy]
      refine ebind m2 (eneg (by omega) ?_)
      rw [w1]
      exact hh
theorem laws_markStringSS_m (xs : List (List ByteArray)) (m : Int) (hs : xs.length ≤ 1048576 ∧ ∀ y ∈ xs, y.length ≤ 1048576) (h0 : 0 ≤ m) (h1 : m ≤ 4611686018427387904 - 1048576 * xs.length) : ∃ (ys : List (List ByteArray)) (t : Int), m ≤ t ∧ t ≤ m + 1048576 * xs.length ∧ Ev (fun k => laws_markStringSS.f k xs m) (t, ys) ∧ Ev (fun k => laws_heldStringSS.f k ys m) t := by
  obtain ⟨ys, t, t0, t1, hl, h⟩ := laws_markStringSS_h xs.length 0 xs m (by omega) hs.1 (fun j h _ => hs.2 _ (List.getElem_mem h)) h0 h1
  exact ⟨ys, t, t0, t1, h.2⟩
/-! laws_markNet -/
theorem laws_markNet_m (l0_0 : List Int) (l0_1 : List (List ByteArray)) (l0_2 : List (List ByteArray)) (l0_3 : List (List ByteArray)) (a0_4 : Int) (m : Int) (hl0_0 : l0_0.length ≤ 1048576) (hl0_1 : (l0_1.length ≤ 1048576 ∧ ∀ y ∈ l0_1, y.length ≤ 1048576)) (hl0_2 : (l0_2.length ≤ 1048576 ∧ ∀ y ∈ l0_2, y.length ≤ 1048576)) (hl0_3 : (l0_3.length ≤ 1048576 ∧ ∀ y ∈ l0_3, y.length ≤ 1048576)) (h0 : 0 ≤ m) (h1 : m ≤ 2305843009213693952) : ∃ (yl0_0 : List Int) (yl0_1 : List (List ByteArray)) (yl0_2 : List (List ByteArray)) (yl0_3 : List (List ByteArray)) (t : Int), m ≤ t ∧ t ≤ m + 3298535931904 ∧ Ev (fun k => laws_markNet.f k l0_0 l0_1 l0_2 l0_3 a0_4 m) (t, yl0_0, yl0_1, yl0_2, yl0_3) ∧ Ev (fun k => laws_heldNet.f k yl0_0 yl0_1 yl0_2 yl0_3 a0_4 m) t := by
  have ll0_1 := hl0_1.1
  have ll0_2 := hl0_2.1
  have ll0_3 := hl0_3.1
  obtain ⟨yl0_0, _, e0, g0⟩ := laws_markIntS_m l0_0 m hl0_0 (by omega) (by omega)
  generalize z0 : m + 1 * (l0_0.length : Int) = t0 at e0 g0
  obtain ⟨yl0_1, t1, a1, b1, e1, g1⟩ := laws_markStringSS_m l0_1 t0 hl0_1 (by omega) (by omega)
  obtain ⟨yl0_2, t2, a2, b2, e2, g2⟩ := laws_markStringSS_m l0_2 t1 hl0_2 (by omega) (by omega)
  obtain ⟨yl0_3, t3, a3, b3, e3, g3⟩ := laws_markStringSS_m l0_3 t2 hl0_3 (by omega) (by omega)
  refine ⟨yl0_0, yl0_1, yl0_2, yl0_3, t3, by omega, by omega, ?_, ?_⟩
  · unfold laws_markNet.f
    exact ebind e0 (ebind e1 (ebind e2 (ebind e3 (enow rfl))))
  · unfold laws_heldNet.f
    repeat' first
    | exact enow rfl
    | (with_reducible refine ebind g0 ?_)
    | (with_reducible refine ebind g1 ?_)
    | (with_reducible refine ebind g2 ?_)
    | (with_reducible refine ebind g3 ?_)
    | (refine eneg ?_ ?_; focus omega)
def inR (lo hi x : Int) : Bool := decide (x ≥ lo) && decide (x ≤ hi)
theorem inR_iff {lo hi x : Int} : inR lo hi x = true ↔ lo ≤ x ∧ x ≤ hi := by simp [inR]
/-- all elements, each with its place, from place i on -/
def allI {α : Type} (p : Nat → α → Bool) : Nat → List α → Bool
  | _, [] => true
  | i, x :: xs => p i x && allI p (i + 1) xs
theorem allI_congr {α : Type} {p q : Nat → α → Bool} : ∀ (xs : List α) (i : Nat), (∀ j x, i ≤ j → j < i + xs.length → p j x = q j x) → allI p i xs = allI q i xs
  | [], _, _ => rfl
  | x :: xs, i, h => by
    simp only [allI]
    rw [h i x (Nat.le_refl _) (by simp), allI_congr xs (i + 1) (fun j y h1 h2 => h j y (by omega) (by simp only [List.length_cons]; omega))]
def onP (xs : List ByteArray) (i : Nat) (x : ByteArray) : Bool := decide ((x.size : Int) = 24) && (decide (i = 0) || Op.bytesLess (xs.getD (i - 1) ByteArray.empty).toList x.toList)
def onG (xs : List ByteArray) : Bool := allI (onP xs) 0 xs && decide ((xs.length : Int) ≤ 100)
def hasT (ys : List ByteArray) (x : ByteArray) : Bool := ys.any fun y => decide (y.toList = x.toList)
def boxP (b : List ByteArray) : Bool := b.all (fun x => inR 1 15 (x.size : Int)) && decide (b.length ≤ 60)
def relayP (outs : List (List ByteArray)) (i : Nat) (x : List ByteArray) : Bool := onG x && (onG (outs.getD i []) && x.all (hasT (outs.getD i [])))
def goodN (K : List Int) (ins outs boxes : List (List ByteArray)) (t : Int) : Bool := inR 1 4 (K.length : Int) && (K.all (inR 0 65535) && (decide ((ins.length : Int) = (K.length : Int)) && (decide ((outs.length : Int) = (K.length : Int)) && (decide ((boxes.length : Int) = 4) && (inR 0 60 t && (allI (relayP outs) 0 ins && boxes.all boxP))))))
def smallT (ps : List (List ByteArray)) : Prop := ps.length ≤ 1048576 ∧ ∀ p ∈ ps, p.length ≤ 1048576
theorem l1In_eq (a lo hi : Int) : spec_l1In.f a lo hi = some (inR lo hi a) := by
  unfold spec_l1In.f inR
  by_cases h : a ≥ lo <;> simp [h]
theorem l1All_l (xs : List Int) (lo up : Int) (hn : xs.length ≤ 9223372036854775807) : ∀ (d i : Nat), i + d = xs.length → Ev (fun k => spec_l1All.l0 k lo up xs (xs.length : Int) (i : Int)) ((xs.drop i).all (inR lo up)) := by
  intro d
  induction d with
  | zero =>
    intro i hi
    refine eround (fun k => by rw [spec_l1All.l0]) ?_
    refine eneg (by omega) (enow ?_)
    rw [List.drop_eq_nil_of_le (by omega)]; rfl
  | succ d ih =>
    intro i hi
    have hlt : i < xs.length := by omega
    refine eround (fun k => by rw [spec_l1All.l0]) ?_
    refine epos (by omega) (epos (by omega) (epos (by omega) ?_))
    rw [rd_get xs i hlt, List.drop_eq_getElem_cons hlt, List.all_cons]
    refine enb (l1In_eq _ _ _) ?_
    cases h : inR lo up xs[i] with
    | true =>
      refine epos rfl ?_
      rw [w64 (by omega) (by omega)]
      simpa using ih (i + 1) (by omega)
    | false => exact eneg (by simp) (enow (by simp))
theorem l1All_e (xs : List Int) (lo up : Int) (hn : xs.length ≤ 9223372036854775807) : Ev (fun k => spec_l1All.f k xs lo up) (xs.all (inR lo up)) :=
  l1All_l xs lo up hn xs.length 0 (by omega)
theorem specOn_l (xs : List ByteArray) (hn : xs.length ≤ 1048576) : ∀ (d i : Nat), i + d = xs.length → Ev (fun k => spec_l17Onions.l0 k xs xs (xs.length : Int) (i : Int)) (allI (onP xs) i (xs.drop i) && decide ((xs.length : Int) ≤ 100)) := by
  intro d
  induction d with
  | zero =>
    intro i hi
    refine eround (fun k => by rw [spec_l17Onions.l0]) (eneg (by omega) (enow ?_))
    rw [List.drop_eq_nil_of_le (by omega)]; rfl
  | succ d ih =>
    intro i hi
    have hlt : i < xs.length := by omega
    refine eround (fun k => by rw [spec_l17Onions.l0]) (epos (by omega) (epos (by omega) (epos (by omega) ?_)))
    rw [show rdOf ByteArray.empty xs (i : Int) = xs[i] from getD_get xs i _ hlt, List.drop_eq_getElem_cons hlt, w64 (x := (i : Int) + 1) (by omega) (by omega)]
    simp only [allI]
    by_cases h : (xs[i].size : Int) = 24
    · refine epos h ?_
      by_cases h0 : (i : Int) > 0
      · refine epos h0 ?_
        rw [w64 (x := (i : Int) - 1) (by omega) (by omega)]
        refine epos (by omega) (epos (by omega) ?_)
        have e : rdOf ByteArray.empty xs ((i : Int) - 1) = xs.getD (i - 1) ByteArray.empty := by
          unfold rdOf
          rw [show ((i : Int) - 1).toNat = i - 1 by omega]
        rw [e]
        have hi0 : ¬ i = 0 := by omega
        cases hb : Op.bytesLess (xs.getD (i - 1) ByteArray.empty).toList xs[i].toList with
        | true =>
          refine epos rfl ?_
          have hp : onP xs i xs[i] = true := by unfold onP; rw [hb]; simp [h]
          rw [hp, Bool.true_and]
          exact ih (i + 1) (by omega)
        | false =>
          have hp : onP xs i xs[i] = false := by unfold onP; rw [hb]; simp [hi0]
          exact eneg (by simp) (enow (by rw [hp]; rfl))
      · refine eneg h0 ?_
        have hi0 : i = 0 := by omega
        have hp : onP xs i xs[i] = true := by unfold onP; rw [decide_eq_true h, decide_eq_true hi0]; rfl
        rw [hp, Bool.true_and]
        exact ih (i + 1) (by omega)
    · have hp : onP xs i xs[i] = false := by unfold onP; simp [h]
      exact eneg h (enow (by rw [hp]; rfl))
theorem specOn_e (xs : List ByteArray) (hn : xs.length ≤ 1048576) : Ev (fun k => spec_l17Onions.f k xs) (onG xs) := specOn_l xs hn xs.length 0 (by omega)
theorem specHas_l (ys : List ByteArray) (x : ByteArray) (hn : ys.length ≤ 1048576) : ∀ (d i : Nat), i + d = ys.length → Ev (fun k => spec_l17Has.l0 k x ys (ys.length : Int) (i : Int)) (hasT (ys.drop i) x) := by
  intro d
  induction d with
  | zero =>
    intro i hi
    refine eround (fun k => by rw [spec_l17Has.l0]) (eneg (by omega) (enow ?_))
    rw [List.drop_eq_nil_of_le (by omega)]; rfl
  | succ d ih =>
    intro i hi
    have hlt : i < ys.length := by omega
    refine eround (fun k => by rw [spec_l17Has.l0]) (epos (by omega) (epos (by omega) (epos (by omega) ?_)))
    rw [show rdOf ByteArray.empty ys (i : Int) = ys[i] from getD_get ys i _ hlt, List.drop_eq_getElem_cons hlt, w64 (by omega) (by omega)]
    unfold hasT
    rw [List.any_cons]
    by_cases h : ys[i].toList = x.toList
    · exact epos h (enow (by simp [h]))
    · refine eneg h ?_
      rw [decide_eq_false h, Bool.false_or]
      exact ih (i + 1) (by omega)
theorem specHas_e (ys : List ByteArray) (x : ByteArray) (hn : ys.length ≤ 1048576) : Ev (fun k => spec_l17Has.f k ys x) (hasT ys x) := specHas_l ys x hn ys.length 0 (by omega)
theorem specNt_l3 (bs : List (List ByteArray)) (i : Nat) (b : List ByteArray) (hx : b.length ≤ 1048576) (R : Bool) (H : Ev (fun k => spec_GoodNet.l2 k bs (bs.length : Int) (wrap64 ((i : Int) + 1))) R) : ∀ (d j : Nat), j + d = b.length → Ev (fun k => spec_GoodNet.l3 k b bs (bs.length : Int) (i : Int) b (b.length : Int) (j : Int)) ((b.drop j).all (fun x => inR 1 15 (x.size : Int)) && (decide (b.length ≤ 60) && R)) := by
  intro d
  induction d with
  | zero =>
    intro j hj
    refine eround (fun k => by rw [spec_GoodNet.l3]) (eneg (by omega) ?_)
    rw [List.drop_eq_nil_of_le (by omega)]
    by_cases h : (b.length : Int) > 60
    · exact epos h (enow (by have : ¬ b.length ≤ 60 := by omega
                             simp [this]))
    · have h' : b.length ≤ 60 := by omega
      refine eneg h ?_
      simpa [h'] using H
  | succ d ih =>
    intro j hj
    have hlt : j < b.length := by omega
    refine eround (fun k => by rw [spec_GoodNet.l3]) (epos (by omega) (epos (by omega) (epos (by omega) ?_)))
    rw [show rdOf ByteArray.empty b (j : Int) = b[j] from getD_get b j _ hlt, List.drop_eq_getElem_cons hlt, List.all_cons]
    refine enb (l1In_eq _ _ _) ?_
    cases h : inR 1 15 (b[j].size : Int) with
    | true =>
      refine epos rfl ?_
      rw [w64 (x := (j : Int) + 1) (by omega) (by omega)]
      exact ih (j + 1) (by omega)
    | false => exact eneg (by simp) (enow (by simp))
theorem specNt_l2 (bs : List (List ByteArray)) (hb : smallT bs) : ∀ (d i : Nat), i + d = bs.length → Ev (fun k => spec_GoodNet.l2 k bs (bs.length : Int) (i : Int)) ((bs.drop i).all boxP) := by
  have hn := hb.1
  intro d
  induction d with
  | zero =>
    intro i hi
    refine eround (fun k => by rw [spec_GoodNet.l2]) (eneg (by omega) (enow ?_))
    rw [List.drop_eq_nil_of_le (by omega)]; rfl
  | succ d ih =>
    intro i hi
    have hlt : i < bs.length := by omega
    refine eround (fun k => by rw [spec_GoodNet.l2]) (epos (by omega) (epos (by omega) (epos (by omega) ?_)))
    rw [show rd_L2 bs (i : Int) = bs[i] from getD_get bs i _ hlt, List.drop_eq_getElem_cons hlt, List.all_cons]
    have hx := hb.2 _ (List.getElem_mem hlt)
    have := specNt_l3 bs i bs[i] hx _ (by rw [w64 (by omega) (by omega)]; exact ih (i + 1) (by omega)) bs[i].length 0 (by omega)
    unfold boxP
    rw [Bool.and_assoc]
    exact this
theorem specNt_l1 (K : List Int) (ins outs boxes : List (List ByteArray)) (t : Int) (i : Nat) (hi : i < ins.length) (hn : ins.length ≤ 1048576) (ho : i < outs.length) (hos : (outs.getD i []).length ≤ 1048576) (x : List ByteArray) (hx : x.length ≤ 1048576) (R : Bool) (H : Ev (fun k => spec_GoodNet.l0 k ins (ins.length : Int) (wrap64 ((i : Int) + 1)) K ins outs boxes t) R) :
    ∀ (d j : Nat), j + d = x.length → Ev (fun k => spec_GoodNet.l1 k (i : Int) ins (ins.length : Int) (i : Int) x (x.length : Int) (j : Int) K ins outs boxes t) ((x.drop j).all (hasT (outs.getD i [])) && R) := by
  intro d
  induction d with
  | zero =>
    intro j hj
    refine eround (fun k => by rw [spec_GoodNet.l1]) (eneg (by omega) ?_)
    rw [List.drop_eq_nil_of_le (by omega)]
    exact H
  | succ d ih =>
    intro j hj
    have hlt : j < x.length := by omega
    refine eround (fun k => by rw [spec_GoodNet.l1]) (epos (by omega) (epos (by omega) (epos (by omega) (epos (by omega) (epos (by omega) ?_)))))
    rw [show rdOf ByteArray.empty x (j : Int) = x[j] from getD_get x j _ hlt, List.drop_eq_getElem_cons hlt, List.all_cons, w64 (x := (j : Int) + 1) (by omega) (by omega), show rd_L2 outs (i : Int) = outs.getD i [] from by unfold rd_L2; rw [Int.toNat_natCast]]
    refine ebind (specHas_e _ _ hos) ?_
    cases hasT (outs.getD i []) x[j] with
    | true => exact epos rfl (by simpa using ih (j + 1) (by omega))
    | false => exact eneg (by simp) (enow (by simp))
theorem specNt_l0 (K : List Int) (ins outs boxes : List (List ByteArray)) (t : Int) (hi : smallT ins) (ho : smallT outs) (hb : smallT boxes) (hl : outs.length = ins.length) : ∀ (d i : Nat), i + d = ins.length → Ev (fun k => spec_GoodNet.l0 k ins (ins.length : Int) (i : Int) K ins outs boxes t) (allI (relayP outs) i (ins.drop i) && boxes.all boxP) := by
  have hn := hi.1
  intro d
  induction d with
  | zero =>
    intro i hd
    refine eround (fun k => by rw [spec_GoodNet.l0]) (eneg (by omega) ?_)
    rw [List.drop_eq_nil_of_le (by omega)]
    exact specNt_l2 boxes hb boxes.length 0 (by omega)
  | succ d ih =>
    intro i hd
    have hlt : i < ins.length := by omega
    refine eround (fun k => by rw [spec_GoodNet.l0]) (epos (by omega) (epos (by omega) (epos (by omega) ?_)))
    rw [show rd_L2 ins (i : Int) = ins[i] from getD_get ins i _ hlt, show rd_L2 outs (i : Int) = outs.getD i [] from by unfold rd_L2; rw [Int.toNat_natCast], List.drop_eq_getElem_cons hlt]
    have hx := hi.2 _ (List.getElem_mem hlt)
    generalize ins[i] = x at hx
    have hos : (outs.getD i []).length ≤ 1048576 := by
      rw [List.getD_eq_getElem?_getD, List.getElem?_eq_getElem (by omega)]
      exact ho.2 _ (List.getElem_mem _)
    have J : ∀ b, Ev (fun k => spec_GoodNet.j2 k (i : Int) x ins (ins.length : Int) (i : Int) b K ins outs boxes t) (!b && (x.all (hasT (outs.getD i [])) && (allI (relayP outs) (i + 1) (ins.drop (i + 1)) && boxes.all boxP))) := by
      intro b
      refine eround (fun k => by rw [spec_GoodNet.j2]) ?_
      cases b with
      | true => exact epos rfl (enow rfl)
      | false =>
        refine eneg (by simp) ?_
        have := specNt_l1 K ins outs boxes t i hlt hn (by omega) hos x hx _ (by rw [w64 (by omega) (by omega)]; exact ih (i + 1) (by omega)) x.length 0 (by omega)
        exact this
    simp only [allI, relayP]
    refine ebind (specOn_e x hx) ?_
    cases h1 : onG x with
    | false => refine eneg (by simp) ?_; simpa using J true
    | true =>
      refine epos rfl (epos (by omega) (ebind (specOn_e _ hos) ?_))
      have := J (!onG (outs.getD i []))
      rw [Bool.not_not] at this
      rw [Bool.true_and, Bool.and_assoc, Bool.and_assoc]
      exact this
theorem specNt_j0 (K : List Int) (ins outs boxes : List (List ByteArray)) (t : Int) (hi : smallT ins) (ho : smallT outs) (hb : smallT boxes) (b : Bool) (hl : b = false → outs.length = ins.length) : Ev (fun k => spec_GoodNet.j0 k b K ins outs boxes t) (!b && (allI (relayP outs) 0 ins && boxes.all boxP)) := by
  refine eround (fun k => by rw [spec_GoodNet.j0]) ?_
  cases b with
  | true => exact epos rfl (enow rfl)
  | false => exact eneg (by simp) (specNt_l0 K ins outs boxes t hi ho hb (hl rfl) ins.length 0 (by omega))
theorem specNt_e (K : List Int) (ins outs boxes : List (List ByteArray)) (t : Int) (hK : K.length ≤ 1048576) (hi : smallT ins) (ho : smallT outs) (hb : smallT boxes) : Ev (fun k => spec_GoodNet.f k K ins outs boxes t) (goodN K ins outs boxes t) := by
  have J := specNt_j0 K ins outs boxes t hi ho hb
  unfold spec_GoodNet.f goodN
  refine enb (l1In_eq _ _ _) ?_
  cases h1 : inR 1 4 (K.length : Int) with
  | false => refine eneg (by simp) ?_; simpa using J true (by simp)
  | true =>
    have h1' := inR_iff.1 h1
    refine epos rfl (ebind (l1All_e K 0 65535 (by omega)) ?_)
    cases h2 : K.all (inR 0 65535) with
    | false => refine eneg (by simp) ?_; simpa using J true (by simp)
    | true =>
      refine epos rfl ?_
      by_cases h3 : (ins.length : Int) = (K.length : Int)
      · refine epos h3 ?_
        by_cases h4 : (outs.length : Int) = (K.length : Int)
        · refine epos h4 ?_
          by_cases h5 : (boxes.length : Int) = 4
          · refine epos h5 (enb (l1In_eq _ _ _) ?_)
            have := J (!inR 0 60 t) (fun _ => by omega)
            simpa [h3, h4, h5] using this
          · refine eneg h5 ?_; simpa [h5] using J true (by simp)
        · refine eneg h4 ?_; simpa [h4] using J true (by simp)
      · refine eneg h3 ?_; simpa [h3] using J true (by simp)
theorem within_eq (a lo hi : Int) : impl_within.f a lo hi = some (inR lo hi a) := by
  unfold impl_within.f inR
  by_cases h : a ≥ lo <;> simp [h]
theorem allWithin_l (xs : List Int) (lo up : Int) (hn : xs.length ≤ 9223372036854775807) : ∀ (d i : Nat), i + d = xs.length → Ev (fun k => impl_allWithin.l0 k lo up xs (xs.length : Int) (i : Int)) ((xs.drop i).all (inR lo up)) := by
  intro d
  induction d with
  | zero =>
    intro i hi
    refine eround (fun k => by rw [impl_allWithin.l0]) ?_
    refine eneg (by omega) (enow ?_)
    rw [List.drop_eq_nil_of_le (by omega)]; rfl
  | succ d ih =>
    intro i hi
    have hlt : i < xs.length := by omega
    refine eround (fun k => by rw [impl_allWithin.l0]) ?_
    refine epos (by omega) (epos (by omega) (epos (by omega) ?_))
    rw [rd_get xs i hlt, List.drop_eq_getElem_cons hlt, List.all_cons]
    refine enb (within_eq _ _ _) ?_
    cases h : inR lo up xs[i] with
    | true =>
      refine epos rfl ?_
      rw [w64 (by omega) (by omega)]
      simpa using ih (i + 1) (by omega)
    | false => exact eneg (by simp) (enow (by simp))
theorem allWithin_e (xs : List Int) (lo up : Int) (hn : xs.length ≤ 9223372036854775807) : Ev (fun k => impl_allWithin.f k xs lo up) (xs.all (inR lo up)) :=
  allWithin_l xs lo up hn xs.length 0 (by omega)
theorem keys_e (K : List Int) (h : K.length ≤ 8) : Ev (fun k => impl_areKeys.f k K) (K.all (inR 0 65535)) := by
  unfold impl_areKeys.f
  exact epos (by omega) (ebind (allWithin_e K 0 65535 (by omega)) (enow rfl))
def newNR (K : List Int) : List Int × List (List ByteArray) × List (List ByteArray) × List (List ByteArray) × Int × Bool := if (inR 1 4 (K.length : Int) && K.all (inR 0 65535)) = true then (K, List.replicate K.length [], List.replicate K.length [], List.replicate 4 [], 0, true) else ([], [], [], [], 0, false)
theorem smallT_rep (n : Nat) (hn : n ≤ 1048576) : smallT (List.replicate n []) := ⟨by rw [List.length_replicate]; exact hn, fun p hp => by rw [(List.mem_replicate.1 hp).2]; simp⟩
theorem onG_nil : onG [] = true := rfl
theorem relay_rep (n : Nat) : ∀ (m i : Nat), allI (relayP (List.replicate n [])) i (List.replicate m []) = true
  | 0, _ => rfl
  | m + 1, i => by
    have e : (List.replicate n ([] : List ByteArray)).getD i [] = [] := by
      rw [List.getD_eq_getElem?_getD, List.getElem?_replicate]
      split <;> rfl
    rw [List.replicate_succ, allI, relay_rep n m (i + 1), relayP, e, onG_nil]
    rfl
theorem goodN_new (K : List Int) : goodN K (List.replicate K.length []) (List.replicate K.length []) (List.replicate 4 []) 0 = (inR 1 4 (K.length : Int) && K.all (inR 0 65535)) := by
  unfold goodN
  rw [relay_rep, List.length_replicate, List.length_replicate, show inR 0 60 0 = true from by decide, show (List.replicate 4 ([] : List ByteArray)).all boxP = true from rfl]
  simp
theorem specNN_e (K : List Int) (hn : K.length ≤ 1048576) : Ev (fun k => spec_NewNet.f k K) (newNR K) := by
  unfold spec_NewNet.f newNR
  refine epos hn (ebind (specNt_e K _ _ _ 0 hn (smallT_rep _ hn) (smallT_rep _ hn) (smallT_rep 4 (by decide))) ?_)
  rw [goodN_new]
  cases (inR 1 4 (K.length : Int) && K.all (inR 0 65535)) with
  | true => exact enow rfl
  | false => exact enow rfl
theorem implNN_e (K : List Int) (hn : K.length ≤ 1048576) : Ev (fun k => impl_NewNet.f k K) (newNR K) := by
  unfold impl_NewNet.f newNR
  refine enb (within_eq _ _ _) ?_
  cases h : inR 1 4 (K.length : Int) with
  | false => exact eneg (by decide) (enow rfl)
  | true =>
    have h' := inR_iff.1 h
    refine epos rfl (ebind (keys_e K (by omega)) ?_)
    cases K.all (inR 0 65535) with
    | false => exact eneg (by decide) (enow rfl)
    | true => exact epos rfl (epos hn (enow rfl))
theorem newNR_small (K : List Int) (hn : K.length ≤ 1048576) : (newNR K).1.length ≤ 1048576 ∧ smallT (newNR K).2.1 ∧ smallT (newNR K).2.2.1 ∧ smallT (newNR K).2.2.2.1 := by
  have h0 : smallT [] := ⟨by simp, fun _ h => by cases h⟩
  unfold newNR
  split
  · exact ⟨hn, smallT_rep _ hn, smallT_rep _ hn, smallT_rep 4 (by decide)⟩
  · exact ⟨by simp, h0, h0, h0⟩
theorem FnExactNewNet : laws_FnExactNewNet.Pure := by
  intro xs _ _ _
  apply Ev.rounds
  unfold laws_FnExactNewNet.f
  by_cases hb : (xs.length : Int) > 1048576
  · exact epos hb (enow rfl)
  refine eneg hb ?_
  have hn : xs.length ≤ 1048576 := by omega
  have e1 := laws_toIntS_e xs hn
  have e2 := specNN_e xs hn
  have e3 := implNN_e xs hn
  obtain ⟨s0, s1, s2, s3⟩ := newNR_small xs hn
  have e5 := laws_eqIntS_r xs hn
  obtain ⟨_, _, q2, _⟩ := laws_markIntS_m xs 1 hn (by omega) (by omega)
  generalize newNR xs = N at *
  obtain ⟨n1, n2, n3, n4, n5, n6⟩ := N
  have e4 := laws_eqNet_r n1 n2 n3 n4 n5 s0 s1 s2 s3
  obtain ⟨_, _, _, _, t, t0, t1, q4, q5⟩ := laws_markNet_m n1 n2 n3 n4 n5 1 s0 s1 s2 s3 (by omega) (by omega)
  exact ebind e1 (ebind e2 (ebind e1 (ebind e3 (ebind e4 (epos ⟨rfl, rfl⟩ (ebind e5 (epos rfl (ebind q2 (epos (by omega) (ebind q4 (ebind q5 (epos ⟨by omega, rfl⟩ (enow rfl)))))))))))))

end Go.Proofs.Ytbgoddobpdcjbaa.Pure
