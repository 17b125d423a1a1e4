/- The law FnExactPlainInbox, told over lists: the program's PlainInbox and the reference's answer alike; nothing is written into an argument. No condition. -/
import Derived.Test.YtonejnaanklfjaaQFnExactPlainInboxx5
import Derived.Test.YtonejnaanklfjaaPk
namespace Go.Proofs.Ytonejnaanklfjaa.Pure
open Go.RowKit Go.Proofs.Ytonejnaanklfjaa.QFnExactPlainInbox Go.Proofs.YtonejnaanklfjaaW.PrintWords Go.Proofs.YtonejnaanklfjaaW.PrintLast Go.Proofs.YtonejnaanklfjaaW.PrintMore Go.Proofs.Ytonejnaanklfjaa
set_option linter.unusedVariables false
set_option linter.unusedSimpArgs false

open Pk
theorem laws_markText_l : ∀ (n : Nat) (m : Int) (x : ByteArray), m ≤ n → (x.size : Int) + m ≤ 4611686018427387904 → 0 ≤ m → ∃ t, Ev (fun k => laws_markText.l0 k m x) t := by
  intro n
  induction n with
  | zero =>
    intro m x h h1 h0
    have : x.size + 1 ≤ 9223372036854775807 := by omega
    exact ⟨_, eround (fun k => by rw [laws_markText.l0]) (eneg (by omega) (epos (by omega) (enow rfl)))⟩
  | succ n ih =>
    intro m x h h1 h0
    by_cases hm : m > 0
    · have hs : ∀ d : Int, (strOfNums [d]).size = 1 := fun d => by simp [strOfNums, ByteArray.size]
      have e : Int.tdiv m 10 = m / 10 := Int.tdiv_eq_ediv_of_nonneg h0
      obtain ⟨t, ht⟩ := ih (m / 10) (strOfNums [(wrap64 (48 + (Int.tmod m 10))) % 256] ++ x) (by omega) (by rw [ByteArray.size_append, hs]; push_cast; omega) (by omega)
      refine ⟨t, eround (fun k => by rw [laws_markText.l0]) (epos hm ?_)⟩
      refine enb rfl ?_
      refine epos (by rw [hs]; omega) ?_
      rw [e, w64 (by omega) (by omega)]
      exact ht
    · have : x.size + 1 ≤ 9223372036854775807 := by omega
      exact ⟨_, eround (fun k => by rw [laws_markText.l0]) (eneg (by omega) (epos (by omega) (enow rfl)))⟩
noncomputable def mtext (m : Int) : ByteArray := theEv ByteArray.empty (fun k => laws_markText.f k m)
theorem laws_markText_m (m : Int) (h0 : 0 ≤ m) (h1 : m ≤ 4611686018427387904) : Ev (fun k => laws_markText.f k m) (mtext m) := by
  have : ∃ t, Ev (fun k => laws_markText.f k m) t := by
    unfold laws_markText.f
    by_cases h : m ≤ 0
    · exact ⟨_, epos h (enow rfl)⟩
    · obtain ⟨t, ht⟩ := laws_markText_l m.toNat m ⟨#[]⟩ (by omega) (by simp [ByteArray.size]; omega) h0
      exact ⟨t, eneg h ht⟩
  obtain ⟨t, ht⟩ := this
  exact theEv_of ht
/-! laws_szNetStep -/
theorem laws_szNetStep_z (a0_0 : Int) (a0_1 : Int) (a0_2 : ByteArray) (m : Int) (h0 : 0 ≤ m) (h1 : m ≤ 1048576) (hw : a0_2.size ≤ 9223372036854775807) : ∃ r, r ≤ m ∧ laws_szNetStep.f a0_0 a0_1 a0_2 m = some r ∧ (0 ≤ r → True) := by
  unfold laws_szNetStep.f
  rw [w64 (by omega) (by omega)]
  by_cases h : m - (a0_2.size : Int) < 0
  · exact ⟨-1, by omega, if_pos h, fun _ => trivial⟩
  · exact ⟨_, by omega, if_neg h, fun _ => trivial⟩
/-! laws_szNetStepS -/
theorem laws_szNetStepS_l (xs : List S132) (hw : xs.length ≤ 9223372036854775807 ∧ ∀ y ∈ xs, y.f2.size ≤ 9223372036854775807) : ∀ (d i : Nat) (m : Int), i + d = xs.length → 0 ≤ m → m ≤ 1048576 → ∃ r, r ≤ m ∧ Ev (fun k => laws_szNetStepS.l0 k xs m (i : Int)) r ∧ (0 ≤ r → ∀ y ∈ xs.drop i, True) := by
  have hn := hw.1
  intro d
  induction d with
  | zero =>
    intro i m hi h0 h1
    exact ⟨m, Int.le_refl _, eround (fun k => by rw [laws_szNetStepS.l0]) (eneg (by omega) (enow rfl)), fun _ y hy => by rw [List.drop_eq_nil_of_le (by omega)] at hy; simp at hy⟩
  | succ d ih =>
    intro i m hi h0 h1
    have hlt : i < xs.length := by omega
    have hg : rd_T132 xs (i : Int) = xs[i] := getD_get xs i _ hlt
    have hy := hw.2 _ (List.getElem_mem hlt)
    obtain ⟨t, t1, t2, t3⟩ := laws_szNetStep_z xs[i].f0 xs[i].f1 xs[i].f2 m h0 h1 hy
    by_cases ht : t < 0
    · refine ⟨-1, by omega, eround (fun k => by rw [laws_szNetStepS.l0]) (epos (by omega) (epos (by omega) ?_)), fun h => by omega⟩
      rw [hg]
      exact enb t2 (epos ht (enow rfl))
    · obtain ⟨r, r1, r2, r3⟩ := ih (i + 1) t (by omega) (by omega) (by omega)
      refine ⟨r, by omega, eround (fun k => by rw [laws_szNetStepS.l0]) (epos (by omega) (epos (by omega) ?_)), fun h y hy' => ?_⟩
      · rw [hg, w64 (x := (i : Int) + 1) (by omega) (by omega)]
        refine enb t2 (eneg ht ?_)
        exact r2
      · rw [List.drop_eq_getElem_cons hlt] at hy'
        rcases List.mem_cons.1 hy' with rfl | hy'
        · exact t3 (by omega)
        · exact r3 h y hy'
theorem laws_szNetStepS_z (xs : List S132) (m : Int) (h0 : 0 ≤ m) (h1 : m ≤ 1048576) (hw : xs.length ≤ 9223372036854775807 ∧ ∀ y ∈ xs, y.f2.size ≤ 9223372036854775807) : ∃ r, r ≤ m ∧ Ev (fun k => laws_szNetStepS.f k xs m) r ∧ (0 ≤ r → xs.length ≤ 1048576) := by
  have hn := hw.1
  unfold laws_szNetStepS.f
  rw [w64 (by omega) (by omega)]
  by_cases h : m - (xs.length : Int) < 0
  · exact ⟨-1, by omega, epos h (enow rfl), fun h => by omega⟩
  · obtain ⟨r, r1, r2, r3⟩ := laws_szNetStepS_l xs hw xs.length 0 (m - xs.length) (by omega) (by omega) (by omega)
    exact ⟨r, by omega, eneg h r2, fun h => by omega⟩
/-! laws_toNetStep -/
theorem laws_toNetStep_e (a0_0 : Int) (a0_1 : Int) (a0_2 : ByteArray) : laws_toNetStep.f a0_0 a0_1 a0_2 = some (a0_0, a0_1, a0_2) := rfl
/-! laws_toNetStepS -/
theorem laws_toNetStepS_l (xs : List S132) (hs : xs.length ≤ 1048576) : ∀ (d i : Nat) (acc : List S133), i + d = xs.length → acc.length = xs.length → acc.take i = (xs.map fun x => (⟨x.f0, x.f1, x.f2⟩ : S133)).take i → Ev (fun k => laws_toNetStepS.l0 k xs acc (i : Int)) (xs.map fun x => (⟨x.f0, x.f1, x.f2⟩ : S133)) := by
  have hn := hs
  intro d
  induction d with
  | zero =>
    intro i acc hi hl ht
    refine eround (fun k => by rw [laws_toNetStepS.l0]) (eneg (by omega) (enow ?_))
    rwa [List.take_of_length_le (by omega), List.take_of_length_le (by first | omega | (simp; omega))] at ht
  | succ d ih =>
    intro i acc hi hl ht
    have hlt : i < xs.length := by omega
    refine eround (fun k => by rw [laws_toNetStepS.l0]) (epos (by omega) (epos (by omega) ?_))
    refine enb rfl (epos (by omega) ?_)
    rw [w64 (by omega) (by omega)]
    refine ih (i + 1) _ (by omega) (by simpa using hl) ?_
    exact take_set_succ _ _ rfl (by first | exact hlt | (simp; omega)) (by first | exact hl | simpa using hl) ht (by first | exact (getD_get xs i _ hlt).symm | (simp only [List.getElem_map]; rw [← getD_get xs i _ hlt]; rfl))
theorem laws_toNetStepS_e (xs : List S132) (hs : xs.length ≤ 1048576) : Ev (fun k => laws_toNetStepS.f k xs) (xs.map fun x => (⟨x.f0, x.f1, x.f2⟩ : S133)) := by
  have hn := hs
  unfold laws_toNetStepS.f
  exact epos (by omega) (epos (by omega) (laws_toNetStepS_l xs hs xs.length 0 _ (by omega) (by simp) (by simp)))
/-! laws_toBoolS -/
theorem laws_toBoolS_l (xs : List Bool) (hs : xs.length ≤ 1048576) : ∀ (d i : Nat) (acc : List Bool), i + d = xs.length → acc.length = xs.length → acc.take i = xs.take i → Ev (fun k => laws_toBoolS.l0 k xs acc (i : Int)) xs := by
  have hn := hs
  intro d
  induction d with
  | zero =>
    intro i acc hi hl ht
    refine eround (fun k => by rw [laws_toBoolS.l0]) (eneg (by omega) (enow ?_))
    rwa [List.take_of_length_le (by omega), List.take_of_length_le (by first | omega | (simp; omega))] at ht
  | succ d ih =>
    intro i acc hi hl ht
    have hlt : i < xs.length := by omega
    refine eround (fun k => by rw [laws_toBoolS.l0]) (epos (by omega) (epos (by omega) ?_))
    refine epos (by omega) ?_
    rw [w64 (by omega) (by omega)]
    refine ih (i + 1) _ (by omega) (by simpa using hl) ?_
    exact take_set_succ _ _ rfl (by first | exact hlt | (simp; omega)) (by first | exact hl | simpa using hl) ht (by first | exact (getD_get xs i _ hlt).symm | (simp only [List.getElem_map]; rw [← getD_get xs i _ hlt]; rfl))
theorem laws_toBoolS_e (xs : List Bool) (hs : xs.length ≤ 1048576) : Ev (fun k => laws_toBoolS.f k xs) xs := by
  have hn := hs
  unfold laws_toBoolS.f
  exact epos (by omega) (epos (by omega) (laws_toBoolS_l xs hs xs.length 0 _ (by omega) (by simp) (by simp)))
/-! laws_eqStringS -/
theorem laws_eqStringS_lr (xs : List ByteArray) (hs : xs.length ≤ 1048576) : ∀ (d i : Nat), i + d = xs.length → Ev (fun k => laws_eqStringS.l0 k xs xs (i : Int)) true := by
  have hn := hs
  intro d
  induction d with
  | zero =>
    intro i hi
    exact eround (fun k => by rw [laws_eqStringS.l0]) (eneg (by omega) (enow rfl))
  | succ d ih =>
    intro i hi
    have hlt : i < xs.length := by omega
    refine eround (fun k => by rw [laws_eqStringS.l0]) (epos (by omega) (epos (by omega) (epos (by omega) ?_)))
    first | refine epos rfl ?_ | (refine eneg ?_ ?_; focus (simp; done))
    rw [w64 (by omega) (by omega)]
    exact ih (i + 1) (by omega)
theorem laws_eqStringS_r (xs : List ByteArray) (hs : xs.length ≤ 1048576) : Ev (fun k => laws_eqStringS.f k xs xs) true := by
  unfold laws_eqStringS.f
  exact epos rfl (laws_eqStringS_lr xs hs xs.length 0 (by omega))
/-! laws_eqNetStep -/
theorem laws_eqNetStep_r (a0_0 : Int) (a0_1 : Int) (a0_2 : ByteArray) : laws_eqNetStep.f a0_0 a0_1 a0_2 a0_0 a0_1 a0_2 = some true := by
  unfold laws_eqNetStep.f
  simp
/-! laws_eqNetStepS -/
theorem laws_eqNetStepS_lr (xs : List S133) (hs : xs.length ≤ 1048576) : ∀ (d i : Nat), i + d = xs.length → Ev (fun k => laws_eqNetStepS.l0 k xs xs (i : Int)) true := by
  have hn := hs
  intro d
  induction d with
  | zero =>
    intro i hi
    exact eround (fun k => by rw [laws_eqNetStepS.l0]) (eneg (by omega) (enow rfl))
  | succ d ih =>
    intro i hi
    have hlt : i < xs.length := by omega
    refine eround (fun k => by rw [laws_eqNetStepS.l0]) (epos (by omega) (epos (by omega) (epos (by omega) ?_)))
    refine enb (laws_eqNetStep_r _ _ _) (epos rfl ?_)
    rw [w64 (by omega) (by omega)]
    exact ih (i + 1) (by omega)
theorem laws_eqNetStepS_r (xs : List S133) (hs : xs.length ≤ 1048576) : Ev (fun k => laws_eqNetStepS.f k xs xs) true := by
  unfold laws_eqNetStepS.f
  exact epos rfl (laws_eqNetStepS_lr xs hs xs.length 0 (by omega))
/-! laws_eqBoolS -/
theorem laws_eqBoolS_lr (xs : List Bool) (hs : xs.length ≤ 1048576) : ∀ (d i : Nat), i + d = xs.length → Ev (fun k => laws_eqBoolS.l0 k xs xs (i : Int)) true := by
  have hn := hs
  intro d
  induction d with
  | zero =>
    intro i hi
    exact eround (fun k => by rw [laws_eqBoolS.l0]) (eneg (by omega) (enow rfl))
  | succ d ih =>
    intro i hi
    have hlt : i < xs.length := by omega
    refine eround (fun k => by rw [laws_eqBoolS.l0]) (epos (by omega) (epos (by omega) (epos (by omega) ?_)))
    first | refine epos rfl ?_ | (refine eneg ?_ ?_; focus (simp; done))
    rw [w64 (by omega) (by omega)]
    exact ih (i + 1) (by omega)
theorem laws_eqBoolS_r (xs : List Bool) (hs : xs.length ≤ 1048576) : Ev (fun k => laws_eqBoolS.f k xs xs) true := by
  unfold laws_eqBoolS.f
  exact epos rfl (laws_eqBoolS_lr xs hs xs.length 0 (by omega))
/-! laws_markNetStepS -/
theorem laws_markNetStepS_o : ∀ (d i : Nat) (xs : List S133) (m : Int), i + d = xs.length → xs.length ≤ 1048576 → 0 ≤ m → m ≤ 4611686018427387904 - 3 * d → ∃ ys : List S133, Ev (fun k => laws_markNetStepS.l0 k xs m (i : Int)) (m + 3 * d, ys) := by
  intro d
  induction d with
  | zero =>
    intro i xs m hi hn h0 h1
    exact ⟨xs, eround (fun k => by rw [laws_markNetStepS.l0]) (eneg (by omega) (enow (by simp)))⟩
  | succ d ih =>
    intro i xs m hi hn h0 h1
    have w1 : wrap64 ((i : Int) + 1) = ((i + 1 : Nat) : Int) := by rw [w64 (by omega) (by omega)]; rfl
    have v0 : wrap64 (m + 1) = m + 1 := w64 (by omega) (by omega)
    have v1 : wrap64 (m + 1 + 1) = m + 2 := by rw [w64 (by omega) (by omega)]; omega
    have v2 : wrap64 (m + 2 + 1) = m + 3 := by rw [w64 (by omega) (by omega)]; omega
    have hr : ∃ zs : List S133, zs.length = xs.length ∧ ∀ r, Ev (fun k => laws_markNetStepS.l0 k zs (m + 3) ((i + 1 : Nat) : Int)) r → Ev (fun k => laws_markNetStepS.l0 k xs m (i : Int)) r := by
      apply Exists.intro
      apply And.intro
      rotate_left
      · intro r hz
        refine eround (fun k => by rw [laws_markNetStepS.l0]) (epos (by omega) ?_)
        try simp only [w1, v0, v1, v2]
        refine epos (by omega) ?_
        refine enb rfl ?_
        refine enb rfl ?_
        refine ebind (laws_markText_m _ (by omega) (by omega)) ?_
        refine enb rfl ?_
        try simp only [w1, v0, v1, v2]
        exact hz
      · simp
    obtain ⟨zs, hz, hr⟩ := hr
    obtain ⟨ys, hy⟩ := ih (i + 1) zs (m + 3) (by omega) (by omega) (by omega) (by push_cast at h1; omega)
    refine ⟨ys, hr _ ?_⟩
    rw [show m + 3 * ((d + 1 : Nat) : Int) = m + 3 + 3 * (d : Int) by push_cast; omega]
    exact hy
theorem laws_markNetStepS_m (xs : List S133) (m : Int) (hn : xs.length ≤ 1048576) (h0 : 0 ≤ m) (h1 : m ≤ 4611686018427387904 - 3 * xs.length) : ∃ ys : List S133, Ev (fun k => laws_markNetStepS.f k xs m) (m + 3 * xs.length, ys) :=
  laws_markNetStepS_o xs.length 0 xs m (by omega) hn h0 h1
/-! laws_markBoolS -/
theorem laws_markBoolS_o : ∀ (d i : Nat) (xs : List Bool) (m : Int), i + d = xs.length → xs.length ≤ 1048576 → 0 ≤ m → m ≤ 4611686018427387904 - 1 * d → ∃ ys : List Bool, Ev (fun k => laws_markBoolS.l0 k xs m (i : Int)) (m + 1 * d, ys) := by
  intro d
  induction d with
  | zero =>
    intro i xs m hi hn h0 h1
    exact ⟨xs, eround (fun k => by rw [laws_markBoolS.l0]) (eneg (by omega) (enow (by simp)))⟩
  | succ d ih =>
    intro i xs m hi hn h0 h1
    have w1 : wrap64 ((i : Int) + 1) = ((i + 1 : Nat) : Int) := by rw [w64 (by omega) (by omega)]; rfl
    have v0 : wrap64 (m + 1) = m + 1 := w64 (by omega) (by omega)
    have hr : ∃ zs : List Bool, zs.length = xs.length ∧ ∀ r, Ev (fun k => laws_markBoolS.l0 k zs (m + 1) ((i + 1 : Nat) : Int)) r → Ev (fun k => laws_markBoolS.l0 k xs m (i : Int)) r := by
      apply Exists.intro
      apply And.intro
      rotate_left
      · intro r hz
        refine eround (fun k => by rw [laws_markBoolS.l0]) (epos (by omega) ?_)
        try simp only [w1, v0]
        refine epos (by omega) ?_
        refine enb rfl ?_
        try simp only [w1, v0]
        exact hz
      · simp
    obtain ⟨zs, hz, hr⟩ := hr
    obtain ⟨ys, hy⟩ := ih (i + 1) zs (m + 1) (by omega) (by omega) (by omega) (by push_cast at h1; omega)
    refine ⟨ys, hr _ ?_⟩
    rw [show m + 1 * ((d + 1 : Nat) : Int) = m + 1 + 1 * (d : Int) by push_cast; omega]
    exact hy
theorem laws_markBoolS_m (xs : List Bool) (m : Int) (hn : xs.length ≤ 1048576) (h0 : 0 ≤ m) (h1 : m ≤ 4611686018427387904 - 1 * xs.length) : ∃ ys : List Bool, Ev (fun k => laws_markBoolS.f k xs m) (m + 1 * xs.length, ys) :=
  laws_markBoolS_o xs.length 0 xs m (by omega) hn h0 h1
/-! laws_markStringS -/
theorem laws_markStringS_h : ∀ (d i : Nat) (xs : List ByteArray) (m : Int), i + d = xs.length → xs.length ≤ 1048576 → 0 ≤ m → m ≤ 4611686018427387904 - 1 * d → ∃ ys : List ByteArray, ys.length = xs.length ∧ ys.take i = xs.take i ∧
    Ev (fun k => laws_markStringS.l0 k xs m (i : Int)) (m + 1 * d, ys) ∧ Ev (fun k => laws_heldStringS.l0 k ys m (i : Int)) (m + 1 * d) := by
  intro d
  induction d with
  | zero =>
    intro i xs m hi hn h0 h1
    exact ⟨xs, rfl, rfl, eround (fun k => by rw [laws_markStringS.l0]) (eneg (by omega) (enow (by simp))), eround (fun k => by rw [laws_heldStringS.l0]) (eneg (by omega) (enow (by simp)))⟩
  | succ d ih =>
    intro i xs m hi hn h0 h1
    have hlt : i < xs.length := by omega
    have w1 : wrap64 ((i : Int) + 1) = ((i + 1 : Nat) : Int) := by rw [w64 (by omega) (by omega)]; rfl
    have v0 : wrap64 (m + 1) = m + 1 := w64 (by omega) (by omega)
    obtain ⟨ys, hl, ht, hm, hh⟩ := ih (i + 1) (xs.set ((i : Int)).toNat (mtext m)) (m + 1) (by simp; omega) (by simpa using hn) (by omega) (by push_cast at h1; omega)
    have hlt' : i < ys.length := by rw [hl]; simpa using hlt
    have hy : ys[i] = (mtext m) := by
      have := congrArg (fun l => l[i]?) ht
      simp only [List.getElem?_take_of_lt (Nat.lt_succ_self i), List.getElem?_eq_getElem hlt'] at this
      rw [show ((i : Int)).toNat = i by simp, List.getElem?_set_self (by simpa using hlt)] at this
      exact Option.some.inj this
    refine ⟨ys, by rw [hl]; simp, ?_, ?_, ?_⟩
    · have := congrArg (List.take i) ht
      rw [List.take_take, List.take_take, Nat.min_eq_left (by omega)] at this
      rw [this]
      simp [List.take_set_of_le]
    · refine eround (fun k => by rw [laws_markStringS.l0]) (epos (by omega) ?_)
      try simp only [w1, v0]
      refine ebind (laws_markText_m _ (by omega) (by omega)) ?_
      refine epos (by omega) ?_
      refine enb rfl ?_
      try simp only [w1, v0]
      skip
      rw [show m + 1 * ((d + 1 : Nat) : Int) = m + 1 + 1 * (d : Int) by push_cast; omega]
      simpa using hm
    · refine eround (fun k => by rw [laws_heldStringS.l0]) (epos (by omega) (epos (by omega) ?_))
      have hr : ∀ z, ys.getD ((i : Int)).toNat z = ys[i] := fun z => getD_get ys i z hlt'
      try simp only [w1, v0]
      simp only [rd, rdOf, hr, hy]
      first | ((with_reducible refine ebind (laws_markText_m _ ?_ ?_) ?_); (focus omega); (focus omega)) | (repeat (first | refine epos trivial ?_ | (with_reducible refine epos rfl ?_) | (refine eneg ?_ ?_; focus (simp; done))); (with_reducible refine ebind (laws_markText_m _ ?_ ?_) ?_); (focus omega); (focus omega))
      repeat (first | refine epos trivial ?_ | refine epos rfl ?_ | (refine eneg ?_ ?_; focus (simp; done)))
      rw [show m + 1 * ((d + 1 : Nat) : Int) = m + 1 + 1 * (d : Int) by push_cast; omega]
      exact hh
theorem laws_markStringS_m (xs : List ByteArray) (m : Int) (hn : xs.length ≤ 1048576) (h0 : 0 ≤ m) (h1 : m ≤ 4611686018427387904 - 1 * xs.length) : ∃ ys : List ByteArray, ys.length = xs.length ∧ Ev (fun k => laws_markStringS.f k xs m) (m + 1 * xs.length, ys) ∧ Ev (fun k => laws_heldStringS.f k ys m) (m + 1 * xs.length) := by
  obtain ⟨ys, hl, _, h⟩ := laws_markStringS_h xs.length 0 xs m (by omega) hn h0 h1
  exact ⟨ys, hl, h⟩
def inR (lo hi x : Int) : Bool := decide (x ≥ lo) && decide (x ≤ hi)
theorem inR_iff {lo hi x : Int} : inR lo hi x = true ↔ lo ≤ x ∧ x ≤ hi := by simp [inR]
theorem l1In_eq (a lo hi : Int) : spec_l1In.f a lo hi = some (inR lo hi a) := by
  unfold spec_l1In.f inR
  by_cases h : a ≥ lo <;> simp [h]
theorem within_eq (a lo hi : Int) : impl_within.f a lo hi = some (inR lo hi a) := by
  unfold impl_within.f inR
  by_cases h : a ≥ lo <;> simp [h]
def plainF (u : Int) : List S133 → List Bool → List ByteArray
  | x :: xs, b :: bs => (if b = true ∧ x.f0 = 1 ∧ x.f1 = u then [x.f2] else []) ++ plainF u xs bs
  | _, _ => []
def plainR (xs : List S133) (bs : List Bool) (u : Int) : List ByteArray × Bool := if xs.length ≤ 60 ∧ xs.length = bs.length ∧ inR 0 3 u = true then (plainF u xs bs, true) else ([], false)
theorem plainF_len (u : Int) : ∀ (xs : List S133) (bs : List Bool), (plainF u xs bs).length ≤ xs.length
  | [], _ => by simp [plainF]
  | _ :: _, [] => by simp [plainF]
  | x :: xs, b :: bs => by
    have := plainF_len u xs bs
    simp only [plainF, List.length_append, List.length_cons]
    split <;> simp <;> omega
theorem plainR_len (xs : List S133) (bs : List Bool) (u : Int) : (plainR xs bs u).1.length ≤ xs.length := by
  unfold plainR
  split
  · exact plainF_len u xs bs
  · simp
theorem specPI_l (u : Int) (xs : List S133) (bs : List Bool) (hl : xs.length = bs.length) (hn : xs.length ≤ 1048576) : ∀ (d i : Nat) (out : List ByteArray), i + d = xs.length → out.length ≤ i → Ev (fun k => spec_PlainInbox.l0 k bs u out xs (xs.length : Int) (i : Int)) (out ++ plainF u (xs.drop i) (bs.drop i), true) := by
  intro d
  induction d with
  | zero =>
    intro i out hi ho
    refine eround (fun k => by rw [spec_PlainInbox.l0]) (eneg (by omega) (enow ?_))
    rw [List.drop_eq_nil_of_le (show xs.length ≤ i by omega)]
    simp [plainF]
  | succ d ih =>
    intro i out hi ho
    have hlt : i < xs.length := by omega
    have hlt' : i < bs.length := by omega
    refine eround (fun k => by rw [spec_PlainInbox.l0]) (epos (by omega) (epos (by omega) (epos (by omega) (epos (by omega) ?_))))
    rw [show rd_T133 xs (i : Int) = xs[i] from getD_get xs i _ hlt, show rdOf false bs (i : Int) = bs[i] from getD_get bs i _ hlt', List.drop_eq_getElem_cons hlt, List.drop_eq_getElem_cons hlt', w64 (x := (i : Int) + 1) (by omega) (by omega)]
    simp only [plainF]
    cases hb : bs[i] with
    | false =>
      refine eneg (by simp) ?_
      simpa using ih (i + 1) out (by omega) (by omega)
    | true =>
      refine epos rfl ?_
      by_cases h1 : xs[i].f0 = 1
      · refine epos h1 ?_
        by_cases h2 : xs[i].f1 = u
        · refine epos h2 (epos (by omega) ?_)
          rw [if_pos ⟨rfl, h1, h2⟩]
          have := ih (i + 1) (out ++ [xs[i].f2]) (by omega) (by simp; omega)
          rw [List.append_assoc] at this
          exact this
        · refine eneg h2 ?_
          rw [if_neg (fun h => h2 h.2.2)]
          exact ih (i + 1) out (by omega) (by omega)
      · refine eneg h1 ?_
        rw [if_neg (fun h => h1 h.2.1)]
        exact ih (i + 1) out (by omega) (by omega)
theorem implPI_l (u : Int) (xs : List S133) (bs : List Bool) (hl : xs.length = bs.length) (hn : xs.length ≤ 1048576) : ∀ (d i : Nat) (out : List ByteArray), i + d = xs.length → out.length ≤ i → Ev (fun k => impl_PlainInbox.l0 k bs u out xs (xs.length : Int) (i : Int)) (out ++ plainF u (xs.drop i) (bs.drop i), true) := by
  intro d
  induction d with
  | zero =>
    intro i out hi ho
    refine eround (fun k => by rw [impl_PlainInbox.l0]) (eneg (by omega) (enow ?_))
    rw [List.drop_eq_nil_of_le (show xs.length ≤ i by omega)]
    simp [plainF]
  | succ d ih =>
    intro i out hi ho
    have hlt : i < xs.length := by omega
    have hlt' : i < bs.length := by omega
    refine eround (fun k => by rw [impl_PlainInbox.l0]) (epos (by omega) (epos (by omega) (epos (by omega) (epos (by omega) ?_))))
    rw [show rd_T133 xs (i : Int) = xs[i] from getD_get xs i _ hlt, show rdOf false bs (i : Int) = bs[i] from getD_get bs i _ hlt', List.drop_eq_getElem_cons hlt, List.drop_eq_getElem_cons hlt', w64 (x := (i : Int) + 1) (by omega) (by omega)]
    simp only [plainF]
    cases hb : bs[i] with
    | false =>
      refine eneg (by simp) ?_
      simpa using ih (i + 1) out (by omega) (by omega)
    | true =>
      refine epos rfl ?_
      by_cases h1 : xs[i].f0 = 1
      · refine epos h1 ?_
        by_cases h2 : xs[i].f1 = u
        · refine epos h2 (epos (by omega) ?_)
          rw [if_pos ⟨rfl, h1, h2⟩]
          have := ih (i + 1) (out ++ [xs[i].f2]) (by omega) (by simp; omega)
          rw [List.append_assoc] at this
          exact this
        · refine eneg h2 ?_
          rw [if_neg (fun h => h2 h.2.2)]
          exact ih (i + 1) out (by omega) (by omega)
      · refine eneg h1 ?_
        rw [if_neg (fun h => h1 h.2.1)]
        exact ih (i + 1) out (by omega) (by omega)
theorem specPI_e (xs : List S133) (bs : List Bool) (u : Int) (hn : xs.length ≤ 1048576) (hm : bs.length ≤ 1048576) : Ev (fun k => spec_PlainInbox.f k xs bs u) (plainR xs bs u) := by
  unfold spec_PlainInbox.f plainR
  by_cases h : xs.length ≤ 60
  · refine eneg (by omega) ?_
    by_cases h2 : xs.length = bs.length
    · refine epos (by omega) (enb (l1In_eq _ _ _) (eround (fun k => by rw [spec_PlainInbox.j0]) ?_))
      cases h3 : inR 0 3 u with
      | false => exact epos (by simp) (enow (by simp))
      | true =>
        refine eneg (by simp) ?_
        rw [if_pos ⟨h, h2, rfl⟩]
        exact specPI_l u xs bs h2 hn xs.length 0 [] (by omega) (by simp)
    · refine eneg (by omega) (eround (fun k => by rw [spec_PlainInbox.j0]) (epos rfl (enow (by simp [h2]))))
  · exact epos (by omega) (eround (fun k => by rw [spec_PlainInbox.j0]) (epos rfl (enow (by simp [h]))))
theorem implPI_e (xs : List S133) (bs : List Bool) (u : Int) (hn : xs.length ≤ 1048576) (hm : bs.length ≤ 1048576) : Ev (fun k => impl_PlainInbox.f k xs bs u) (plainR xs bs u) := by
  unfold impl_PlainInbox.f plainR
  by_cases h : xs.length ≤ 60
  · refine eneg (by omega) ?_
    by_cases h2 : xs.length = bs.length
    · refine epos (by omega) (enb (within_eq _ _ _) (eround (fun k => by rw [impl_PlainInbox.j0]) ?_))
      cases h3 : inR 0 3 u with
      | false => exact epos (by simp) (enow (by simp))
      | true =>
        refine eneg (by simp) ?_
        rw [if_pos ⟨h, h2, rfl⟩]
        exact implPI_l u xs bs h2 hn xs.length 0 [] (by omega) (by simp)
    · refine eneg (by omega) (eround (fun k => by rw [impl_PlainInbox.j0]) (epos rfl (enow (by simp [h2]))))
  · exact epos (by omega) (eround (fun k => by rw [impl_PlainInbox.j0]) (epos rfl (enow (by simp [h]))))
theorem FnExactPlainInbox : laws_FnExactPlainInbox.Pure := by
  intro l bs u h g _
  apply Ev.rounds
  unfold laws_FnExactPlainInbox.f
  by_cases hb : bs.length ≤ 1048576
  · refine eneg (by omega) ?_
    obtain ⟨r, r1, r2, r3⟩ := laws_szNetStepS_z l 1048576 (by omega) (by omega) ⟨h.1, fun y hy => (h.2 y hy).2.2⟩
    refine ebind r2 ?_
    by_cases hr : r < 0
    · exact epos hr (enow rfl)
    · refine eneg hr ?_
      have hl := r3 (by omega)
      have e1 := laws_toNetStepS_e l hl
      generalize hx : (l.map fun x => (⟨x.f0, x.f1, x.f2⟩ : S133)) = xs at e1
      have hxl : xs.length ≤ 1048576 := by rw [← hx]; simpa using hl
      have e2 := laws_toBoolS_e bs hb
      have hR : (plainR xs bs u).1.length ≤ 1048576 := Nat.le_trans (plainR_len xs bs u) hxl
      have e3 := specPI_e xs bs u hxl hb
      have e4 := implPI_e xs bs u hxl hb
      have e5 := laws_eqStringS_r _ hR
      have e6 := laws_eqNetStepS_r xs hxl
      have e7 := laws_eqBoolS_r bs hb
      obtain ⟨_, q1⟩ := laws_markNetStepS_m xs 1 hxl (by omega) (by omega)
      obtain ⟨_, q2⟩ := laws_markBoolS_m bs (1 + 3 * xs.length) hb (by omega) (by omega)
      obtain ⟨_, _, q3, q4⟩ := laws_markStringS_m (plainR xs bs u).1 1 hR (by omega) (by omega)
      repeat' first
        | exact enow rfl
        | (with_reducible refine ebind e1 ?_)
        | (with_reducible refine ebind e2 ?_)
        | (with_reducible refine ebind e3 ?_)
        | (with_reducible refine ebind e4 ?_)
        | (with_reducible refine ebind e5 ?_)
        | (with_reducible refine ebind e6 ?_)
        | (with_reducible refine ebind e7 ?_)
        | (with_reducible refine ebind q1 ?_)
        | (with_reducible refine ebind q2 ?_)
        | (with_reducible refine ebind q3 ?_)
        | (with_reducible refine ebind q4 ?_)
        | (with_reducible refine enb (laws_toNetStep_e _ _ _) ?_)
        | (with_reducible refine eround (fun k => laws_FnExactPlainInbox.j0.eq_2 _ _ _ _ _ _ _ _ _ _ _) ?_)
        | (with_reducible refine eround (fun k => laws_FnExactPlainInbox.j1.eq_2 _ _ _ _ _ _ _ _) ?_)
        | (with_reducible refine eround (fun k => laws_FnExactPlainInbox.j2.eq_2 _ _ _ _) ?_)
        | (with_reducible refine enb rfl ?_)
        | (with_reducible refine epos rfl ?_)
        | (refine eneg ?_ ?_; focus (first | omega | (dsimp only; omega) | (simp; done) | (simp; omega)))
  · exact epos (by omega) (enow rfl)

end Go.Proofs.Ytonejnaanklfjaa.Pure
