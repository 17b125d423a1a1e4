/- The law FnExactInboxOf, told over lists: the program's InboxOf and the reference's answer alike; nothing is written into an argument; what is made owns its memory. No condition. -/
import Derived.Test.YtmhdjkbfghfajaaQFnExactInboxOfx8
import Derived.Test.YtmhdjkbfghfajaaPk
namespace Go.Proofs.Ytmhdjkbfghfajaa.Pure
open Go.RowKit Go.Proofs.Ytmhdjkbfghfajaa.QFnExactInboxOf Go.Proofs.YtmhdjkbfghfajaaW.PrintWords Go.Proofs.YtmhdjkbfghfajaaW.PrintLast Go.Proofs.YtmhdjkbfghfajaaW.PrintMore Go.Proofs.Ytmhdjkbfghfajaa
set_option linter.unusedVariables false
set_option linter.unusedSimpArgs false

open Pk
theorem laws_markText_l : ∀ (n : Nat) (m : Int) (x : ByteArray), m ≤ n → (x.size : Int) + m ≤ 4611686018427387904 → 0 ≤ m → ∃ t, Ev (fun k => laws_markText.l0 k m x) t := by
  intro n
  induction n with
  | zero =>
    intro m x h h1 h0
    have : x.size + 1 ≤ 9223372036854775807 := by omega
    exact ⟨_, eround (fun k => by rw [laws_markText.l0]) (eneg (by omega) (epos (by omega) (enow rfl)))⟩
  | succ n ih =>
    intro m x h h1 h0
    by_cases hm : m > 0
    · have hs : ∀ d : Int, (strOfNums [d]).size = 1 := fun d => by simp [strOfNums, ByteArray.size]
      have e : Int.tdiv m 10 = m / 10 := Int.tdiv_eq_ediv_of_nonneg h0
      obtain ⟨t, ht⟩ := ih (m / 10) (strOfNums [(wrap64 (48 + (Int.tmod m 10))) % 256] ++ x) (by omega) (by rw [ByteArray.size_append, hs]; push_cast; omega) (by omega)
      refine ⟨t, eround (fun k => by rw [laws_markText.l0]) (epos hm ?_)⟩
      refine enb rfl ?_
      refine epos (by rw [hs]; omega) ?_
      rw [e, w64 (by omega) (by omega)]
      exact ht
    · have : x.size + 1 ≤ 9223372036854775807 := by omega
      exact ⟨_, eround (fun k => by rw [laws_markText.l0]) (eneg (by omega) (epos (by omega) (enow rfl)))⟩
noncomputable def mtext (m : Int) : ByteArray := theEv ByteArray.empty (fun k => laws_markText.f k m)
theorem laws_markText_m (m : Int) (h0 : 0 ≤ m) (h1 : m ≤ 4611686018427387904) : Ev (fun k => laws_markText.f k m) (mtext m) := by
  have : ∃ t, Ev (fun k => laws_markText.f k m) t := by
    unfold laws_markText.f
    by_cases h : m ≤ 0
    · exact ⟨_, epos h (enow rfl)⟩
    · obtain ⟨t, ht⟩ := laws_markText_l m.toNat m ⟨#[]⟩ (by omega) (by simp [ByteArray.size]; omega) h0
      exact ⟨t, eneg h ht⟩
  obtain ⟨t, ht⟩ := this
  exact theEv_of ht
/-! laws_szIntS -/
theorem laws_szIntS_z (xs : List Int) (m : Int) (h0 : 0 ≤ m) (h1 : m ≤ 1048576) (hw : xs.length ≤ 9223372036854775807) : ∃ r, r ≤ m ∧ laws_szIntS.f xs m = some r ∧ (0 ≤ r → xs.length ≤ 1048576) := by
  unfold laws_szIntS.f
  rw [w64 (by omega) (by omega)]
  by_cases h : m - (xs.length : Int) < 0
  · exact ⟨-1, by omega, if_pos h, fun h => by omega⟩
  · exact ⟨_, by omega, if_neg h, fun _ => by omega⟩
/-! laws_szStringS -/
theorem laws_szStringS_l (xs : List ByteArray) (hw : xs.length ≤ 9223372036854775807 ∧ ∀ y ∈ xs, y.size ≤ 9223372036854775807) : ∀ (d i : Nat) (m : Int), i + d = xs.length → 0 ≤ m → m ≤ 1048576 → ∃ r, r ≤ m ∧ Ev (fun k => laws_szStringS.l0 k xs m (i : Int)) r ∧ (0 ≤ r → ∀ y ∈ xs.drop i, True) := by
  have hn := hw.1
  intro d
  induction d with
  | zero =>
    intro i m hi h0 h1
    exact ⟨m, Int.le_refl _, eround (fun k => by rw [laws_szStringS.l0]) (eneg (by omega) (enow rfl)), fun _ y hy => by rw [List.drop_eq_nil_of_le (by omega)] at hy; simp at hy⟩
  | succ d ih =>
    intro i m hi h0 h1
    have hlt : i < xs.length := by omega
    have hg : rdOf ByteArray.empty xs (i : Int) = xs[i] := getD_get xs i _ hlt
    have hy := hw.2 _ (List.getElem_mem hlt)
    have t1 : m - (xs[i].size : Int) ≤ m := by omega
    have t3 : 0 ≤ m - (xs[i].size : Int) → True := fun _ => trivial
    generalize hq : m - (xs[i].size : Int) = t at t1 t3
    by_cases ht : t < 0
    · refine ⟨-1, by omega, eround (fun k => by rw [laws_szStringS.l0]) (epos (by omega) (epos (by omega) ?_)), fun h => by omega⟩
      rw [hg]
      rw [w64 (x := m - (xs[i].size : Int)) (by omega) (by omega), hq]
      exact epos ht (enow rfl)
    · obtain ⟨r, r1, r2, r3⟩ := ih (i + 1) t (by omega) (by omega) (by omega)
      refine ⟨r, by omega, eround (fun k => by rw [laws_szStringS.l0]) (epos (by omega) (epos (by omega) ?_)), fun h y hy' => ?_⟩
      · rw [hg, w64 (x := (i : Int) + 1) (by omega) (by omega)]
        rw [w64 (x := m - (xs[i].size : Int)) (by omega) (by omega), hq]
        refine eneg ht ?_
        exact r2
      · rw [List.drop_eq_getElem_cons hlt] at hy'
        rcases List.mem_cons.1 hy' with rfl | hy'
        · exact t3 (by omega)
        · exact r3 h y hy'
theorem laws_szStringS_z (xs : List ByteArray) (m : Int) (h0 : 0 ≤ m) (h1 : m ≤ 1048576) (hw : xs.length ≤ 9223372036854775807 ∧ ∀ y ∈ xs, y.size ≤ 9223372036854775807) : ∃ r, r ≤ m ∧ Ev (fun k => laws_szStringS.f k xs m) r ∧ (0 ≤ r → xs.length ≤ 1048576) := by
  have hn := hw.1
  unfold laws_szStringS.f
  rw [w64 (by omega) (by omega)]
  by_cases h : m - (xs.length : Int) < 0
  · exact ⟨-1, by omega, epos h (enow rfl), fun h => by omega⟩
  · obtain ⟨r, r1, r2, r3⟩ := laws_szStringS_l xs hw xs.length 0 (m - xs.length) (by omega) (by omega) (by omega)
    exact ⟨r, by omega, eneg h r2, fun h => by omega⟩
/-! laws_szStringSS -/
theorem laws_szStringSS_l (xs : List (List ByteArray)) (hw : xs.length ≤ 9223372036854775807 ∧ ∀ y ∈ xs, y.length ≤ 9223372036854775807 ∧ ∀ z ∈ y, z.size ≤ 9223372036854775807) : ∀ (d i : Nat) (m : Int), i + d = xs.length → 0 ≤ m → m ≤ 1048576 → ∃ r, r ≤ m ∧ Ev (fun k => laws_szStringSS.l0 k xs m (i : Int)) r ∧ (0 ≤ r → ∀ y ∈ xs.drop i, y.length ≤ 1048576) := by
  have hn := hw.1
  intro d
  induction d with
  | zero =>
    intro i m hi h0 h1
    exact ⟨m, Int.le_refl _, eround (fun k => by rw [laws_szStringSS.l0]) (eneg (by omega) (enow rfl)), fun _ y hy => by rw [List.drop_eq_nil_of_le (by omega)] at hy; simp at hy⟩
  | succ d ih =>
    intro i m hi h0 h1
    have hlt : i < xs.length := by omega
    have hg : rd_L2 xs (i : Int) = xs[i] := getD_get xs i _ hlt
    have hy := hw.2 _ (List.getElem_mem hlt)
    obtain ⟨t, t1, t2, t3⟩ := laws_szStringS_z xs[i] m h0 h1 hy
    by_cases ht : t < 0
    · refine ⟨-1, by omega, eround (fun k => by rw [laws_szStringSS.l0]) (epos (by omega) (epos (by omega) ?_)), fun h => by omega⟩
      rw [hg]
      exact ebind t2 (epos ht (enow rfl))
    · obtain ⟨r, r1, r2, r3⟩ := ih (i + 1) t (by omega) (by omega) (by omega)
      refine ⟨r, by omega, eround (fun k => by rw [laws_szStringSS.l0]) (epos (by omega) (epos (by omega) ?_)), fun h y hy' => ?_⟩
      · rw [hg, w64 (x := (i : Int) + 1) (by omega) (by omega)]
        refine ebind t2 (eneg ht ?_)
        exact r2
      · rw [List.drop_eq_getElem_cons hlt] at hy'
        rcases List.mem_cons.1 hy' with rfl | hy'
        · exact t3 (by omega)
        · exact r3 h y hy'
theorem laws_szStringSS_z (xs : List (List ByteArray)) (m : Int) (h0 : 0 ≤ m) (h1 : m ≤ 1048576) (hw : xs.length ≤ 9223372036854775807 ∧ ∀ y ∈ xs, y.length ≤ 9223372036854775807 ∧ ∀ z ∈ y, z.size ≤ 9223372036854775807) : ∃ r, r ≤ m ∧ Ev (fun k => laws_szStringSS.f k xs m) r ∧ (0 ≤ r → xs.length ≤ 1048576 ∧ ∀ y ∈ xs, y.length ≤ 1048576) := by
  have hn := hw.1
  unfold laws_szStringSS.f
  rw [w64 (by omega) (by omega)]
  by_cases h : m - (xs.length : Int) < 0
  · exact ⟨-1, by omega, epos h (enow rfl), fun h => by omega⟩
  · obtain ⟨r, r1, r2, r3⟩ := laws_szStringSS_l xs hw xs.length 0 (m - xs.length) (by omega) (by omega) (by omega)
    exact ⟨r, by omega, eneg h r2, fun h => ⟨by omega, fun y hy => r3 h y hy⟩⟩
/-! laws_szNet -/
theorem laws_szNet_z (l0_0 : List Int) (l0_1 : List (List ByteArray)) (l0_2 : List (List ByteArray)) (l0_3 : List (List ByteArray)) (a0_4 : Int) (m : Int) (h0 : 0 ≤ m) (h1 : m ≤ 1048576) (hwl0_0 : l0_0.length ≤ 9223372036854775807) (hwl0_1 : l0_1.length ≤ 9223372036854775807 ∧ ∀ y ∈ l0_1, y.length ≤ 9223372036854775807 ∧ ∀ z ∈ y, z.size ≤ 9223372036854775807) (hwl0_2 : l0_2.length ≤ 9223372036854775807 ∧ ∀ y ∈ l0_2, y.length ≤ 9223372036854775807 ∧ ∀ z ∈ y, z.size ≤ 9223372036854775807) (hwl0_3 : l0_3.length ≤ 9223372036854775807 ∧ ∀ y ∈ l0_3, y.length ≤ 9223372036854775807 ∧ ∀ z ∈ y, z.size ≤ 9223372036854775807) : ∃ r, r ≤ m ∧ Ev (fun k => laws_szNet.f k l0_0 l0_1 l0_2 l0_3 a0_4 m) r ∧ (0 ≤ r → (l0_0.length ≤ 1048576) ∧ (l0_1.length ≤ 1048576 ∧ ∀ y ∈ l0_1, y.length ≤ 1048576) ∧ (l0_2.length ≤ 1048576 ∧ ∀ y ∈ l0_2, y.length ≤ 1048576) ∧ (l0_3.length ≤ 1048576 ∧ ∀ y ∈ l0_3, y.length ≤ 1048576)) := by
  unfold laws_szNet.f
  obtain ⟨r0, l0, e0, c0⟩ := laws_szIntS_z l0_0 m (by omega) (by omega) hwl0_0
  by_cases z0 : r0 < 0
  · exact ⟨-1, by omega, (enb e0 (epos z0 (enow rfl))), fun h => by omega⟩
  obtain ⟨r1, l1, e1, c1⟩ := laws_szStringSS_z l0_1 r0 (by omega) (by omega) hwl0_1
  by_cases z1 : r1 < 0
  · exact ⟨-1, by omega, (enb e0 (eneg z0 (ebind e1 (epos z1 (enow rfl))))), fun h => by omega⟩
  obtain ⟨r2, l2, e2, c2⟩ := laws_szStringSS_z l0_2 r1 (by omega) (by omega) hwl0_2
  by_cases z2 : r2 < 0
  · exact ⟨-1, by omega, (enb e0 (eneg z0 (ebind e1 (eneg z1 (ebind e2 (epos z2 (enow rfl))))))), fun h => by omega⟩
  obtain ⟨r3, l3, e3, c3⟩ := laws_szStringSS_z l0_3 r2 (by omega) (by omega) hwl0_3
  by_cases z3 : r3 < 0
  · exact ⟨-1, by omega, (enb e0 (eneg z0 (ebind e1 (eneg z1 (ebind e2 (eneg z2 (ebind e3 (epos z3 (enow rfl))))))))), fun h => by omega⟩
  exact ⟨r3, by omega, (enb e0 (eneg z0 (ebind e1 (eneg z1 (ebind e2 (eneg z2 (ebind e3 (eneg z3 (enow rfl))))))))), fun _ => ⟨c0 (by omega), c1 (by omega), c2 (by omega), c3 (by omega)⟩⟩
/-! laws_toIntS -/
theorem laws_toIntS_l (xs : List Int) (hs : xs.length ≤ 1048576) : ∀ (d i : Nat) (acc : List Int), i + d = xs.length → acc.length = xs.length → acc.take i = xs.take i → Ev (fun k => laws_toIntS.l0 k xs acc (i : Int)) xs := by
  have hn := hs
  intro d
  induction d with
  | zero =>
    intro i acc hi hl ht
    refine eround (fun k => by rw [laws_toIntS.l0]) (eneg (by omega) (enow ?_))
    rwa [List.take_of_length_le (by omega), List.take_of_length_le (by first | omega | (simp; omega))] at ht
  | succ d ih =>
    intro i acc hi hl ht
    have hlt : i < xs.length := by omega
    refine eround (fun k => by rw [laws_toIntS.l0]) (epos (by omega) (epos (by omega) ?_))
    refine epos (by omega) ?_
    rw [w64 (by omega) (by omega)]
    refine ih (i + 1) _ (by omega) (by simpa using hl) ?_
    exact take_set_succ _ _ rfl (by first | exact hlt | (simp; omega)) (by first | exact hl | simpa using hl) ht (by first | exact (getD_get xs i _ hlt).symm | (simp only [List.getElem_map]; rw [← getD_get xs i _ hlt]; rfl))
theorem laws_toIntS_e (xs : List Int) (hs : xs.length ≤ 1048576) : Ev (fun k => laws_toIntS.f k xs) xs := by
  have hn := hs
  unfold laws_toIntS.f
  exact epos (by omega) (epos (by omega) (laws_toIntS_l xs hs xs.length 0 _ (by omega) (by simp) (by simp)))
/-! laws_toStringS -/
theorem laws_toStringS_l (xs : List ByteArray) (hs : xs.length ≤ 1048576) : ∀ (d i : Nat) (acc : List ByteArray), i + d = xs.length → acc.length = xs.length → acc.take i = xs.take i → Ev (fun k => laws_toStringS.l0 k xs acc (i : Int)) xs := by
  have hn := hs
  intro d
  induction d with
  | zero =>
    intro i acc hi hl ht
    refine eround (fun k => by rw [laws_toStringS.l0]) (eneg (by omega) (enow ?_))
    rwa [List.take_of_length_le (by omega), List.take_of_length_le (by first | omega | (simp; omega))] at ht
  | succ d ih =>
    intro i acc hi hl ht
    have hlt : i < xs.length := by omega
    refine eround (fun k => by rw [laws_toStringS.l0]) (epos (by omega) (epos (by omega) ?_))
    refine epos (by omega) ?_
    rw [w64 (by omega) (by omega)]
    refine ih (i + 1) _ (by omega) (by simpa using hl) ?_
    exact take_set_succ _ _ rfl (by first | exact hlt | (simp; omega)) (by first | exact hl | simpa using hl) ht (by first | exact (getD_get xs i _ hlt).symm | (simp only [List.getElem_map]; rw [← getD_get xs i _ hlt]; rfl))
theorem laws_toStringS_e (xs : List ByteArray) (hs : xs.length ≤ 1048576) : Ev (fun k => laws_toStringS.f k xs) xs := by
  have hn := hs
  unfold laws_toStringS.f
  exact epos (by omega) (epos (by omega) (laws_toStringS_l xs hs xs.length 0 _ (by omega) (by simp) (by simp)))
/-! laws_toStringSS -/
theorem laws_toStringSS_l (xs : List (List ByteArray)) (hs : (xs.length ≤ 1048576 ∧ ∀ y ∈ xs, y.length ≤ 1048576)) : ∀ (d i : Nat) (acc : List (List ByteArray)), i + d = xs.length → acc.length = xs.length → acc.take i = xs.take i → Ev (fun k => laws_toStringSS.l0 k xs acc (i : Int)) xs := by
  have hn := hs.1
  intro d
  induction d with
  | zero =>
    intro i acc hi hl ht
    refine eround (fun k => by rw [laws_toStringSS.l0]) (eneg (by omega) (enow ?_))
    rwa [List.take_of_length_le (by omega), List.take_of_length_le (by first | omega | (simp; omega))] at ht
  | succ d ih =>
    intro i acc hi hl ht
    have hlt : i < xs.length := by omega
    refine eround (fun k => by rw [laws_toStringSS.l0]) (epos (by omega) (epos (by omega) ?_))
    refine ebind (laws_toStringS_e _ (by show (xs.getD ((i : Int)).toNat []).length ≤ _; rw [getD_get xs i _ hlt]; exact hs.2 _ (List.getElem_mem hlt))) (epos (by omega) ?_)
    rw [w64 (by omega) (by omega)]
    refine ih (i + 1) _ (by omega) (by simpa using hl) ?_
    exact take_set_succ _ _ rfl (by first | exact hlt | (simp; omega)) (by first | exact hl | simpa using hl) ht (by first | exact (getD_get xs i _ hlt).symm | (simp only [List.getElem_map]; rw [← getD_get xs i _ hlt]; rfl))
theorem laws_toStringSS_e (xs : List (List ByteArray)) (hs : (xs.length ≤ 1048576 ∧ ∀ y ∈ xs, y.length ≤ 1048576)) : Ev (fun k => laws_toStringSS.f k xs) xs := by
  have hn := hs.1
  unfold laws_toStringSS.f
  exact epos (by omega) (epos (by omega) (laws_toStringSS_l xs hs xs.length 0 _ (by omega) (by simp) (by simp)))
/-! laws_toNet -/
theorem laws_toNet_e (l0_0 : List Int) (l0_1 : List (List ByteArray)) (l0_2 : List (List ByteArray)) (l0_3 : List (List ByteArray)) (a0_4 : Int) (hl0_0 : l0_0.length ≤ 1048576) (hl0_1 : (l0_1.length ≤ 1048576 ∧ ∀ y ∈ l0_1, y.length ≤ 1048576)) (hl0_2 : (l0_2.length ≤ 1048576 ∧ ∀ y ∈ l0_2, y.length ≤ 1048576)) (hl0_3 : (l0_3.length ≤ 1048576 ∧ ∀ y ∈ l0_3, y.length ≤ 1048576)) : Ev (fun k => laws_toNet.f k l0_0 l0_1 l0_2 l0_3 a0_4) (l0_0, l0_1, l0_2, l0_3, a0_4) := by
  unfold laws_toNet.f
  exact ebind (laws_toIntS_e l0_0 hl0_0) (ebind (laws_toStringSS_e l0_1 hl0_1) (ebind (laws_toStringSS_e l0_2 hl0_2) (ebind (laws_toStringSS_e l0_3 hl0_3) (enow rfl))))
/-! laws_eqStringS -/
theorem laws_eqStringS_lr (xs : List ByteArray) (hs : xs.length ≤ 1048576) : ∀ (d i : Nat), i + d = xs.length → Ev (fun k => laws_eqStringS.l0 k xs xs (i : Int)) true := by
  have hn := hs
  intro d
  induction d with
  | zero =>
    intro i hi
    exact eround (fun k => by rw [laws_eqStringS.l0]) (eneg (by omega) (enow rfl))
  | succ d ih =>
    intro i hi
    have hlt : i < xs.length := by omega
    refine eround (fun k => by rw [laws_eqStringS.l0]) (epos (by omega) (epos (by omega) (epos (by omega) ?_)))
    first | refine epos rfl ?_ | (refine eneg ?_ ?_; focus (simp; done))
    rw [w64 (by omega) (by omega)]
    exact ih (i + 1) (by omega)
theorem laws_eqStringS_r (xs : List ByteArray) (hs : xs.length ≤ 1048576) : Ev (fun k => laws_eqStringS.f k xs xs) true := by
  unfold laws_eqStringS.f
  exact epos rfl (laws_eqStringS_lr xs hs xs.length 0 (by omega))
/-! laws_eqIntS -/
theorem laws_eqIntS_lr (xs : List Int) (hs : xs.length ≤ 1048576) : ∀ (d i : Nat), i + d = xs.length → Ev (fun k => laws_eqIntS.l0 k xs xs (i : Int)) true := by
  have hn := hs
  intro d
  induction d with
  | zero =>
    intro i hi
    exact eround (fun k => by rw [laws_eqIntS.l0]) (eneg (by omega) (enow rfl))
  | succ d ih =>
    intro i hi
    have hlt : i < xs.length := by omega
    refine eround (fun k => by rw [laws_eqIntS.l0]) (epos (by omega) (epos (by omega) (epos (by omega) ?_)))
    first | refine epos rfl ?_ | (refine eneg ?_ ?_; focus (simp; done))
    rw [w64 (by omega) (by omega)]
    exact ih (i + 1) (by omega)
theorem laws_eqIntS_r (xs : List Int) (hs : xs.length ≤ 1048576) : Ev (fun k => laws_eqIntS.f k xs xs) true := by
  unfold laws_eqIntS.f
  exact epos rfl (laws_eqIntS_lr xs hs xs.length 0 (by omega))
/-! laws_eqStringSS -/
theorem laws_eqStringSS_lr (xs : List (List ByteArray)) (hs : (xs.length ≤ 1048576 ∧ ∀ y ∈ xs, y.length ≤ 1048576)) : ∀ (d i : Nat), i + d = xs.length → Ev (fun k => laws_eqStringSS.l0 k xs xs (i : Int)) true := by
  have hn := hs.1
  intro d
  induction d with
  | zero =>
    intro i hi
    exact eround (fun k => by rw [laws_eqStringSS.l0]) (eneg (by omega) (enow rfl))
  | succ d ih =>
    intro i hi
    have hlt : i < xs.length := by omega
    refine eround (fun k => by rw [laws_eqStringSS.l0]) (epos (by omega) (epos (by omega) (epos (by omega) ?_)))
    refine ebind (laws_eqStringS_r (xs.getD ((i : Int)).toNat []) (by rw [getD_get xs i _ hlt]; exact hs.2 _ (List.getElem_mem hlt))) (epos rfl ?_)
    rw [w64 (by omega) (by omega)]
    exact ih (i + 1) (by omega)
theorem laws_eqStringSS_r (xs : List (List ByteArray)) (hs : (xs.length ≤ 1048576 ∧ ∀ y ∈ xs, y.length ≤ 1048576)) : Ev (fun k => laws_eqStringSS.f k xs xs) true := by
  unfold laws_eqStringSS.f
  exact epos rfl (laws_eqStringSS_lr xs hs xs.length 0 (by omega))
/-! laws_eqNet -/
theorem laws_eqNet_r (l0_0 : List Int) (l0_1 : List (List ByteArray)) (l0_2 : List (List ByteArray)) (l0_3 : List (List ByteArray)) (a0_4 : Int) (hl0_0 : l0_0.length ≤ 1048576) (hl0_1 : (l0_1.length ≤ 1048576 ∧ ∀ y ∈ l0_1, y.length ≤ 1048576)) (hl0_2 : (l0_2.length ≤ 1048576 ∧ ∀ y ∈ l0_2, y.length ≤ 1048576)) (hl0_3 : (l0_3.length ≤ 1048576 ∧ ∀ y ∈ l0_3, y.length ≤ 1048576)) : Ev (fun k => laws_eqNet.f k l0_0 l0_1 l0_2 l0_3 a0_4 l0_0 l0_1 l0_2 l0_3 a0_4) true := by
  unfold laws_eqNet.f
  repeat' first
    | exact enow rfl
    | refine epos rfl ?_
    | (refine eneg ?_ ?_; focus (simp; done))
    | refine ebind (laws_eqIntS_r _ (by assumption)) ?_
    | refine ebind (laws_eqStringSS_r _ (by assumption)) ?_
/-! laws_markIntS -/
theorem laws_markIntS_o : ∀ (d i : Nat) (xs : List Int) (m : Int), i + d = xs.length → xs.length ≤ 1048576 → 0 ≤ m → m ≤ 4611686018427387904 - 1 * d → ∃ ys : List Int, Ev (fun k => laws_markIntS.l0 k xs m (i : Int)) (m + 1 * d, ys) := by
  intro d
  induction d with
  | zero =>
    intro i xs m hi hn h0 h1
    exact ⟨xs, eround (fun k => by rw [laws_markIntS.l0]) (eneg (by omega) (enow (by simp)))⟩
  | succ d ih =>
    intro i xs m hi hn h0 h1
    have w1 : wrap64 ((i : Int) + 1) = ((i + 1 : Nat) : Int) := by rw [w64 (by omega) (by omega)]; rfl
    have v0 : wrap64 (m + 1) = m + 1 := w64 (by omega) (by omega)
    have hr : ∃ zs : List Int, zs.length = xs.length ∧ ∀ r, Ev (fun k => laws_markIntS.l0 k zs (m + 1) ((i + 1 : Nat) : Int)) r → Ev (fun k => laws_markIntS.l0 k xs m (i : Int)) r := by
      apply Exists.intro
      apply And.intro
      rotate_left
      · intro r hz
        refine eround (fun k => by rw [laws_markIntS.l0]) (epos (by omega) ?_)
        try simp only [w1, v0]
        refine epos (by omega) ?_
        refine enb rfl ?_
        try simp only [w1, v0]
        exact hz
      · simp
    obtain ⟨zs, hz, hr⟩ := hr
    obtain ⟨ys, hy⟩ := ih (i + 1) zs (m + 1) (by omega) (by omega) (by omega) (by push_cast at h1; omega)
    refine ⟨ys, hr _ ?_⟩
    rw [show m + 1 * ((d + 1 : Nat) : Int) = m + 1 + 1 * (d : Int) by push_cast; omega]
    exact hy
theorem laws_markIntS_m (xs : List Int) (m : Int) (hn : xs.length ≤ 1048576) (h0 : 0 ≤ m) (h1 : m ≤ 4611686018427387904 - 1 * xs.length) : ∃ ys : List Int, Ev (fun k => laws_markIntS.f k xs m) (m + 1 * xs.length, ys) :=
  laws_markIntS_o xs.length 0 xs m (by omega) hn h0 h1
/-! laws_markStringS -/
theorem laws_markStringS_h : ∀ (d i : Nat) (xs : List ByteArray) (m : Int), i + d = xs.length → xs.length ≤ 1048576 → 0 ≤ m → m ≤ 4611686018427387904 - 1 * d → ∃ ys : List ByteArray, ys.length = xs.length ∧ ys.take i = xs.take i ∧
    Ev (fun k => laws_markStringS.l0 k xs m (i : Int)) (m + 1 * d, ys) ∧ Ev (fun k => laws_heldStringS.l0 k ys m (i : Int)) (m + 1 * d) := by
  intro d
  induction d with
  | zero =>
    intro i xs m hi hn h0 h1
    exact ⟨xs, rfl, rfl, eround (fun k => by rw [laws_markStringS.l0]) (eneg (by omega) (enow (by simp))), eround (fun k => by rw [laws_heldStringS.l0]) (eneg (by omega) (enow (by simp)))⟩
  | succ d ih =>
    intro i xs m hi hn h0 h1
    have hlt : i < xs.length := by omega
    have w1 : wrap64 ((i : Int) + 1) = ((i + 1 : Nat) : Int) := by rw [w64 (by omega) (by omega)]; rfl
    have v0 : wrap64 (m + 1) = m + 1 := w64 (by omega) (by omega)
    obtain ⟨ys, hl, ht, hm, hh⟩ := ih (i + 1) (xs.set ((i : Int)).toNat (mtext m)) (m + 1) (by simp; omega) (by simpa using hn) (by omega) (by push_cast at h1; omega)
    have hlt' : i < ys.length := by rw [hl]; simpa using hlt
    have hy : ys[i] = (mtext m) := by
      have := congrArg (fun l => l[i]?) ht
      simp only [List.getElem?_take_of_lt (Nat.lt_succ_self i), List.getElem?_eq_getElem hlt'] at this
      rw [show ((i : Int)).toNat = i by simp, List.getElem?_set_self (by simpa using hlt)] at this
      exact Option.some.inj this
    refine ⟨ys, by rw [hl]; simp, ?_, ?_, ?_⟩
    · have := congrArg (List.take i) ht
      rw [List.take_take, List.take_take, Nat.min_eq_left (by omega)] at this
      rw [this]
      simp [List.take_set_of_le]
    · refine eround (fun k => by rw [laws_markStringS.l0]) (epos (by omega) ?_)
      try simp only [w1, v0]
      refine ebind (laws_markText_m _ (by omega) (by omega)) ?_
      refine epos (by omega) ?_
      refine enb rfl ?_
      try simp only [w1, v0]
      skip
      rw [show m + 1 * ((d + 1 : Nat) : Int) = m + 1 + 1 * (d : Int) by push_cast; omega]
      simpa using hm
    · refine eround (fun k => by rw [laws_heldStringS.l0]) (epos (by omega) (epos (by omega) ?_))
      have hr : ∀ z, ys.getD ((i : Int)).toNat z = ys[i] := fun z => getD_get ys i z hlt'
      try simp only [w1, v0]
      simp only [rd, rdOf, hr, hy]
      first | ((with_reducible refine ebind (laws_markText_m _ ?_ ?_) ?_); (focus omega); (focus omega)) | (repeat (first | refine epos trivial ?_ | (with_reducible refine epos rfl ?_) | (refine eneg ?_ ?_; focus (simp; done))); (with_reducible refine ebind (laws_markText_m _ ?_ ?_) ?_); (focus omega); (focus omega))
      repeat (first | refine epos trivial ?_ | refine epos rfl ?_ | (refine eneg ?_ ?_; focus (simp; done)))
      rw [show m + 1 * ((d + 1 : Nat) : Int) = m + 1 + 1 * (d : Int) by push_cast; omega]
      exact hh
theorem laws_markStringS_m (xs : List ByteArray) (m : Int) (hn : xs.length ≤ 1048576) (h0 : 0 ≤ m) (h1 : m ≤ 4611686018427387904 - 1 * xs.length) : ∃ ys : List ByteArray, ys.length = xs.length ∧ Ev (fun k => laws_markStringS.f k xs m) (m + 1 * xs.length, ys) ∧ Ev (fun k => laws_heldStringS.f k ys m) (m + 1 * xs.length) := by
  obtain ⟨ys, hl, _, h⟩ := laws_markStringS_h xs.length 0 xs m (by omega) hn h0 h1
  exact ⟨ys, hl, h⟩
/-! laws_markStringSS -/
theorem laws_markStringSS_h : ∀ (d i : Nat) (xs : List (List ByteArray)) (m : Int), i + d = xs.length → xs.length ≤ 1048576 → (∀ (j : Nat) (h : j < xs.length), i ≤ j → xs[j].length ≤ 1048576) → 0 ≤ m → m ≤ 4611686018427387904 - 1048576 * d → ∃ (ys : List (List ByteArray)) (t : Int), m ≤ t ∧ t ≤ m + 1048576 * d ∧ ys.length = xs.length ∧ Ev (fun k => laws_markStringSS.l0 k xs m (i : Int)) (t, ys) := by
  intro d
  induction d with
  | zero =>
    intro i xs m hi hn hs h0 h1
    exact ⟨xs, m, Int.le_refl _, by omega, rfl, eround (fun k => by rw [laws_markStringSS.l0]) (eneg (by omega) (enow rfl))⟩
  | succ d ih =>
    intro i xs m hi hn hs h0 h1
    have hlt : i < xs.length := by omega
    have w1 : wrap64 ((i : Int) + 1) = ((i + 1 : Nat) : Int) := by rw [w64 (by omega) (by omega)]; rfl
    have hb := hs i hlt (Nat.le_refl _)
    obtain ⟨zs, hz, m1, m2⟩ := laws_markStringS_m xs[i] m hb h0 (by push_cast at h1; omega)
    generalize he : m + 1 * (xs[i].length : Int) = m' at m1 m2
    obtain ⟨ys, t, t0, t1, hl, hm⟩ := ih (i + 1) (xs.set i zs) m' (by simp; omega) (by simpa using hn) (fun j h hj => by rw [List.getElem_set_ne (by omega)]; exact hs j (by simpa using h) (by omega)) (by omega) (by push_cast at h1; omega)
    have hmk : Ev (fun k => laws_markStringSS.l0 k xs m (i : Int)) (t, ys) := by
      refine eround (fun k => by rw [laws_markStringSS.l0]) (epos (by omega) (epos (by omega) ?_))
      rw [show laws_markStringSS.rd xs (i : Int) = xs[i] from getD_get xs i _ hlt]
      refine ebind m1 ?_
      rw [w1]
      exact hm
    exact ⟨ys, t, by omega, by push_cast; omega, by rw [hl]; simp, hmk⟩
theorem laws_markStringSS_m (xs : List (List ByteArray)) (m : Int) (hs : xs.length ≤ 1048576 ∧ ∀ y ∈ xs, y.length ≤ 1048576) (h0 : 0 ≤ m) (h1 : m ≤ 4611686018427387904 - 1048576 * xs.length) : ∃ (ys : List (List ByteArray)) (t : Int), m ≤ t ∧ t ≤ m + 1048576 * xs.length ∧ Ev (fun k => laws_markStringSS.f k xs m) (t, ys) := by
  obtain ⟨ys, t, t0, t1, hl, h⟩ := laws_markStringSS_h xs.length 0 xs m (by omega) hs.1 (fun j h _ => hs.2 _ (List.getElem_mem h)) h0 h1
  exact ⟨ys, t, t0, t1, h⟩
/-! laws_markNet -/
theorem laws_markNet_m (l0_0 : List Int) (l0_1 : List (List ByteArray)) (l0_2 : List (List ByteArray)) (l0_3 : List (List ByteArray)) (a0_4 : Int) (m : Int) (hl0_0 : l0_0.length ≤ 1048576) (hl0_1 : (l0_1.length ≤ 1048576 ∧ ∀ y ∈ l0_1, y.length ≤ 1048576)) (hl0_2 : (l0_2.length ≤ 1048576 ∧ ∀ y ∈ l0_2, y.length ≤ 1048576)) (hl0_3 : (l0_3.length ≤ 1048576 ∧ ∀ y ∈ l0_3, y.length ≤ 1048576)) (h0 : 0 ≤ m) (h1 : m ≤ 2305843009213693952) : ∃ (yl0_0 : List Int) (yl0_1 : List (List ByteArray)) (yl0_2 : List (List ByteArray)) (yl0_3 : List (List ByteArray)) (t : Int), m ≤ t ∧ t ≤ m + 3298535931904 ∧ Ev (fun k => laws_markNet.f k l0_0 l0_1 l0_2 l0_3 a0_4 m) (t, yl0_0, yl0_1, yl0_2, yl0_3) := by
  have ll0_1 := hl0_1.1
  have ll0_2 := hl0_2.1
  have ll0_3 := hl0_3.1
  obtain ⟨yl0_0, e0⟩ := laws_markIntS_m l0_0 m hl0_0 (by omega) (by omega)
  generalize z0 : m + 1 * (l0_0.length : Int) = t0 at e0
  obtain ⟨yl0_1, t1, a1, b1, e1⟩ := laws_markStringSS_m l0_1 t0 hl0_1 (by omega) (by omega)
  obtain ⟨yl0_2, t2, a2, b2, e2⟩ := laws_markStringSS_m l0_2 t1 hl0_2 (by omega) (by omega)
  obtain ⟨yl0_3, t3, a3, b3, e3⟩ := laws_markStringSS_m l0_3 t2 hl0_3 (by omega) (by omega)
  refine ⟨yl0_0, yl0_1, yl0_2, yl0_3, t3, by omega, by omega, ?_⟩
  · unfold laws_markNet.f
    exact ebind e0 (ebind e1 (ebind e2 (ebind e3 (enow rfl))))
/-! a stable sort by a key: what it comes to -/
section
variable {α : Type} (key : α → Int)
def StEq (xs ys : List α) : Prop := ∀ c, xs.filter (fun x => decide (key x = c)) = ys.filter (fun x => decide (key x = c))
def Srt (xs : List α) : Prop := xs.Pairwise (fun x y => key x ≤ key y)
variable {key}
theorem StEq.refl (xs : List α) : StEq key xs xs := fun _ => rfl
theorem StEq.symm {xs ys : List α} (h : StEq key xs ys) : StEq key ys xs := fun c => (h c).symm
theorem StEq.trans {xs ys zs : List α} (h : StEq key xs ys) (k : StEq key ys zs) : StEq key xs zs := fun c => (h c).trans (k c)
theorem StEq.app {xs ys us vs : List α} (h : StEq key xs ys) (k : StEq key us vs) : StEq key (xs ++ us) (ys ++ vs) := fun c => by rw [List.filter_append, List.filter_append, h c, k c]
theorem StEq.mid {xs ys : List α} (h : StEq key xs ys) (P Q : List α) : StEq key (P ++ xs ++ Q) (P ++ ys ++ Q) := ((StEq.refl P).app h).app (StEq.refl Q)
/-- What no key has in common may change places. -/
theorem StEq.swap {A B : List α} (h : ∀ a ∈ A, ∀ b ∈ B, key a ≠ key b) : StEq key (A ++ B) (B ++ A) := fun c => by
  rw [List.filter_append, List.filter_append]
  by_cases q : ∃ a ∈ A, key a = c
  · obtain ⟨a, ha, e⟩ := q
    have : B.filter (fun x => decide (key x = c)) = [] := by
      rw [List.filter_eq_nil_iff]
      intro b hb
      have := h a ha b hb
      simp only [decide_eq_true_eq]
      omega
    rw [this, List.append_nil, List.nil_append]
  · have : A.filter (fun x => decide (key x = c)) = [] := by
      rw [List.filter_eq_nil_iff]
      intro a ha
      simp only [decide_eq_true_eq]
      exact fun e => q ⟨a, ha, e⟩
    rw [this, List.append_nil, List.nil_append]
theorem StEq.mem {xs ys : List α} (h : StEq key xs ys) (x : α) (hx : x ∈ xs) : x ∈ ys := by
  have h1 : x ∈ xs.filter (fun y => decide (key y = key x)) := List.mem_filter.2 ⟨hx, by simp⟩
  rw [h (key x)] at h1
  exact (List.mem_filter.1 h1).1
theorem StEq.nil {ys : List α} (h : StEq key [] ys) : ys = [] := by
  cases ys with
  | nil => rfl
  | cons y r => exact absurd (h.symm.mem y List.mem_cons_self) (by simp)
theorem Srt.eq : ∀ {xs ys : List α}, Srt key xs → Srt key ys → StEq key xs ys → xs = ys
  | [], _, _, _, h => h.nil.symm
  | x :: xs, [], _, _, h => absurd h.symm.nil (by simp)
  | x :: xs, y :: ys, hx, hy, h => by
    obtain ⟨x1, x2⟩ := List.pairwise_cons.1 hx
    obtain ⟨y1, y2⟩ := List.pairwise_cons.1 hy
    have e1 : key x ≤ key y := by
      rcases List.mem_cons.1 (h.symm.mem y List.mem_cons_self) with e | e
      · rw [e]; exact Int.le_refl _
      · exact x1 y e
    have e2 : key y ≤ key x := by
      rcases List.mem_cons.1 (h.mem x List.mem_cons_self) with e | e
      · rw [e]; exact Int.le_refl _
      · exact y1 x e
    have e : key x = key y := Int.le_antisymm e1 e2
    have hc := h (key x)
    rw [List.filter_cons_of_pos (by simp), List.filter_cons_of_pos (by simp [e])] at hc
    injection hc with h1 h2
    subst h1
    rw [Srt.eq x2 y2 (fun c => ?_)]
    by_cases q : key x = c
    · subst q; exact h2
    · have := h c
      rwa [List.filter_cons_of_neg (by simpa using q), List.filter_cons_of_neg (by simpa using q)] at this
theorem Srt.app {A B : List α} (ha : Srt key A) (hb : Srt key B) (h : ∀ a ∈ A, ∀ b ∈ B, key a ≤ key b) : Srt key (A ++ B) := List.pairwise_append.2 ⟨ha, hb, h⟩
theorem Srt.left {A B : List α} (h : Srt key (A ++ B)) : Srt key A := (List.pairwise_append.1 h).1
theorem Srt.right {A B : List α} (h : Srt key (A ++ B)) : Srt key B := (List.pairwise_append.1 h).2.1
theorem Srt.le {A B : List α} (h : Srt key (A ++ B)) : ∀ a ∈ A, ∀ b ∈ B, key a ≤ key b := (List.pairwise_append.1 h).2.2
variable (key)
def ins (x : α) : List α → List α
  | [] => [x]
  | y :: r => if key y ≤ key x then y :: ins x r else x :: y :: r
def stS (l : List α) : List α := l.foldl (fun acc x => ins key x acc) []
variable {key}
theorem ins_form (x : α) : ∀ l : List α, Srt key l → ∃ l1 l2, l = l1 ++ l2 ∧ ins key x l = l1 ++ x :: l2 ∧ (∀ y ∈ l1, key y ≤ key x) ∧ ∀ y ∈ l2, key x < key y
  | [], _ => ⟨[], [], rfl, rfl, by simp, by simp⟩
  | y :: r, h => by
    obtain ⟨h1, h2⟩ := List.pairwise_cons.1 h
    by_cases q : key y ≤ key x
    · obtain ⟨l1, l2, e1, e2, e3, e4⟩ := ins_form x r h2
      refine ⟨y :: l1, l2, by rw [e1]; rfl, by rw [ins, if_pos q, e2]; rfl, ?_, e4⟩
      intro z hz
      rcases List.mem_cons.1 hz with rfl | hz
      · exact q
      · exact e3 z hz
    · refine ⟨[], y :: r, rfl, by rw [ins, if_neg q]; rfl, by simp, ?_⟩
      intro z hz
      rcases List.mem_cons.1 hz with rfl | hz
      · omega
      · have := h1 z hz; omega
theorem ins_ok (x : α) (l : List α) (h : Srt key l) : Srt key (ins key x l) ∧ StEq key (l ++ [x]) (ins key x l) := by
  obtain ⟨l1, l2, e1, e2, e3, e4⟩ := ins_form x l h
  rw [e2]
  subst e1
  refine ⟨Srt.app h.left (List.pairwise_cons.2 ⟨fun y hy => Int.le_of_lt (e4 y hy), h.right⟩) ?_, ?_⟩
  · intro a ha b hb
    rcases List.mem_cons.1 hb with rfl | hb
    · exact e3 a ha
    · exact h.le a ha b hb
  · rw [List.append_assoc]
    refine (StEq.refl l1).app (StEq.swap ?_)
    intro a ha b hb
    rw [List.mem_singleton.1 hb]
    have := e4 a ha
    omega
theorem ins_length (x : α) : ∀ l : List α, (ins key x l).length = l.length + 1
  | [] => rfl
  | y :: r => by
    unfold ins
    split
    · simp [ins_length x r]
    · simp
theorem stS_snoc (l : List α) (x : α) : stS key (l ++ [x]) = ins key x (stS key l) := by simp [stS]
theorem stS_ok (l : List α) : Srt key (stS key l) ∧ StEq key l (stS key l) := by
  induction hn : l.length generalizing l with
  | zero => rw [List.length_eq_zero_iff.1 hn]; exact ⟨List.Pairwise.nil, StEq.refl _⟩
  | succ n ih =>
    obtain ⟨l', x, rfl⟩ : ∃ l' x, l = l' ++ [x] := ⟨l.dropLast, l.getLast (by intro e; rw [e] at hn; cases hn), (List.dropLast_concat_getLast _).symm⟩
    obtain ⟨h1, h2⟩ := ih l' (by simpa using hn)
    obtain ⟨h3, h4⟩ := ins_ok x _ h1
    rw [stS_snoc]
    exact ⟨h3, (h2.app (StEq.refl [x])).trans h4⟩
theorem stS_eq {l ys : List α} (h1 : Srt key ys) (h2 : StEq key l ys) : ys = stS key l := Srt.eq h1 (stS_ok l).1 (h2.symm.trans (stS_ok l).2)
theorem stS_mem {l : List α} {x : α} (h : x ∈ stS key l) : x ∈ l := (stS_ok l).2.symm.mem x h
end
/-! lists in pieces -/
section
variable {α : Type} {z : α}
theorem gd_mid (P : List α) (x : α) (R : List α) (i : Nat) (h : i = P.length) : (P ++ x :: R).getD i z = x := by
  subst h
  rw [List.getD_eq_getElem?_getD, List.getElem?_append_right (Nat.le_refl _), Nat.sub_self]
  rfl
theorem set_mid (P : List α) (x y : α) (R : List α) (i : Nat) (h : i = P.length) : (P ++ x :: R).set i y = P ++ y :: R := by
  subst h
  rw [List.set_append_right _ _ (Nat.le_refl _), Nat.sub_self]
  rfl
end
/-! the library's stable sort over texts, by their first byte -/
abbrev k0 (s : ByteArray) : Int := bt s 0
theorem cmp_e (a b : ByteArray) (ha : 0 < a.size) (hb : 0 < b.size) : impl_Net_inbox_1.f a b = some (k0 a - k0 b) := by
  unfold impl_Net_inbox_1.f
  have := bt_range a 0
  have := bt_range b 0
  rw [if_pos (by omega), if_pos (by omega), w64 (x := bt a 0) (by omega) (by omega), w64 (x := bt b 0) (by omega) (by omega), w64 (by omega) (by omega)]
theorem rE_mid (P : List ByteArray) (x : ByteArray) (R : List ByteArray) (i : Int) (h : i = P.length) : rdOf ByteArray.empty (P ++ x :: R) i = x := gd_mid P x R i.toNat (by omega)
theorem sE_mid (P : List ByteArray) (x y : ByteArray) (R : List ByteArray) (i : Int) (h : i = P.length) : (P ++ x :: R).set i.toNat y = P ++ y :: R := set_mid P x y R i.toNat (by omega)
def NE (xs : List ByteArray) : Prop := ∀ x ∈ xs, 0 < x.size
/-- One step of the inner loop: x goes down. -/
theorem insIn (P : List ByteArray) (x : ByteArray) (R : List ByteArray) (b i : Nat) (hb : b ≤ 4294967296) (hi : i < b) (hx : 0 < x.size) : ∀ (n : Nat) (S1 S2 : List ByteArray), S1.length = n → NE S1 → Srt k0 (S1 ++ S2) → (∀ s ∈ S2, k0 x < k0 s) → P.length + S1.length ≤ i →
    ∃ T, Srt k0 T ∧ StEq k0 (S1 ++ x :: S2) T ∧ T.length = S1.length + S2.length + 1 ∧ ∀ r, Ev (fun k => slices_insertionSortCmpFunc_44_at_39.l0 k (P ++ T ++ R) (P.length : Int) (b : Int) ((i : Int) + 1)) r → Ev (fun k => slices_insertionSortCmpFunc_44_at_39.l1 k (P ++ (S1 ++ x :: S2) ++ R) (P.length : Int) (b : Int) (i : Int) ((P.length : Int) + (S1.length : Int))) r := by
  intro n
  induction n with
  | zero =>
    intro S1 S2 hn _ hs h2 _
    obtain rfl := List.length_eq_zero_iff.1 hn
    refine ⟨x :: S2, List.pairwise_cons.2 ⟨fun y hy => Int.le_of_lt (h2 y hy), hs⟩, StEq.refl _, by simp, fun r hr => ?_⟩
    refine eround (fun k => by rw [slices_insertionSortCmpFunc_44_at_39.l1]) (eneg (by simp) ?_)
    rw [w64 (by omega) (by omega)]
    exact hr
  | succ n ih =>
    intro S1 S2 hn hne hs h2 hlt
    obtain ⟨S, y, rfl⟩ : ∃ S y, S1 = S ++ [y] := ⟨S1.dropLast, S1.getLast (by intro e; rw [e] at hn; cases hn), (List.dropLast_concat_getLast _).symm⟩
    have hl : (S ++ [y]).length = S.length + 1 := by simp
    have hy : 0 < y.size := hne y (by simp)
    have e1 : P ++ (S ++ [y] ++ x :: S2) ++ R = (P ++ S ++ [y]) ++ x :: (S2 ++ R) := by simp
    have e2 : P ++ (S ++ [y] ++ x :: S2) ++ R = (P ++ S) ++ y :: x :: (S2 ++ R) := by simp
    have g1 : rdOf ByteArray.empty (P ++ (S ++ [y] ++ x :: S2) ++ R) ((P.length : Int) + ((S ++ [y]).length : Int)) = x := by rw [e1]; exact rE_mid _ _ _ _ (by simp <;> omega)
    have g2 : rdOf ByteArray.empty (P ++ (S ++ [y] ++ x :: S2) ++ R) ((P.length : Int) + ((S ++ [y]).length : Int) - 1) = y := by rw [e2]; exact rE_mid _ _ _ _ (by simp <;> omega)
    by_cases q : k0 x < k0 y
    · have hs' : Srt k0 (S ++ (y :: S2)) := by simpa using hs
      obtain ⟨T, t1, t2, t3, t4⟩ := ih S (y :: S2) (by simpa using hn) (fun s h => hne s (by simp [h])) hs' (fun s h => by
        rcases List.mem_cons.1 h with rfl | h
        · exact q
        · exact h2 s h) (by omega)
      refine ⟨T, t1, StEq.trans ?_ t2, by rw [t3, hl]; simp; omega, fun r hr => ?_⟩
      · have := ((StEq.refl (key := k0) S).app (StEq.swap (key := k0) (A := [y]) (B := [x]) (by simp <;> omega))).app (StEq.refl S2)
        simpa using this
      · refine eround (fun k => by rw [slices_insertionSortCmpFunc_44_at_39.l1]) (epos (by omega) (epos (by omega) (epos (by simp <;> omega) ?_)))
        rw [w64 (x := (P.length : Int) + ((S ++ [y]).length : Int) - 1) (by omega) (by omega)]
        refine epos (by omega) (epos (by simp <;> omega) (enb (by rw [g1, g2]; exact cmp_e x y hx hy) (epos (by omega) ?_)))
        have e3 : ((P ++ (S ++ [y] ++ x :: S2) ++ R).set ((P.length : Int) + ((S ++ [y]).length : Int)).toNat (rdOf ByteArray.empty (P ++ (S ++ [y] ++ x :: S2) ++ R) ((P.length : Int) + ((S ++ [y]).length : Int) - 1))).set ((P.length : Int) + ((S ++ [y]).length : Int) - 1).toNat (rdOf ByteArray.empty (P ++ (S ++ [y] ++ x :: S2) ++ R) ((P.length : Int) + ((S ++ [y]).length : Int))) = P ++ (S ++ x :: (y :: S2)) ++ R := by
          rw [show rdOf ByteArray.empty (P ++ (S ++ [y] ++ x :: S2) ++ R) ((P.length : Int) + ((S ++ [y]).length : Int) - 1) = y from g2, show rdOf ByteArray.empty (P ++ (S ++ [y] ++ x :: S2) ++ R) ((P.length : Int) + ((S ++ [y]).length : Int)) = x from g1, e1, sE_mid _ _ _ _ _ (by simp <;> omega), show P ++ S ++ [y] ++ y :: (S2 ++ R) = (P ++ S) ++ y :: (y :: (S2 ++ R)) by simp, sE_mid _ _ _ _ _ (by simp <;> omega)]
          simp
        rw [e3]
        have := t4 r hr
        rw [show (P.length : Int) + ((S ++ [y]).length : Int) - 1 = (P.length : Int) + (S.length : Int) by rw [hl]; omega]
        exact this
    · refine ⟨S ++ [y] ++ x :: S2, ?_, StEq.refl _, by simp <;> omega, fun r hr => ?_⟩
      · refine Srt.app hs.left (List.pairwise_cons.2 ⟨fun s h => Int.le_of_lt (h2 s h), hs.right⟩) ?_
        intro a ha c hc
        rcases List.mem_cons.1 hc with rfl | hc
        · have h1 := hs.left
          rcases List.mem_append.1 ha with ha | ha
          · have := h1.le a ha y (by simp); omega
          · rw [List.mem_singleton.1 ha]; omega
        · exact hs.le a ha c hc
      · refine eround (fun k => by rw [slices_insertionSortCmpFunc_44_at_39.l1]) (epos (by omega) (epos (by omega) (epos (by simp <;> omega) ?_)))
        rw [w64 (x := (P.length : Int) + ((S ++ [y]).length : Int) - 1) (by omega) (by omega)]
        refine epos (by omega) (epos (by simp <;> omega) (enb (by rw [g1, g2]; exact cmp_e x y hx hy) (eneg (by omega) ?_)))
        rw [w64 (by omega) (by omega)]
        exact hr
theorem insOut (P R : List ByteArray) (b : Nat) (hb : b ≤ 4294967296) : ∀ (U S : List ByteArray), Srt k0 S → NE (S ++ U) → P.length + S.length + U.length = b → 
    ∃ T, Srt k0 T ∧ StEq k0 (S ++ U) T ∧ T.length = S.length + U.length ∧ Ev (fun k => slices_insertionSortCmpFunc_44_at_39.l0 k (P ++ (S ++ U) ++ R) (P.length : Int) (b : Int) ((P.length : Int) + (S.length : Int))) (P ++ T ++ R)
  | [], S, hs, _, hl => ⟨S, hs, by rw [List.append_nil]; exact StEq.refl _, by simp, eround (fun k => by rw [slices_insertionSortCmpFunc_44_at_39.l0]) (eneg (by simp at hl; omega) (enow (by simp)))⟩
  | x :: U, S, hs, hne, hl => by
    obtain ⟨T, t1, t2, t3, t4⟩ := insIn P x (U ++ R) b (P.length + S.length) hb (by simp at hl; omega) (hne x (by simp)) S.length S [] rfl (fun s h => hne s (by simp [h])) (by simpa using hs) (by simp) (by omega)
    obtain ⟨T2, s1, s2, s3, s4⟩ := insOut P R b hb U T t1 (fun s h => by
      rcases List.mem_append.1 h with h | h
      · have := t2.symm.mem s h
        exact hne s (by simp at this ⊢; rcases this with h | h <;> simp [h])
      · exact hne s (by simp [h])) (by rw [t3]; simp at hl ⊢; omega)
    refine ⟨T2, s1, StEq.trans ?_ s2, by rw [s3, t3]; simp; omega, ?_⟩
    · have := t2.app (StEq.refl U)
      simpa using this
    · refine eround (fun k => by rw [slices_insertionSortCmpFunc_44_at_39.l0]) (epos (by simp at hl; omega) ?_)
      have h5 := t4 _ (by
        have h6 := s4
        rw [t3, show (P.length : Int) + ((S.length + ([] : List ByteArray).length + 1 : Nat) : Int) = ((P.length + S.length : Nat) : Int) + 1 by simp <;> omega, show P ++ (T ++ U) ++ R = P ++ T ++ (U ++ R) by simp] at h6
        exact h6)
      rw [show P ++ (S ++ x :: U) ++ R = P ++ (S ++ [x]) ++ (U ++ R) by simp, show (P.length : Int) + (S.length : Int) = ((P.length + S.length : Nat) : Int) by omega]
      have h7 : ((P.length + S.length : Nat) : Int) = (P.length : Int) + (S.length : Int) := by omega
      rw [← h7] at h5
      exact h5
theorem insSort (P S R : List ByteArray) (b : Nat) (hb : b ≤ 4294967296) (hne : NE S) (hl : P.length + S.length = b) : ∃ T, Srt k0 T ∧ StEq k0 S T ∧ T.length = S.length ∧ Ev (fun k => slices_insertionSortCmpFunc_44_at_39.f k (P ++ S ++ R) (P.length : Int) (b : Int)) (P ++ T ++ R) := by
  unfold slices_insertionSortCmpFunc_44_at_39.f
  rw [w64 (by omega) (by omega)]
  cases S with
  | nil =>
    refine ⟨[], List.Pairwise.nil, StEq.refl _, rfl, eround (fun k => by rw [slices_insertionSortCmpFunc_44_at_39.l0]) (eneg (by simp at hl; omega) (enow rfl))⟩
  | cons x S =>
    obtain ⟨T, t1, t2, t3, t4⟩ := insOut P R b hb S [x] (List.pairwise_singleton _ _) (by simpa using hne) (by simp at hl ⊢; omega)
    exact ⟨T, t1, by simpa using t2, by rw [t3]; simp; omega, by simpa using t4⟩
/-! rows of one length change places; a row goes past its neighbour -/
theorem swp (P M Q : List ByteArray) (hb : P.length + M.length + Q.length ≤ 4294967296) (n : Nat) (hn : n ≤ 4294967296) : ∀ (A2 B2 A1 B1 : List ByteArray), A1.length = B1.length → A2.length = B2.length → A1.length + A2.length = n →
    Ev (fun k => slices_swapRangeCmpFunc_47_at_39.l0 k (P ++ B1 ++ A2 ++ M ++ A1 ++ B2 ++ Q) (P.length : Int) ((P.length : Int) + (n : Int) + (M.length : Int)) (n : Int) (A1.length : Int)) (P ++ (B1 ++ B2) ++ M ++ (A1 ++ A2) ++ Q)
  | [], [], A1, B1, h1, _, hl => eround (fun k => by rw [slices_swapRangeCmpFunc_47_at_39.l0]) (eneg (by simp at hl; omega) (enow (by simp)))
  | a :: A2, b :: B2, A1, B1, h1, h2, hl => by
    simp only [List.length_cons] at h2 hl
    have e1 : P ++ B1 ++ (a :: A2) ++ M ++ A1 ++ (b :: B2) ++ Q = (P ++ B1) ++ a :: (A2 ++ M ++ A1 ++ b :: (B2 ++ Q)) := by simp
    have e2 : P ++ B1 ++ (a :: A2) ++ M ++ A1 ++ (b :: B2) ++ Q = (P ++ B1 ++ (a :: A2) ++ M ++ A1) ++ b :: (B2 ++ Q) := by simp
    have l1 : (P ++ B1).length = P.length + A1.length := by simp; omega
    have l2 : (P ++ B1 ++ (a :: A2) ++ M ++ A1).length = P.length + n + M.length + A1.length := by simp; omega
    have l3 : (P ++ B1 ++ (a :: A2) ++ M ++ A1 ++ (b :: B2) ++ Q).length = P.length + n + M.length + n + Q.length := by simp; omega
    have g1 : rdOf ByteArray.empty (P ++ B1 ++ (a :: A2) ++ M ++ A1 ++ (b :: B2) ++ Q) ((P.length : Int) + (A1.length : Int)) = a := by rw [e1]; exact rE_mid _ _ _ _ (by rw [l1]; omega)
    have g2 : rdOf ByteArray.empty (P ++ B1 ++ (a :: A2) ++ M ++ A1 ++ (b :: B2) ++ Q) ((P.length : Int) + (n : Int) + (M.length : Int) + (A1.length : Int)) = b := by rw [e2]; exact rE_mid _ _ _ _ (by rw [l2]; omega)
    refine eround (fun k => by rw [slices_swapRangeCmpFunc_47_at_39.l0]) (epos (by omega) ?_)
    rw [w64 (x := (P.length : Int) + (n : Int) + (M.length : Int) + (A1.length : Int)) (by omega) (by omega), w64 (x := (P.length : Int) + (A1.length : Int)) (by omega) (by omega), w64 (x := (A1.length : Int) + 1) (by omega) (by omega), g1, g2]
    refine epos (by omega) (epos (by rw [l3]; omega) (epos (by omega) (epos (by rw [l3]; omega) ?_)))
    have e3 : ((P ++ B1 ++ (a :: A2) ++ M ++ A1 ++ (b :: B2) ++ Q).set ((P.length : Int) + (A1.length : Int)).toNat b).set ((P.length : Int) + (n : Int) + (M.length : Int) + (A1.length : Int)).toNat a = P ++ (B1 ++ [b]) ++ A2 ++ M ++ (A1 ++ [a]) ++ B2 ++ Q := by
      rw [e1, sE_mid _ _ _ _ _ (by rw [l1]; omega), show (P ++ B1) ++ b :: (A2 ++ M ++ A1 ++ b :: (B2 ++ Q)) = (P ++ B1 ++ (b :: A2) ++ M ++ A1) ++ b :: (B2 ++ Q) by simp, sE_mid _ _ _ _ _ (by simp <;> omega)]
      simp
    rw [e3]
    have := swp P M Q hb n hn A2 B2 (A1 ++ [a]) (B1 ++ [b]) (by simp; omega) (by omega) (by simp; omega)
    rw [show (((A1 ++ [a]).length : Nat) : Int) = (A1.length : Int) + 1 by simp] at this
    simpa using this
theorem swpF (P A M B Q : List ByteArray) (hb : P.length + M.length + Q.length ≤ 4294967296) (hn : A.length ≤ 4294967296) (h : A.length = B.length) (a b n : Int) (ha : a = P.length) (hb' : b = P.length + A.length + M.length) (hn' : n = A.length) :
    Ev (fun k => slices_swapRangeCmpFunc_47_at_39.f k (P ++ A ++ M ++ B ++ Q) a b n) (P ++ B ++ M ++ A ++ Q) := by
  subst ha hb' hn'
  have := swp P M Q hb A.length hn A B [] [] rfl h (by simp)
  unfold slices_swapRangeCmpFunc_47_at_39.f
  simpa using this
theorem rot (n : Nat) : ∀ (P X Y Q : List ByteArray), X.length + Y.length ≤ n → 0 < X.length → 0 < Y.length → P.length + X.length + Y.length + Q.length ≤ 4294967296 → ∀ m i j : Int, m = P.length + X.length → i = X.length → j = Y.length → Ev (fun k => slices_rotateCmpFunc_46_at_39.l0 k (P ++ X ++ Y ++ Q) m i j) (P ++ Y ++ X ++ Q) := by
  induction n with
  | zero => intro P X Y Q h hx; omega
  | succ n ih =>
    intro P X Y Q h hx hy hb m i j hm hi hj
    subst hm hi hj
    refine eround (fun k => by rw [slices_rotateCmpFunc_46_at_39.l0]) ?_
    by_cases q : (X.length : Int) = (Y.length : Int)
    · refine epos q (ebind (a := P ++ Y ++ X ++ Q) ?_ (enow rfl))
      rw [w64 (by omega) (by omega)]
      have := swpF P X [] Y Q (by simp; omega) (by omega) (by omega) ((P.length : Int) + X.length - X.length) ((P.length : Int) + X.length) (X.length : Int) (by omega) (by simp) rfl
      simpa using this
    · refine eneg q ?_
      by_cases g : (X.length : Int) > (Y.length : Int)
      · refine epos g ?_
        have hX : X = X.take Y.length ++ X.drop Y.length := (List.take_append_drop _ _).symm
        have l1 : (X.take Y.length).length = Y.length := by rw [List.length_take]; omega
        have l2 : (X.drop Y.length).length = X.length - Y.length := List.length_drop
        generalize X.take Y.length = X1 at *
        generalize X.drop Y.length = X2 at *
        subst hX
        simp only [List.length_append] at *
        rw [w64 (by omega) (by omega), w64 (by omega) (by omega)]
        refine ebind (a := P ++ Y ++ X2 ++ X1 ++ Q) ?_ ?_
        · have := swpF P X1 X2 Y Q (by omega) (by omega) l1 ((P.length : Int) + ((X1.length + X2.length : Nat) : Int) - ((X1.length + X2.length : Nat) : Int)) ((P.length : Int) + ((X1.length + X2.length : Nat) : Int)) (Y.length : Int) (by omega) (by omega) (by omega)
          simpa using this
        · have := ih (P ++ Y) X2 X1 Q (by omega) (by omega) (by omega) (by simp; omega) ((P.length : Int) + ((X1.length + X2.length : Nat) : Int)) (((X1.length + X2.length : Nat) : Int) - (Y.length : Int)) (Y.length : Int) (by simp; omega) (by omega) (by omega)
          simpa using this
      · refine eneg g ?_
        have hY : Y = Y.take (Y.length - X.length) ++ Y.drop (Y.length - X.length) := (List.take_append_drop _ _).symm
        have l1 : (Y.take (Y.length - X.length)).length = Y.length - X.length := by rw [List.length_take]; omega
        have l2 : (Y.drop (Y.length - X.length)).length = X.length := by rw [List.length_drop]; omega
        generalize Y.take (Y.length - X.length) = Y1 at *
        generalize Y.drop (Y.length - X.length) = Y2 at *
        subst hY
        simp only [List.length_append] at *
        rw [w64 (x := (P.length : Int) + (X.length : Int) - (X.length : Int)) (by omega) (by omega), w64 (x := (P.length : Int) + (X.length : Int) + ((Y1.length + Y2.length : Nat) : Int)) (by omega) (by omega), w64 (by omega) (by omega), w64 (by omega) (by omega)]
        refine ebind (a := P ++ Y2 ++ Y1 ++ X ++ Q) ?_ ?_
        · have := swpF P X Y1 Y2 Q (by omega) (by omega) l2.symm ((P.length : Int) + (X.length : Int) - (X.length : Int)) ((P.length : Int) + (X.length : Int) + ((Y1.length + Y2.length : Nat) : Int) - (X.length : Int)) (X.length : Int) (by omega) (by omega) rfl
          simpa using this
        · have := ih P Y2 Y1 (X ++ Q) (by omega) (by omega) (by omega) (by simp; omega) ((P.length : Int) + (X.length : Int)) (X.length : Int) (((Y1.length + Y2.length : Nat) : Int) - (X.length : Int)) (by omega) (by omega) (by omega)
          simpa using this
theorem rotF (P X Y Q : List ByteArray) (hx : 0 < X.length) (hy : 0 < Y.length) (hb : P.length + X.length + Y.length + Q.length ≤ 4294967296) (a m b : Int) (ha : a = P.length) (hm : m = P.length + X.length) (hb' : b = P.length + X.length + Y.length) : Ev (fun k => slices_rotateCmpFunc_46_at_39.f k (P ++ X ++ Y ++ Q) a m b) (P ++ Y ++ X ++ Q) := by
  unfold slices_rotateCmpFunc_46_at_39.f
  subst ha hm hb'
  rw [w64 (by omega) (by omega), w64 (by omega) (by omega)]
  exact rot _ P X Y Q (Nat.le_refl _) hx hy hb _ _ _ rfl (by omega) (by omega)
/-! the merge -/
theorem mid_e (i j : Nat) (h : i + j ≤ 9223372036854775807) : wrap64 ((IntKind.u64.wrap (wrap64 ((i : Int) + (j : Int)))) / 2) = (((i + j) / 2 : Nat) : Int) := by
  rw [w64 (x := (i : Int) + (j : Int)) (by omega) (by omega), u64_wrap_small _ (by omega) (by omega), w64 (by omega) (by omega)]
  omega
theorem srt_gd {B : List ByteArray} (h : Srt k0 B) (t u : Nat) (htu : t ≤ u) (hu : u < B.length) : k0 (B.getD t ByteArray.empty) ≤ k0 (B.getD u ByteArray.empty) := by
  rw [List.getD_eq_getElem?_getD, List.getD_eq_getElem?_getD, List.getElem?_eq_getElem hu, List.getElem?_eq_getElem (by omega)]
  rcases Nat.lt_or_eq_of_le htu with h1 | h1
  · exact List.pairwise_iff_getElem.1 h t u (by omega) hu h1
  · subst h1; exact Int.le_refl _
theorem gd_app_r (P B R : List ByteArray) (t : Nat) (h : t < B.length) (i : Int) (hi : i = ((P.length + t : Nat) : Int)) : rdOf ByteArray.empty (P ++ B ++ R) i = B.getD t ByteArray.empty := by
  subst hi
  unfold rdOf
  rw [Int.toNat_natCast, List.append_assoc, List.getD_eq_getElem?_getD, List.getElem?_append_right (by omega), List.getElem?_append_left (by omega), List.getD_eq_getElem?_getD]
  congr 2
  omega
theorem gd_mem (B : List ByteArray) (t : Nat) (h : t < B.length) : B.getD t ByteArray.empty ∈ B := by
  rw [List.getD_eq_getElem?_getD, List.getElem?_eq_getElem h]
  exact List.getElem_mem h
/-- A lone one goes up past what is less. -/
theorem up (P : List ByteArray) (x : ByteArray) (R : List ByteArray) (hb : P.length ≤ 4294967296) : ∀ (B D : List ByteArray), D.length + B.length ≤ 4294967296 → Ev (fun k => slices_symMergeCmpFunc_45_at_39.l1 k (P ++ D ++ x :: (B ++ R)) (((P.length + D.length + B.length : Nat) : Int) + 1) ((P.length : Int) + (D.length : Int))) (P ++ (D ++ B) ++ x :: R)
  | [], D, hl => by
    refine eround (fun k => by rw [slices_symMergeCmpFunc_45_at_39.l1]) ?_
    rw [w64 (by simp at *; omega) (by simp at *; omega)]
    exact eneg (by simp <;> omega) (enow (by simp))
  | y :: B, D, hl => by
    simp only [List.length_cons] at hl
    have e1 : P ++ D ++ x :: (y :: B ++ R) = (P ++ D) ++ x :: (y :: (B ++ R)) := by simp
    have e2 : P ++ D ++ x :: (y :: B ++ R) = (P ++ D ++ [x]) ++ y :: (B ++ R) := by simp
    have g1 : rdOf ByteArray.empty (P ++ D ++ x :: (y :: B ++ R)) ((P.length : Int) + (D.length : Int)) = x := by rw [e1]; exact rE_mid _ _ _ _ (by simp)
    have g2 : rdOf ByteArray.empty (P ++ D ++ x :: (y :: B ++ R)) ((P.length : Int) + (D.length : Int) + 1) = y := by rw [e2]; exact rE_mid _ _ _ _ (by simp <;> omega)
    have l3 : (P ++ D ++ x :: (y :: B ++ R)).length = P.length + D.length + B.length + 2 + R.length := by simp; omega
    refine eround (fun k => by rw [slices_symMergeCmpFunc_45_at_39.l1]) ?_
    rw [w64 (x := (((P.length + D.length + (y :: B).length : Nat) : Int) + 1) - 1) (by simp; omega) (by simp; omega), w64 (x := (P.length : Int) + (D.length : Int) + 1) (by omega) (by omega), g1, g2]
    refine epos (by simp; omega) (epos (by omega) (epos (by rw [l3]; omega) (epos (by omega) (epos (by rw [l3]; omega) ?_))))
    have e3 : ((P ++ D ++ x :: (y :: B ++ R)).set ((P.length : Int) + (D.length : Int)).toNat y).set ((P.length : Int) + (D.length : Int) + 1).toNat x = P ++ (D ++ [y]) ++ x :: (B ++ R) := by
      rw [e1, sE_mid _ _ _ _ _ (by simp), show (P ++ D) ++ y :: (y :: (B ++ R)) = (P ++ D ++ [y]) ++ y :: (B ++ R) by simp, sE_mid _ _ _ _ _ (by simp <;> omega)]
      simp
    rw [e3]
    have := up P x R hb B (D ++ [y]) (by simp; omega)
    rw [show (((P.length + (D ++ [y]).length + B.length : Nat) : Int) + 1) = (((P.length + D.length + (y :: B).length : Nat) : Int) + 1) by simp; omega, show (P.length : Int) + ((D ++ [y]).length : Int) = (P.length : Int) + (D.length : Int) + 1 by simp; omega, show P ++ (D ++ [y] ++ B) ++ x :: R = P ++ (D ++ y :: B) ++ x :: R by simp] at this
    exact this
theorem upF (P : List ByteArray) (x : ByteArray) (B R : List ByteArray) (hb : P.length ≤ 4294967296) (hB : B.length ≤ 4294967296) (i j : Int) (hi : i = P.length + B.length + 1) (hj : j = P.length) : Ev (fun k => slices_symMergeCmpFunc_45_at_39.l1 k (P ++ x :: (B ++ R)) i j) (P ++ B ++ x :: R) := by
  subst hi hj
  have := up P x R hb B [] (by simpa using hB)
  simpa using this
/-- A lone one goes down past what is more. -/
theorem down (P : List ByteArray) (x : ByteArray) (R : List ByteArray) (hb : P.length ≤ 4294967296) (n : Nat) : ∀ (A D : List ByteArray), A.length = n → A.length ≤ 4294967296 → Ev (fun k => slices_symMergeCmpFunc_45_at_39.l3 k (P ++ A ++ x :: (D ++ R)) (P.length : Int) ((P.length : Int) + (A.length : Int))) (P ++ x :: (A ++ D ++ R)) := by
  induction n with
  | zero =>
    intro A D hn _
    obtain rfl := List.length_eq_zero_iff.1 hn
    exact eround (fun k => by rw [slices_symMergeCmpFunc_45_at_39.l3]) (eneg (by simp) (enow (by simp)))
  | succ n ih =>
    intro A D hn hA
    obtain ⟨S, y, rfl⟩ : ∃ S y, A = S ++ [y] := ⟨A.dropLast, A.getLast (by intro e; rw [e] at hn; cases hn), (List.dropLast_concat_getLast _).symm⟩
    have hl : (S ++ [y]).length = S.length + 1 := by simp
    have e1 : P ++ (S ++ [y]) ++ x :: (D ++ R) = (P ++ S ++ [y]) ++ x :: (D ++ R) := by simp
    have e2 : P ++ (S ++ [y]) ++ x :: (D ++ R) = (P ++ S) ++ y :: (x :: (D ++ R)) := by simp
    have g1 : rdOf ByteArray.empty (P ++ (S ++ [y]) ++ x :: (D ++ R)) ((P.length : Int) + ((S ++ [y]).length : Int)) = x := by rw [e1]; exact rE_mid _ _ _ _ (by simp <;> omega)
    have g2 : rdOf ByteArray.empty (P ++ (S ++ [y]) ++ x :: (D ++ R)) ((P.length : Int) + ((S ++ [y]).length : Int) - 1) = y := by rw [e2]; exact rE_mid _ _ _ _ (by simp <;> omega)
    have l3 : (P ++ (S ++ [y]) ++ x :: (D ++ R)).length = P.length + S.length + 2 + D.length + R.length := by simp; omega
    refine eround (fun k => by rw [slices_symMergeCmpFunc_45_at_39.l3]) ?_
    rw [w64 (x := (P.length : Int) + ((S ++ [y]).length : Int) - 1) (by omega) (by omega), g1, g2]
    refine epos (by omega) (epos (by omega) (epos (by rw [l3]; omega) (epos (by omega) (epos (by rw [l3]; omega) ?_))))
    have e3 : ((P ++ (S ++ [y]) ++ x :: (D ++ R)).set ((P.length : Int) + ((S ++ [y]).length : Int)).toNat y).set ((P.length : Int) + ((S ++ [y]).length : Int) - 1).toNat x = P ++ S ++ x :: ((y :: D) ++ R) := by
      rw [e1, sE_mid _ _ _ _ _ (by simp <;> omega), show (P ++ S ++ [y]) ++ y :: (D ++ R) = (P ++ S) ++ y :: (y :: (D ++ R)) by simp, sE_mid _ _ _ _ _ (by simp <;> omega)]
      simp
    rw [e3]
    have := ih S (y :: D) (by omega) (by omega)
    rw [show (P.length : Int) + ((S ++ [y]).length : Int) - 1 = (P.length : Int) + (S.length : Int) by omega, show P ++ x :: (S ++ [y] ++ D ++ R) = P ++ x :: (S ++ y :: D ++ R) by simp]
    exact this
theorem downF (P A : List ByteArray) (x : ByteArray) (R : List ByteArray) (hb : P.length ≤ 4294967296) (hA : A.length ≤ 4294967296) (i j : Int) (hi : i = P.length) (hj : j = P.length + A.length) : Ev (fun k => slices_symMergeCmpFunc_45_at_39.l3 k (P ++ A ++ x :: R) i j) (P ++ x :: (A ++ R)) := by
  subst hi hj
  have := down P x R hb A.length A [] rfl hA
  simpa using this
theorem stS_of {A T : List ByteArray} (h1 : Srt k0 T) (h2 : StEq k0 A T) : T = stS k0 A := stS_eq h1 h2
/-- One before a sorted row: the search. -/
theorem find1 (P : List ByteArray) (x : ByteArray) (B Q : List ByteArray) (hx : 0 < x.size) (hne : NE B) (hB : Srt k0 B) (hb : P.length + B.length + Q.length ≤ 2147483648) (r : List ByteArray) : ∀ (n lo hi : Nat), hi - lo ≤ n → lo ≤ hi → hi ≤ B.length → (∀ t, t < lo → k0 (B.getD t ByteArray.empty) < k0 x) → (∀ t, hi ≤ t → t < B.length → k0 x ≤ k0 (B.getD t ByteArray.empty)) →
    Ev (fun k => slices_symMergeCmpFunc_45_at_39.l0 k (P ++ x :: (B ++ Q)) (P.length : Int) (((P.length + 1 + lo : Nat) : Int)) (((P.length + 1 + hi : Nat) : Int))) (P ++ stS k0 (x :: B) ++ Q) := by
  intro n
  induction n with
  | zero =>
    intro lo hi h0 h1 h2 h3 h4
    obtain rfl : lo = hi := by omega
    refine eround (fun k => by rw [slices_symMergeCmpFunc_45_at_39.l0]) (eneg (by omega) ?_)
    have e : B = B.take lo ++ B.drop lo := (List.take_append_drop _ _).symm
    have hl : (B.take lo).length = lo := by rw [List.length_take]; omega
    have a1 : ∀ y ∈ B.take lo, k0 y < k0 x := by
      intro y hy
      obtain ⟨t, ht, rfl⟩ := List.getElem_of_mem hy
      have := h3 t (by omega)
      rw [List.getD_eq_getElem?_getD, List.getElem?_eq_getElem (by omega)] at this
      simpa using this
    have a2 : ∀ y ∈ B.drop lo, k0 x ≤ k0 y := by
      intro y hy
      obtain ⟨t, ht, rfl⟩ := List.getElem_of_mem hy
      have ht' : lo + t < B.length := by rw [List.length_drop] at ht; omega
      have := h4 (lo + t) (by omega) ht'
      rw [List.getD_eq_getElem?_getD, List.getElem?_eq_getElem ht'] at this
      simpa using this
    rw [e] at hB ⊢
    generalize B.take lo = B1 at *
    generalize B.drop lo = B2 at *
    have hT : B1 ++ x :: B2 = stS k0 (x :: (B1 ++ B2)) := by
      refine stS_of (Srt.app hB.left (List.pairwise_cons.2 ⟨a2, hB.right⟩) ?_) ?_
      · intro a ha b hb'
        rcases List.mem_cons.1 hb' with rfl | hb'
        · exact Int.le_of_lt (a1 a ha)
        · exact hB.le a ha b hb'
      · have := (StEq.swap (key := k0) (A := [x]) (B := B1) (by
          intro a ha b hb'
          rw [List.mem_singleton.1 ha]
          have := a1 b hb'; omega)).app (StEq.refl B2)
        simpa using this
    rw [← hT]
    have := upF P x B1 (B2 ++ Q) (by omega) (by omega) ((P.length + 1 + lo : Nat) : Int) (P.length : Int) (by omega) rfl
    simpa using this
  | succ n ih =>
    intro lo hi h0 h1 h2 h3 h4
    by_cases q : lo = hi
    · exact ih lo hi (by omega) h1 h2 h3 h4
    · refine eround (fun k => by rw [slices_symMergeCmpFunc_45_at_39.l0]) (epos (by omega) ?_)
      have ec : (P.length + 1 + lo + (P.length + 1 + hi)) / 2 = P.length + 1 + (lo + hi) / 2 := by omega
      rw [mid_e _ _ (by omega), ec]
      have hc1 : lo ≤ (lo + hi) / 2 := by omega
      have hc2 : (lo + hi) / 2 < hi := by omega
      generalize (lo + hi) / 2 = c at *
      have g1 : rdOf ByteArray.empty (P ++ x :: (B ++ Q)) ((P.length + 1 + c : Nat) : Int) = B.getD c ByteArray.empty := by
        have := gd_app_r (P ++ [x]) B Q c (by omega) ((P.length + 1 + c : Nat) : Int) (by simp)
        simpa using this
      have g2 : rdOf ByteArray.empty (P ++ x :: (B ++ Q)) (P.length : Int) = x := rE_mid _ _ _ _ rfl
      have l3 : (P ++ x :: (B ++ Q)).length = P.length + 1 + B.length + Q.length := by simp; omega
      refine epos (by omega) (epos (by rw [l3]; omega) (epos (by omega) (epos (by rw [l3]; omega) (enb (by rw [g1, g2]; exact cmp_e _ x (hne _ (gd_mem B c (by omega))) hx) ?_))))
      by_cases g : k0 (B.getD c ByteArray.empty) < k0 x
      · refine epos (by omega) ?_
        rw [w64 (by omega) (by omega), show ((P.length + 1 + c : Nat) : Int) + 1 = ((P.length + 1 + (c + 1) : Nat) : Int) by omega]
        refine ih (c + 1) hi (by omega) (by omega) h2 (fun t ht => ?_) h4
        have := srt_gd hB t c (by omega) (by omega)
        omega
      · refine eneg (by omega) ?_
        refine ih lo c (by omega) (by omega) (by omega) h3 (fun t ht htl => ?_)
        have := srt_gd hB c t ht htl
        omega
theorem find2 (P A : List ByteArray) (x : ByteArray) (Q : List ByteArray) (hx : 0 < x.size) (hne : NE A) (hA : Srt k0 A) (hb : P.length + A.length + Q.length ≤ 2147483648) : ∀ (n lo hi : Nat), hi - lo ≤ n → lo ≤ hi → hi ≤ A.length → (∀ t, t < lo → k0 (A.getD t ByteArray.empty) ≤ k0 x) → (∀ t, hi ≤ t → t < A.length → k0 x < k0 (A.getD t ByteArray.empty)) →
    Ev (fun k => slices_symMergeCmpFunc_45_at_39.l2 k (P ++ A ++ x :: Q) ((P.length + A.length : Nat) : Int) ((P.length + lo : Nat) : Int) ((P.length + hi : Nat) : Int)) (P ++ stS k0 (A ++ [x]) ++ Q) := by
  intro n
  induction n with
  | zero =>
    intro lo hi h0 h1 h2 h3 h4
    obtain rfl : lo = hi := by omega
    refine eround (fun k => by rw [slices_symMergeCmpFunc_45_at_39.l2]) (eneg (by omega) ?_)
    have e : A = A.take lo ++ A.drop lo := (List.take_append_drop _ _).symm
    have hl : (A.take lo).length = lo := by rw [List.length_take]; omega
    have hl2 : (A.drop lo).length = A.length - lo := List.length_drop
    have a1 : ∀ y ∈ A.take lo, k0 y ≤ k0 x := by
      intro y hy
      obtain ⟨t, ht, rfl⟩ := List.getElem_of_mem hy
      have := h3 t (by omega)
      rw [List.getD_eq_getElem?_getD, List.getElem?_eq_getElem (by omega)] at this
      simpa using this
    have a2 : ∀ y ∈ A.drop lo, k0 x < k0 y := by
      intro y hy
      obtain ⟨t, ht, rfl⟩ := List.getElem_of_mem hy
      have ht' : lo + t < A.length := by omega
      have := h4 (lo + t) (by omega) ht'
      rw [List.getD_eq_getElem?_getD, List.getElem?_eq_getElem ht'] at this
      simpa using this
    rw [e] at hA ⊢
    generalize A.take lo = A1 at *
    generalize A.drop lo = A2 at *
    subst e
    have hT : A1 ++ x :: A2 = stS k0 (A1 ++ A2 ++ [x]) := by
      refine stS_of (Srt.app hA.left (List.pairwise_cons.2 ⟨fun y hy => Int.le_of_lt (a2 y hy), hA.right⟩) ?_) ?_
      · intro a ha b hb'
        rcases List.mem_cons.1 hb' with rfl | hb'
        · exact a1 a ha
        · exact hA.le a ha b hb'
      · have := (StEq.refl (key := k0) A1).app (StEq.swap (key := k0) (A := A2) (B := [x]) (by
          intro a ha b hb'
          rw [List.mem_singleton.1 hb']
          have := a2 a ha; omega))
        simpa using this
    rw [← hT]
    have := downF (P ++ A1) A2 x Q (by simp; omega) (by omega) ((P.length + lo : Nat) : Int) ((P.length + (A1 ++ A2).length : Nat) : Int) (by simp; omega) (by simp; omega)
    simpa using this
  | succ n ih =>
    intro lo hi h0 h1 h2 h3 h4
    by_cases q : lo = hi
    · exact ih lo hi (by omega) h1 h2 h3 h4
    · refine eround (fun k => by rw [slices_symMergeCmpFunc_45_at_39.l2]) (epos (by omega) ?_)
      have ec : (P.length + lo + (P.length + hi)) / 2 = P.length + (lo + hi) / 2 := by omega
      rw [mid_e _ _ (by omega), ec]
      have hc1 : lo ≤ (lo + hi) / 2 := by omega
      have hc2 : (lo + hi) / 2 < hi := by omega
      generalize (lo + hi) / 2 = c at *
      have g1 : rdOf ByteArray.empty (P ++ A ++ x :: Q) ((P.length + c : Nat) : Int) = A.getD c ByteArray.empty := gd_app_r P A (x :: Q) c (by omega) _ rfl
      have g2 : rdOf ByteArray.empty (P ++ A ++ x :: Q) ((P.length + A.length : Nat) : Int) = x := rE_mid (P ++ A) _ _ _ (by simp)
      have l3 : (P ++ A ++ x :: Q).length = P.length + A.length + 1 + Q.length := by simp; omega
      refine epos (by omega) (epos (by rw [l3]; omega) (epos (by omega) (epos (by rw [l3]; omega) (enb (by rw [g1, g2]; exact cmp_e x _ hx (hne _ (gd_mem A c (by omega)))) ?_))))
      by_cases g : k0 x < k0 (A.getD c ByteArray.empty)
      · refine epos (by omega) ?_
        refine ih lo c (by omega) (by omega) (by omega) h3 (fun t ht htl => ?_)
        have := srt_gd hA c t ht htl
        omega
      · refine eneg (by omega) ?_
        rw [w64 (by omega) (by omega), show ((P.length + c : Nat) : Int) + 1 = ((P.length + (c + 1) : Nat) : Int) by omega]
        refine ih (c + 1) hi (by omega) (by omega) h2 (fun t ht => ?_) h4
        have := srt_gd hA t c (by omega) (by omega)
        omega
/-- The place where two sorted rows are cut. -/
theorem cutAt (P A B Q : List ByteArray) (hA : Srt k0 A) (hB : Srt k0 B) (nA : NE A) (nB : NE B) (hb : P.length + A.length + B.length + Q.length ≤ 1073741824) (s0 r0 mid : Nat) (hmid : mid = (P.length + (P.length + A.length + B.length)) / 2)
    (hs0 : s0 = if P.length + A.length > mid then mid + (P.length + A.length) - (P.length + A.length + B.length) else P.length) (hr0 : r0 = if P.length + A.length > mid then mid else P.length + A.length) (a2 a3 : Int) (F : List ByteArray)
    (hcont : ∀ s : Nat, s0 ≤ s → s ≤ r0 → (∀ c, s0 ≤ c → c < s → k0 (A.getD (c - P.length) ByteArray.empty) ≤ k0 (B.getD (mid - 1 - c) ByteArray.empty)) → (∀ c, s ≤ c → c < r0 → k0 (B.getD (mid - 1 - c) ByteArray.empty) < k0 (A.getD (c - P.length) ByteArray.empty)) →
      Ev (fun k => if (s : Int) < a2 then (slices_symMergeCmpFunc_45_at_39.j6 k (P ++ A ++ B ++ Q) (P.length : Int) a2 a3 (mid : Int) (s : Int) (wrap64 (((mid + (P.length + A.length) : Nat) : Int) - (s : Int))) (decide (a2 < (wrap64 (((mid + (P.length + A.length) : Nat) : Int) - (s : Int)))))) else (slices_symMergeCmpFunc_45_at_39.j6 k (P ++ A ++ B ++ Q) (P.length : Int) a2 a3 (mid : Int) (s : Int) (wrap64 (((mid + (P.length + A.length) : Nat) : Int) - (s : Int))) false)) F) :
    ∀ (n lo hi : Nat), hi - lo ≤ n → s0 ≤ lo → lo ≤ hi → hi ≤ r0 → (∀ c, s0 ≤ c → c < lo → k0 (A.getD (c - P.length) ByteArray.empty) ≤ k0 (B.getD (mid - 1 - c) ByteArray.empty)) → (∀ c, hi ≤ c → c < r0 → k0 (B.getD (mid - 1 - c) ByteArray.empty) < k0 (A.getD (c - P.length) ByteArray.empty)) →
      Ev (fun k => slices_symMergeCmpFunc_45_at_39.l4 k (P ++ A ++ B ++ Q) (P.length : Int) a2 a3 (mid : Int) ((mid + (P.length + A.length) : Nat) : Int) (lo : Int) (hi : Int) (((mid + (P.length + A.length) : Nat) : Int) - 1)) F := by
  intro n
  induction n with
  | zero =>
    intro lo hi h0 h1 h2 h3 h4 h5
    obtain rfl : lo = hi := by omega
    exact eround (fun k => by rw [slices_symMergeCmpFunc_45_at_39.l4]) (eneg (by omega) (hcont lo h1 h3 h4 h5))
  | succ n ih =>
    intro lo hi h0 h1 h2 h3 h4 h5
    by_cases q : lo = hi
    · exact ih lo hi (by omega) h1 h2 h3 h4 h5
    · refine eround (fun k => by rw [slices_symMergeCmpFunc_45_at_39.l4]) (epos (by omega) ?_)
      rw [mid_e _ _ (by split at hr0 <;> omega)]
      have hc1 : lo ≤ (lo + hi) / 2 := by omega
      have hc2 : (lo + hi) / 2 < hi := by omega
      generalize (lo + hi) / 2 = c at *
      -- both places lie within
      have hca : P.length ≤ c ∧ c < P.length + A.length ∧ c < mid ∧ mid - 1 - c < B.length := by split at hs0 <;> split at hr0 <;> omega
      have g1 : rdOf ByteArray.empty (P ++ A ++ B ++ Q) (wrap64 (((mid + (P.length + A.length) : Nat) : Int) - 1 - (c : Int))) = B.getD (mid - 1 - c) ByteArray.empty := by
        rw [w64 (by omega) (by omega)]
        exact gd_app_r (P ++ A) B Q (mid - 1 - c) (by omega) _ (by simp; omega)
      have g2 : rdOf ByteArray.empty (P ++ A ++ B ++ Q) (c : Int) = A.getD (c - P.length) ByteArray.empty := by
        have := gd_app_r P A (B ++ Q) (c - P.length) (by omega) (c : Int) (by omega)
        simpa using this
      have l3 : (P ++ A ++ B ++ Q).length = P.length + A.length + B.length + Q.length := by simp; omega
      have w1 : wrap64 (((mid + (P.length + A.length) : Nat) : Int) - 1 - (c : Int)) = (((mid + (P.length + A.length) : Nat) : Int) - 1 - (c : Int)) := w64 (by omega) (by omega)
      refine epos (by rw [w1]; omega) (epos (by rw [w1, l3]; omega) (epos (by omega) (epos (by rw [l3]; omega) (enb (by rw [g1, g2]; exact cmp_e _ _ (nB _ (gd_mem B _ (by omega))) (nA _ (gd_mem A _ (by omega)))) ?_))))
      by_cases g : k0 (B.getD (mid - 1 - c) ByteArray.empty) < k0 (A.getD (c - P.length) ByteArray.empty)
      · refine epos (by omega) ?_
        refine ih lo c (by omega) h1 (by omega) (by omega) h4 (fun d hd hdr => ?_)
        have hda : d < P.length + A.length ∧ d < mid := by split at hr0 <;> omega
        have m1 := srt_gd hA (c - P.length) (d - P.length) (by omega) (by omega)
        have m2 := srt_gd hB (mid - 1 - d) (mid - 1 - c) (by omega) (by omega)
        omega
      · refine eneg (by omega) ?_
        rw [w64 (by omega) (by omega), show ((c : Int) + 1) = ((c + 1 : Nat) : Int) by omega]
        refine ih (c + 1) hi (by omega) (by omega) (by omega) h3 (fun d hd hdr => ?_) h5
        have hda : P.length ≤ d ∧ mid - 1 - d < B.length := by split at hs0 <;> split at hr0 <;> omega
        have m1 := srt_gd hA (d - P.length) (c - P.length) (by omega) (by omega)
        have m2 := srt_gd hB (mid - 1 - c) (mid - 1 - d) (by omega) (by omega)
        omega
theorem list_le {A : List ByteArray} {v : Int} (h : ∀ t, t < A.length → k0 (A.getD t ByteArray.empty) ≤ v) : ∀ y ∈ A, k0 y ≤ v := by
  intro y hy
  obtain ⟨t, ht, rfl⟩ := List.getElem_of_mem hy
  have := h t ht
  rwa [List.getD_eq_getElem?_getD, List.getElem?_eq_getElem ht] at this
theorem list_ge {A : List ByteArray} {v : Int} (h : ∀ t, t < A.length → v ≤ k0 (A.getD t ByteArray.empty)) : ∀ y ∈ A, v ≤ k0 y := by
  intro y hy
  obtain ⟨t, ht, rfl⟩ := List.getElem_of_mem hy
  have := h t ht
  rwa [List.getD_eq_getElem?_getD, List.getElem?_eq_getElem ht] at this
theorem gd_take (A : List ByteArray) (n t : Nat) (h : t < n) : (A.take n).getD t ByteArray.empty = A.getD t ByteArray.empty := by
  rw [List.getD_eq_getElem?_getD, List.getElem?_take_of_lt h, List.getD_eq_getElem?_getD]
theorem gd_drop (A : List ByteArray) (n t : Nat) : (A.drop n).getD t ByteArray.empty = A.getD (n + t) ByteArray.empty := by
  rw [List.getD_eq_getElem?_getD, List.getElem?_drop, List.getD_eq_getElem?_getD]
theorem stS_length (A : List ByteArray) : (stS k0 A).length = A.length := by
  induction hn : A.length generalizing A with
  | zero => rw [List.length_eq_zero_iff.1 hn]; rfl
  | succ n ih =>
    obtain ⟨S, y, rfl⟩ : ∃ S y, A = S ++ [y] := ⟨A.dropLast, A.getLast (by intro e; rw [e] at hn; cases hn), (List.dropLast_concat_getLast _).symm⟩
    rw [stS_snoc, ins_length, ih S (by simpa using hn)]
theorem stS_self {A : List ByteArray} (h : Srt k0 A) : stS k0 A = A := (stS_of h (StEq.refl A)).symm
theorem NE.stS {A : List ByteArray} (h : NE A) : NE (stS k0 A) := fun x hx => h x (stS_mem hx)
theorem merge : ∀ (n : Nat) (P A B Q : List ByteArray), A.length + B.length ≤ n → 0 < A.length → 0 < B.length → Srt k0 A → Srt k0 B → NE A → NE B → P.length + A.length + B.length + Q.length ≤ 1073741824 → ∀ a m b : Int, a = P.length → m = P.length + A.length → b = P.length + A.length + B.length →
    Ev (fun k => slices_symMergeCmpFunc_45_at_39.f k (P ++ A ++ B ++ Q) a m b) (P ++ stS k0 (A ++ B) ++ Q) := by
  intro n
  induction n with
  | zero => intro P A B Q h ha; omega
  | succ n ih =>
    intro P A B Q hn hA0 hB0 hA hB nA nB hb a m b ha hm hb'
    subst ha hm hb'
    refine eround (fun k => by rw [slices_symMergeCmpFunc_45_at_39.f]) ?_
    rw [w64 (x := (P.length : Int) + (A.length : Int) - (P.length : Int)) (by omega) (by omega), w64 (x := (P.length : Int) + (A.length : Int) + (B.length : Int) - ((P.length : Int) + (A.length : Int))) (by omega) (by omega)]
    by_cases q1 : A.length = 1
    · obtain ⟨x, rfl⟩ := List.length_eq_one_iff.1 q1
      refine epos (by omega) ?_
      have := find1 P x B Q (nA x (by simp)) nB hB (by omega) [] B.length 0 B.length (by omega) (by omega) (Nat.le_refl _) (fun t ht => absurd ht (Nat.not_lt_zero _)) (fun t h1 h2 => absurd h2 (by omega))
      rw [show ((P.length + 1 + 0 : Nat) : Int) = (P.length : Int) + (([x] : List ByteArray).length : Int) by simp, show ((P.length + 1 + B.length : Nat) : Int) = (P.length : Int) + (([x] : List ByteArray).length : Int) + (B.length : Int) by simp] at this
      simpa using this
    · refine eneg (by omega) ?_
      by_cases q2 : B.length = 1
      · obtain ⟨x, rfl⟩ := List.length_eq_one_iff.1 q2
        refine epos (by simp <;> omega) ?_
        have := find2 P A x Q (nB x (by simp)) nA hA (by simp at hb; omega) A.length 0 A.length (by omega) (by omega) (Nat.le_refl _) (fun t ht => absurd ht (Nat.not_lt_zero _)) (fun t h1 h2 => absurd h2 (by omega))
        rw [show ((P.length + 0 : Nat) : Int) = (P.length : Int) by simp, show ((P.length + A.length : Nat) : Int) = (P.length : Int) + (A.length : Int) by omega] at this
        simpa using this
      · refine eneg (by omega) ?_
        rw [show (P.length : Int) + ((P.length : Int) + (A.length : Int) + (B.length : Int)) = ((P.length : Nat) : Int) + ((P.length + A.length + B.length : Nat) : Int) by omega, mid_e _ _ (by omega)]
        have hmd : ∃ mid, mid = (P.length + (P.length + A.length + B.length)) / 2 := ⟨_, rfl⟩
        obtain ⟨mid, hmid⟩ := hmd
        rw [← hmid]
        rw [show (mid : Int) + ((P.length : Int) + (A.length : Int)) = ((mid + (P.length + A.length) : Nat) : Int) by omega, w64 (x := ((mid + (P.length + A.length) : Nat) : Int)) (by omega) (by omega)]
        -- all that follows the search
        have C := cutAt P A B Q hA hB nA nB hb _ _ mid hmid rfl rfl ((P.length : Int) + (A.length : Int)) ((P.length : Int) + (A.length : Int) + (B.length : Int)) (P ++ stS k0 (A ++ B) ++ Q) (fun s hs1 hs2 hl hr => ?_)
        · by_cases q3 : P.length + A.length > mid
          · refine epos (by omega) (eround (fun k => by rw [slices_symMergeCmpFunc_45_at_39.j4]) ?_)
            rw [if_pos q3, if_pos q3] at C
            have := C _ (mid + (P.length + A.length) - (P.length + A.length + B.length)) mid (Nat.le_refl _) (Nat.le_refl _) (by omega) (Nat.le_refl _) (fun c h1 h2 => absurd h2 (by omega)) (fun c h1 h2 => absurd h2 (by omega))
            rw [w64 (x := ((mid + (P.length + A.length) : Nat) : Int) - 1) (by omega) (by omega), w64 (by omega) (by omega), show ((mid + (P.length + A.length) : Nat) : Int) - ((P.length : Int) + (A.length : Int) + (B.length : Int)) = ((mid + (P.length + A.length) - (P.length + A.length + B.length) : Nat) : Int) by omega]
            exact this
          · refine eneg (by omega) (eround (fun k => by rw [slices_symMergeCmpFunc_45_at_39.j4]) ?_)
            rw [if_neg q3, if_neg q3] at C
            have := C _ P.length (P.length + A.length) (Nat.le_refl _) (Nat.le_refl _) (by omega) (Nat.le_refl _) (fun c h1 h2 => absurd h2 (by omega)) (fun c h1 h2 => absurd h2 (by omega))
            rw [w64 (x := ((mid + (P.length + A.length) : Nat) : Int) - 1) (by omega) (by omega), show (P.length : Int) + (A.length : Int) = ((P.length + A.length : Nat) : Int) by omega] at *
            exact this
        · -- the four pieces
          have hsb : P.length ≤ s ∧ s ≤ P.length + A.length ∧ s ≤ mid ∧ mid - s ≤ B.length := by split at hs1 <;> split at hs2 <;> omega
          have eA : A = A.take (s - P.length) ++ A.drop (s - P.length) := (List.take_append_drop _ _).symm
          have eB : B = B.take (mid - s) ++ B.drop (mid - s) := (List.take_append_drop _ _).symm
          have lA1 : (A.take (s - P.length)).length = s - P.length := by rw [List.length_take]; omega
          have lA2 : (A.drop (s - P.length)).length = P.length + A.length - s := by rw [List.length_drop]; omega
          have lB1 : (B.take (mid - s)).length = mid - s := by rw [List.length_take]; omega
          have lB2 : (B.drop (mid - s)).length = B.length - (mid - s) := List.length_drop
          -- the second part of A is above the first of B
          have r1 : ∀ x ∈ A.drop (s - P.length), ∀ y ∈ B.take (mid - s), k0 y < k0 x := by
            intro x hx y hy
            have hx0 : 0 < (A.drop (s - P.length)).length := List.length_pos_of_mem hx
            have hy0 : 0 < (B.take (mid - s)).length := List.length_pos_of_mem hy
            have hsr : s < (if P.length + A.length > mid then mid else P.length + A.length) := by split <;> omega
            have h1 := hr s (Nat.le_refl _) hsr
            have h2 : ∀ y ∈ B.take (mid - s), k0 y ≤ k0 (B.getD (mid - 1 - s) ByteArray.empty) := list_le (fun t ht => by
              rw [gd_take _ _ _ (by omega)]
              exact srt_gd hB t (mid - 1 - s) (by omega) (by omega))
            have h3 : ∀ x ∈ A.drop (s - P.length), k0 (A.getD (s - P.length) ByteArray.empty) ≤ k0 x := list_ge (fun t ht => by
              rw [gd_drop]
              exact srt_gd hA (s - P.length) (s - P.length + t) (by omega) (by omega))
            have := h2 y hy
            have := h3 x hx
            omega
          -- the first part of A is not above the second of B
          have r2 : ∀ x ∈ A.take (s - P.length), ∀ y ∈ B.drop (mid - s), k0 x ≤ k0 y := by
            intro x hx y hy
            have hx0 : 0 < (A.take (s - P.length)).length := List.length_pos_of_mem hx
            have hy0 : 0 < (B.drop (mid - s)).length := List.length_pos_of_mem hy
            have hsr : (if P.length + A.length > mid then mid + (P.length + A.length) - (P.length + A.length + B.length) else P.length) ≤ s - 1 := by split <;> omega
            have h1 := hl (s - 1) hsr (by omega)
            have h2 : ∀ x ∈ A.take (s - P.length), k0 x ≤ k0 (A.getD (s - 1 - P.length) ByteArray.empty) := list_le (fun t ht => by
              rw [gd_take _ _ _ (by omega)]
              exact srt_gd hA t (s - 1 - P.length) (by omega) (by omega))
            have h3 : ∀ y ∈ B.drop (mid - s), k0 (B.getD (mid - 1 - (s - 1)) ByteArray.empty) ≤ k0 y := list_ge (fun t ht => by
              rw [gd_drop]
              exact srt_gd hB (mid - 1 - (s - 1)) (mid - s + t) (by omega) (by omega))
            have := h2 x hx
            have := h3 y hy
            omega
          have hAB : A.length = (A.take (s - P.length)).length + (A.drop (s - P.length)).length ∧ B.length = (B.take (mid - s)).length + (B.drop (mid - s)).length := by omega
          clear hl hr hs1 hs2
          generalize A.take (s - P.length) = A1 at *
          generalize A.drop (s - P.length) = A2 at *
          generalize B.take (mid - s) = B1 at *
          generalize B.drop (mid - s) = B2 at *
          subst eA eB
          clear hAB
          simp only [List.length_append] at *
          have sA1 := hA.left; have sA2 := hA.right; have sB1 := hB.left; have sB2 := hB.right
          have nA1 : NE A1 := fun x h => nA x (by simp [h])
          have nA2 : NE A2 := fun x h => nA x (by simp [h])
          have nB1 : NE B1 := fun x h => nB x (by simp [h])
          have nB2 : NE B2 := fun x h => nB x (by simp [h])
          have key : stS k0 (A1 ++ B1) ++ stS k0 (A2 ++ B2) = stS k0 (A1 ++ A2 ++ (B1 ++ B2)) := by
            refine stS_of (Srt.app (stS_ok _).1 (stS_ok _).1 ?_) ?_
            · intro x hx y hy
              have hx := stS_mem hx
              have hy := stS_mem hy
              rcases List.mem_append.1 hx with hx | hx <;> rcases List.mem_append.1 hy with hy | hy
              · exact hA.le x hx y hy
              · exact r2 x hx y hy
              · exact Int.le_of_lt (r1 y hy x hx)
              · exact hB.le x hx y hy
            · have h1 := ((StEq.refl (key := k0) A1).app (StEq.swap (key := k0) (A := A2) (B := B1) (fun a ha b hb => by have := r1 a ha b hb; omega))).app (StEq.refl B2)
              have h2 := (stS_ok (key := k0) (A1 ++ B1)).2.app (stS_ok (key := k0) (A2 ++ B2)).2
              refine StEq.trans ?_ h2
              simpa using h1
          rw [← key, show ((P.length : Int) + ((A1.length + A2.length : Nat) : Int)) = (s : Int) + (A2.length : Int) by omega, w64 (x := ((mid + (P.length + (A1.length + A2.length)) : Nat) : Int) - (s : Int)) (by omega) (by omega), show ((mid + (P.length + (A1.length + A2.length)) : Nat) : Int) - (s : Int) = (mid : Int) + (A2.length : Int) by omega]
          -- behind the turn
          have J7 : Ev (fun k => slices_symMergeCmpFunc_45_at_39.j7 k (P ++ A1 ++ B1 ++ A2 ++ B2 ++ Q) (P.length : Int) ((s : Int) + (A2.length : Int) + ((B1.length + B2.length : Nat) : Int)) (mid : Int) (s : Int) ((mid : Int) + (A2.length : Int))) (P ++ (stS k0 (A1 ++ B1) ++ stS k0 (A2 ++ B2)) ++ Q) := by
            refine eround (fun k => by rw [slices_symMergeCmpFunc_45_at_39.j7]) ?_
            -- the right part
            have R8 : ∀ (T : List ByteArray), T.length = A1.length + B1.length → Ev (fun k => if (mid : Int) < (mid : Int) + (A2.length : Int) then (if (mid : Int) + (A2.length : Int) < (s : Int) + (A2.length : Int) + ((B1.length + B2.length : Nat) : Int) then ((slices_symMergeCmpFunc_45_at_39.f k (P ++ T ++ A2 ++ B2 ++ Q) (mid : Int) ((mid : Int) + (A2.length : Int)) ((s : Int) + (A2.length : Int) + ((B1.length + B2.length : Nat) : Int))).bind fun t274 => (some t274)) else (some (P ++ T ++ A2 ++ B2 ++ Q))) else (some (P ++ T ++ A2 ++ B2 ++ Q))) (P ++ (T ++ stS k0 (A2 ++ B2)) ++ Q) := by
              intro T hT
              by_cases z1 : 0 < A2.length
              · refine epos (by omega) ?_
                by_cases z2 : 0 < B2.length
                · refine epos (by omega) (ebind (a := P ++ (T ++ stS k0 (A2 ++ B2)) ++ Q) ?_ (enow rfl))
                  have := ih (P ++ T) A2 B2 Q (by omega) z1 z2 sA2 sB2 nA2 nB2 (by simp; omega) (mid : Int) ((mid : Int) + (A2.length : Int)) ((s : Int) + (A2.length : Int) + ((B1.length + B2.length : Nat) : Int)) (by simp; omega) (by simp; omega) (by simp; omega)
                  simpa using this
                · obtain rfl : B2 = [] := List.length_eq_zero_iff.1 (by omega)
                  refine eneg (by simp; omega) (enow ?_)
                  rw [show stS k0 (A2 ++ []) = A2 by rw [List.append_nil, stS_self sA2]]
                  simp
              · obtain rfl : A2 = [] := List.length_eq_zero_iff.1 (by omega)
                refine eneg (by simp) (enow ?_)
                rw [show stS k0 ([] ++ B2) = B2 by rw [List.nil_append, stS_self sB2]]
                simp
            by_cases z1 : 0 < A1.length
            · refine epos (by omega) (eround (fun k => by rw [slices_symMergeCmpFunc_45_at_39.j8]) ?_)
              by_cases z2 : 0 < B1.length
              · refine epos (by simp; omega) (ebind (a := P ++ stS k0 (A1 ++ B1) ++ A2 ++ B2 ++ Q) ?_ (R8 _ (by rw [stS_length]; simp)))
                have := ih P A1 B1 (A2 ++ B2 ++ Q) (by omega) z1 z2 sA1 sB1 nA1 nB1 (by simp; omega) (P.length : Int) (s : Int) (mid : Int) rfl (by omega) (by omega)
                simpa using this
              · obtain rfl : B1 = [] := List.length_eq_zero_iff.1 (by omega)
                refine eneg (by simp at *; omega) ?_
                have := R8 (A1 ++ []) (by simp)
                rw [show stS k0 (A1 ++ []) = A1 ++ [] by rw [List.append_nil, stS_self sA1]]
                simpa using this
            · obtain rfl : A1 = [] := List.length_eq_zero_iff.1 (by omega)
              refine eneg (by simp at *; omega) (eround (fun k => by rw [slices_symMergeCmpFunc_45_at_39.j8]) (eneg (by decide) ?_))
              have := R8 ([] ++ B1) (by simp)
              rw [show stS k0 ([] ++ B1) = [] ++ B1 by rw [List.nil_append, stS_self sB1]]
              simpa using this
          have e4 : P ++ (A1 ++ A2) ++ (B1 ++ B2) ++ Q = P ++ A1 ++ A2 ++ B1 ++ (B2 ++ Q) := by simp
          by_cases z1 : 0 < A2.length
          · refine epos (by omega) (eround (fun k => by rw [slices_symMergeCmpFunc_45_at_39.j6]) ?_)
            by_cases z2 : 0 < B1.length
            · refine epos (by simp; omega) (ebind (a := P ++ A1 ++ B1 ++ A2 ++ B2 ++ Q) ?_ J7)
              rw [e4]
              have := rotF (P ++ A1) A2 B1 (B2 ++ Q) z1 z2 (by simp; omega) (s : Int) ((s : Int) + (A2.length : Int)) ((mid : Int) + (A2.length : Int)) (by simp; omega) (by simp; omega) (by simp; omega)
              simpa using this
            · obtain rfl : B1 = [] := List.length_eq_zero_iff.1 (by omega)
              refine eneg (by simp at *; omega) ?_
              simpa using J7
          · obtain rfl : A2 = [] := List.length_eq_zero_iff.1 (by omega)
            refine eneg (by simp) (eround (fun k => by rw [slices_symMergeCmpFunc_45_at_39.j6]) (eneg (by decide) ?_))
            simpa using J7
/-! the whole sort -/
inductive Blk (s : Nat) : List ByteArray → Prop
  | last {l : List ByteArray} : l.length ≤ s → Srt k0 l → Blk s l
  | more {A R : List ByteArray} : A.length = s → Srt k0 A → Blk s R → Blk s (A ++ R)
theorem Blk.cut {s : Nat} {l : List ByteArray} (h : Blk s l) (hl : s < l.length) : ∃ A R, l = A ++ R ∧ A.length = s ∧ Srt k0 A ∧ Blk s R := by
  cases h with
  | last h1 h2 => omega
  | more h1 h2 h3 => exact ⟨_, _, rfl, h1, h2, h3⟩
theorem Blk.srt {s : Nat} {l : List ByteArray} (h : Blk s l) (hl : l.length ≤ s) : Srt k0 l := by
  cases h with
  | last h1 h2 => exact h2
  | more h1 h2 h3 =>
    rename_i A R
    obtain rfl : R = [] := List.length_eq_zero_iff.1 (by simp at hl; omega)
    simpa using h2
theorem insBlocks (n : Nat) (hn : n ≤ 1073741824) : ∀ (d : Nat) (P U : List ByteArray), U.length ≤ d → P.length + U.length = n → NE U → ∃ T, Blk 20 T ∧ StEq k0 U T ∧ T.length = U.length ∧ ∀ r, Ev (fun k => slices_stableCmpFunc_43_at_39.l1 k (P ++ T) (n : Int) 20) r → Ev (fun k => slices_stableCmpFunc_43_at_39.l0 k (P ++ U) (n : Int) 20 (P.length : Int) ((P.length : Int) + 20)) r := by
  intro d
  induction d with
  | zero =>
    intro P U hd hl hne
    obtain rfl := List.length_eq_zero_iff.1 (Nat.le_zero.1 hd)
    refine ⟨[], Blk.last (by simp) List.Pairwise.nil, StEq.refl _, rfl, fun r hr => ?_⟩
    refine eround (fun k => by rw [slices_stableCmpFunc_43_at_39.l0]) (eneg (by simp at hl; omega) ?_)
    obtain ⟨T, t1, t2, t3, t4⟩ := insSort P [] [] n (by omega) hne (by simpa using hl)
    obtain rfl := List.length_eq_zero_iff.1 t3
    exact ebind (by simpa using t4) (by simpa using hr)
  | succ d ih =>
    intro P U hd hl hne
    by_cases q : P.length + 20 ≤ n
    · have eU : U = U.take 20 ++ U.drop 20 := (List.take_append_drop _ _).symm
      have l1 : (U.take 20).length = 20 := by rw [List.length_take]; omega
      have l2 : (U.drop 20).length = U.length - 20 := List.length_drop
      generalize U.take 20 = A at *
      generalize U.drop 20 = R at *
      subst eU
      obtain ⟨T, t1, t2, t3, t4⟩ := insSort P A R (P.length + 20) (by omega) (fun x h => hne x (by simp [h])) (by omega)
      obtain ⟨T2, s1, s2, s3, s4⟩ := ih (P ++ T) R (by simp at hd; omega) (by simp at hl ⊢; omega) (fun x h => hne x (by simp [h]))
      refine ⟨T ++ T2, Blk.more (by omega) t1 s1, t2.app s2, by simp; omega, fun r hr => ?_⟩
      refine eround (fun k => by rw [slices_stableCmpFunc_43_at_39.l0]) (epos (by omega) ?_)
      refine ebind (a := P ++ T ++ R) (by rw [show P ++ (A ++ R) = P ++ A ++ R by simp, show (P.length : Int) + 20 = ((P.length + 20 : Nat) : Int) by omega]; exact t4) ?_
      have := s4 r (by simpa using hr)
      rw [show ((P ++ T).length : Int) = (P.length : Int) + 20 by simp; omega] at this
      rw [w64 (by omega) (by omega)]
      exact this
    · obtain ⟨T, t1, t2, t3, t4⟩ := insSort P U [] n (by omega) hne hl
      refine ⟨T, Blk.last (by omega) t1, t2, t3, fun r hr => ?_⟩
      refine eround (fun k => by rw [slices_stableCmpFunc_43_at_39.l0]) (eneg (by omega) (ebind (a := P ++ T) (by simpa using t4) hr))
theorem mergePass (n s : Nat) (hn : n ≤ 1073741824) (hs : 0 < s) (hsn : s < n) : ∀ (d : Nat) (P U : List ByteArray), U.length ≤ d → P.length + U.length = n → NE U → Blk s U → ∃ T, Blk (2 * s) T ∧ StEq k0 U T ∧ T.length = U.length ∧ ∀ r, Ev (fun k => slices_stableCmpFunc_43_at_39.l1 k (P ++ T) (n : Int) ((2 * s : Nat) : Int)) r → Ev (fun k => slices_stableCmpFunc_43_at_39.l2 k (P ++ U) (n : Int) (s : Int) (P.length : Int) ((P.length : Int) + ((2 * s : Nat) : Int))) r := by
  intro d
  induction d with
  | zero =>
    intro P U hd hl hne hB
    obtain rfl := List.length_eq_zero_iff.1 (Nat.le_zero.1 hd)
    refine ⟨[], Blk.last (by simp) List.Pairwise.nil, StEq.refl _, rfl, fun r hr => ?_⟩
    refine eround (fun k => by rw [slices_stableCmpFunc_43_at_39.l2]) (eneg (by simp at hl; omega) (eneg (by rw [w64 (by omega) (by omega)]; simp at hl; omega) ?_))
    rw [w64 (by omega) (by omega), show (s : Int) * 2 = ((2 * s : Nat) : Int) by omega]
    exact hr
  | succ d ih =>
    intro P U hd hl hne hB
    by_cases q : P.length + 2 * s ≤ n
    · obtain ⟨A, R0, rfl, lA, sA, hR0⟩ := hB.cut (by omega)
      simp only [List.length_append] at hl hd
      obtain ⟨B, R, rfl, lB, sB, hR⟩ : ∃ B R, R0 = B ++ R ∧ B.length = s ∧ Srt k0 B ∧ Blk s R := by
        by_cases z : s < R0.length
        · exact hR0.cut z
        · exact ⟨R0, [], by simp, by omega, hR0.srt (by omega), Blk.last (by simp) List.Pairwise.nil⟩
      simp only [List.length_append] at hl hd
      have nA : NE A := fun x h => hne x (by simp [h])
      have nB : NE B := fun x h => hne x (by simp [h])
      obtain ⟨T2, s1, s2, s3, s4⟩ := ih (P ++ stS k0 (A ++ B)) R (by omega) (by simp [stS_length]; omega) (fun x h => hne x (by simp [h])) hR
      refine ⟨stS k0 (A ++ B) ++ T2, Blk.more (by rw [stS_length]; simp; omega) (stS_ok _).1 s1, ?_, by simp [stS_length]; omega, fun r hr => ?_⟩
      · have := (stS_ok (key := k0) (A ++ B)).2.app s2
        simpa using this
      · refine eround (fun k => by rw [slices_stableCmpFunc_43_at_39.l2]) (epos (by omega) ?_)
        have hm := merge _ P A B R (Nat.le_refl _) (by omega) (by omega) sA sB nA nB (by omega) (P.length : Int) (wrap64 ((P.length : Int) + (s : Int))) ((P.length : Int) + ((2 * s : Nat) : Int)) rfl (by rw [w64 (by omega) (by omega)]; omega) (by omega)
        refine ebind (a := P ++ stS k0 (A ++ B) ++ R) (by simpa using hm) ?_
        have := s4 r (by simpa using hr)
        rw [show ((P ++ stS k0 (A ++ B)).length : Int) = (P.length : Int) + ((2 * s : Nat) : Int) by simp [stS_length]; omega] at this
        rw [w64 (x := 2 * (s : Int)) (by omega) (by omega), show 2 * (s : Int) = ((2 * s : Nat) : Int) by omega, w64 (by omega) (by omega)]
        exact this
    · refine ?_
      by_cases z : s < U.length
      · obtain ⟨A, B, rfl, lA, sA, hR0⟩ := hB.cut z
        simp only [List.length_append] at hl hd z
        have nA : NE A := fun x h => hne x (by simp [h])
        have nB : NE B := fun x h => hne x (by simp [h])
        have sB := hR0.srt (by omega)
        refine ⟨stS k0 (A ++ B), Blk.last (by rw [stS_length]; simp; omega) (stS_ok _).1, (stS_ok _).2, stS_length _, fun r hr => ?_⟩
        refine eround (fun k => by rw [slices_stableCmpFunc_43_at_39.l2]) (eneg (by omega) (epos (by rw [w64 (by omega) (by omega)]; omega) ?_))
        have hm := merge _ P A B [] (Nat.le_refl _) (by omega) (by omega) sA sB nA nB (by simp; omega) (P.length : Int) (wrap64 ((P.length : Int) + (s : Int))) (n : Int) rfl (by rw [w64 (by omega) (by omega)]; omega) (by omega)
        refine ebind (a := P ++ stS k0 (A ++ B)) (by simpa using hm) ?_
        rw [w64 (by omega) (by omega), show (s : Int) * 2 = ((2 * s : Nat) : Int) by omega]
        exact hr
      · refine ⟨U, Blk.last (by omega) (hB.srt (by omega)), StEq.refl _, rfl, fun r hr => ?_⟩
        refine eround (fun k => by rw [slices_stableCmpFunc_43_at_39.l2]) (eneg (by omega) (eneg (by rw [w64 (by omega) (by omega)]; omega) ?_))
        rw [w64 (by omega) (by omega), show (s : Int) * 2 = ((2 * s : Nat) : Int) by omega]
        exact hr
theorem NE.of {U T : List ByteArray} (h : NE U) (e : StEq k0 U T) : NE T := fun x hx => h x (e.symm.mem x hx)
theorem passes (n : Nat) (hn : n ≤ 1073741824) : ∀ (d s : Nat) (U : List ByteArray), n - s ≤ d → 0 < s → U.length = n → NE U → Blk s U → Ev (fun k => slices_stableCmpFunc_43_at_39.l1 k U (n : Int) (s : Int)) (stS k0 U) := by
  intro d
  induction d with
  | zero =>
    intro s U hd hs hl hne hB
    exact eround (fun k => by rw [slices_stableCmpFunc_43_at_39.l1]) (eneg (by omega) (enow (stS_self (hB.srt (by omega))).symm))
  | succ d ih =>
    intro s U hd hs hl hne hB
    by_cases q : s < n
    · refine eround (fun k => by rw [slices_stableCmpFunc_43_at_39.l1]) (epos (by omega) ?_)
      obtain ⟨T, t1, t2, t3, t4⟩ := mergePass n s hn hs q n [] U (by omega) (by simpa using hl) hne hB
      have h := ih (2 * s) T (by omega) (by omega) (by omega) (hne.of t2) t1
      rw [show stS k0 T = stS k0 U from stS_of (stS_ok T).1 (t2.trans (stS_ok T).2)] at h
      have := t4 _ (by simpa using h)
      rw [w64 (x := 2 * (s : Int)) (by omega) (by omega)]
      simpa using this
    · exact eround (fun k => by rw [slices_stableCmpFunc_43_at_39.l1]) (eneg (by omega) (enow (stS_self (hB.srt (by omega))).symm))
theorem stable_e (U : List ByteArray) (hn : U.length ≤ 1048576) (hne : NE U) : Ev (fun k => slices_SortStableFunc_38_at_39.f k U) (stS k0 U) := by
  unfold slices_SortStableFunc_38_at_39.f slices_stableCmpFunc_43_at_39.f
  obtain ⟨T, t1, t2, t3, t4⟩ := insBlocks U.length (by omega) U.length [] U (Nat.le_refl _) (by simp) hne
  have h := passes U.length (by omega) U.length 20 T (by omega) (by decide) t3 (hne.of t2) t1
  rw [show stS k0 T = stS k0 U from stS_of (stS_ok T).1 (t2.trans (stS_ok T).2)] at h
  refine ebind ?_ (enow rfl)
  have := t4 _ (by simpa using h)
  simpa using this
def inR (lo hi x : Int) : Bool := decide (x ≥ lo) && decide (x ≤ hi)
theorem inR_iff {lo hi x : Int} : inR lo hi x = true ↔ lo ≤ x ∧ x ≤ hi := by simp [inR]
/-- all elements, each with its place, from place i on -/
def allI {α : Type} (p : Nat → α → Bool) : Nat → List α → Bool
  | _, [] => true
  | i, x :: xs => p i x && allI p (i + 1) xs
theorem allI_congr {α : Type} {p q : Nat → α → Bool} : ∀ (xs : List α) (i : Nat), (∀ j x, i ≤ j → j < i + xs.length → p j x = q j x) → allI p i xs = allI q i xs
  | [], _, _ => rfl
  | x :: xs, i, h => by
    simp only [allI]
    rw [h i x (Nat.le_refl _) (by simp), allI_congr xs (i + 1) (fun j y h1 h2 => h j y (by omega) (by simp only [List.length_cons]; omega))]
def onP (xs : List ByteArray) (i : Nat) (x : ByteArray) : Bool := decide ((x.size : Int) = 24) && (decide (i = 0) || Op.bytesLess (xs.getD (i - 1) ByteArray.empty).toList x.toList)
def onG (xs : List ByteArray) : Bool := allI (onP xs) 0 xs && decide ((xs.length : Int) ≤ 100)
def hasT (ys : List ByteArray) (x : ByteArray) : Bool := ys.any fun y => decide (y.toList = x.toList)
def boxP (b : List ByteArray) : Bool := b.all (fun x => inR 1 15 (x.size : Int)) && decide (b.length ≤ 60)
def relayP (outs : List (List ByteArray)) (i : Nat) (x : List ByteArray) : Bool := onG x && (onG (outs.getD i []) && x.all (hasT (outs.getD i [])))
def goodN (K : List Int) (ins outs boxes : List (List ByteArray)) (t : Int) : Bool := inR 1 4 (K.length : Int) && (K.all (inR 0 65535) && (decide ((ins.length : Int) = (K.length : Int)) && (decide ((outs.length : Int) = (K.length : Int)) && (decide ((boxes.length : Int) = 4) && (inR 0 60 t && (allI (relayP outs) 0 ins && boxes.all boxP))))))
def smallT (ps : List (List ByteArray)) : Prop := ps.length ≤ 1048576 ∧ ∀ p ∈ ps, p.length ≤ 1048576
theorem l1In_eq (a lo hi : Int) : spec_l1In.f a lo hi = some (inR lo hi a) := by
  unfold spec_l1In.f inR
  by_cases h : a ≥ lo <;> simp [h]
theorem l1All_l (xs : List Int) (lo up : Int) (hn : xs.length ≤ 9223372036854775807) : ∀ (d i : Nat), i + d = xs.length → Ev (fun k => spec_l1All.l0 k lo up xs (xs.length : Int) (i : Int)) ((xs.drop i).all (inR lo up)) := by
  intro d
  induction d with
  | zero =>
    intro i hi
    refine eround (fun k => by rw [spec_l1All.l0]) ?_
    refine eneg (by omega) (enow ?_)
    rw [List.drop_eq_nil_of_le (by omega)]; rfl
  | succ d ih =>
    intro i hi
    have hlt : i < xs.length := by omega
    refine eround (fun k => by rw [spec_l1All.l0]) ?_
    refine epos (by omega) (epos (by omega) (epos (by omega) ?_))
    rw [rd_get xs i hlt, List.drop_eq_getElem_cons hlt, List.all_cons]
    refine enb (l1In_eq _ _ _) ?_
    cases h : inR lo up xs[i] with
    | true =>
      refine epos rfl ?_
      rw [w64 (by omega) (by omega)]
      simpa using ih (i + 1) (by omega)
    | false => exact eneg (by simp) (enow (by simp))
theorem l1All_e (xs : List Int) (lo up : Int) (hn : xs.length ≤ 9223372036854775807) : Ev (fun k => spec_l1All.f k xs lo up) (xs.all (inR lo up)) :=
  l1All_l xs lo up hn xs.length 0 (by omega)
theorem specOn_l (xs : List ByteArray) (hn : xs.length ≤ 1048576) : ∀ (d i : Nat), i + d = xs.length → Ev (fun k => spec_l17Onions.l0 k xs xs (xs.length : Int) (i : Int)) (allI (onP xs) i (xs.drop i) && decide ((xs.length : Int) ≤ 100)) := by
  intro d
  induction d with
  | zero =>
    intro i hi
    refine eround (fun k => by rw [spec_l17Onions.l0]) (eneg (by omega) (enow ?_))
    rw [List.drop_eq_nil_of_le (by omega)]; rfl
  | succ d ih =>
    intro i hi
    have hlt : i < xs.length := by omega
    refine eround (fun k => by rw [spec_l17Onions.l0]) (epos (by omega) (epos (by omega) (epos (by omega) ?_)))
    rw [show rdOf ByteArray.empty xs (i : Int) = xs[i] from getD_get xs i _ hlt, List.drop_eq_getElem_cons hlt, w64 (x := (i : Int) + 1) (by omega) (by omega)]
    simp only [allI]
    by_cases h : (xs[i].size : Int) = 24
    · refine epos h ?_
      by_cases h0 : (i : Int) > 0
      · refine epos h0 ?_
        rw [w64 (x := (i : Int) - 1) (by omega) (by omega)]
        refine epos (by omega) (epos (by omega) ?_)
        have e : rdOf ByteArray.empty xs ((i : Int) - 1) = xs.getD (i - 1) ByteArray.empty := by
          unfold rdOf
          rw [show ((i : Int) - 1).toNat = i - 1 by omega]
        rw [e]
        have hi0 : ¬ i = 0 := by omega
        cases hb : Op.bytesLess (xs.getD (i - 1) ByteArray.empty).toList xs[i].toList with
        | true =>
          refine epos rfl ?_
          have hp : onP xs i xs[i] = true := by unfold onP; rw [hb]; simp [h]
          rw [hp, Bool.true_and]
          exact ih (i + 1) (by omega)
        | false =>
          have hp : onP xs i xs[i] = false := by unfold onP; rw [hb]; simp [hi0]
          exact eneg (by simp) (enow (by rw [hp]; rfl))
      · refine eneg h0 ?_
        have hi0 : i = 0 := by omega
        have hp : onP xs i xs[i] = true := by unfold onP; rw [decide_eq_true h, decide_eq_true hi0]; rfl
        rw [hp, Bool.true_and]
        exact ih (i + 1) (by omega)
    · have hp : onP xs i xs[i] = false := by unfold onP; simp [h]
      exact eneg h (enow (by rw [hp]; rfl))
theorem specOn_e (xs : List ByteArray) (hn : xs.length ≤ 1048576) : Ev (fun k => spec_l17Onions.f k xs) (onG xs) := specOn_l xs hn xs.length 0 (by omega)
theorem specHas_l (ys : List ByteArray) (x : ByteArray) (hn : ys.length ≤ 1048576) : ∀ (d i : Nat), i + d = ys.length → Ev (fun k => spec_l17Has.l0 k x ys (ys.length : Int) (i : Int)) (hasT (ys.drop i) x) := by
  intro d
  induction d with
  | zero =>
    intro i hi
    refine eround (fun k => by rw [spec_l17Has.l0]) (eneg (by omega) (enow ?_))
    rw [List.drop_eq_nil_of_le (by omega)]; rfl
  | succ d ih =>
    intro i hi
    have hlt : i < ys.length := by omega
    refine eround (fun k => by rw [spec_l17Has.l0]) (epos (by omega) (epos (by omega) (epos (by omega) ?_)))
    rw [show rdOf ByteArray.empty ys (i : Int) = ys[i] from getD_get ys i _ hlt, List.drop_eq_getElem_cons hlt, w64 (by omega) (by omega)]
    unfold hasT
    rw [List.any_cons]
    by_cases h : ys[i].toList = x.toList
    · exact epos h (enow (by simp [h]))
    · refine eneg h ?_
      rw [decide_eq_false h, Bool.false_or]
      exact ih (i + 1) (by omega)
theorem specHas_e (ys : List ByteArray) (x : ByteArray) (hn : ys.length ≤ 1048576) : Ev (fun k => spec_l17Has.f k ys x) (hasT ys x) := specHas_l ys x hn ys.length 0 (by omega)
theorem specNt_l3 (bs : List (List ByteArray)) (i : Nat) (b : List ByteArray) (hx : b.length ≤ 1048576) (R : Bool) (H : Ev (fun k => spec_GoodNet.l2 k bs (bs.length : Int) (wrap64 ((i : Int) + 1))) R) : ∀ (d j : Nat), j + d = b.length → Ev (fun k => spec_GoodNet.l3 k b bs (bs.length : Int) (i : Int) b (b.length : Int) (j : Int)) ((b.drop j).all (fun x => inR 1 15 (x.size : Int)) && (decide (b.length ≤ 60) && R)) := by
  intro d
  induction d with
  | zero =>
    intro j hj
    refine eround (fun k => by rw [spec_GoodNet.l3]) (eneg (by omega) ?_)
    rw [List.drop_eq_nil_of_le (by omega)]
    by_cases h : (b.length : Int) > 60
    · exact epos h (enow (by have : ¬ b.length ≤ 60 := by omega
                             simp [this]))
    · have h' : b.length ≤ 60 := by omega
      refine eneg h ?_
      simpa [h'] using H
  | succ d ih =>
    intro j hj
    have hlt : j < b.length := by omega
    refine eround (fun k => by rw [spec_GoodNet.l3]) (epos (by omega) (epos (by omega) (epos (by omega) ?_)))
    rw [show rdOf ByteArray.empty b (j : Int) = b[j] from getD_get b j _ hlt, List.drop_eq_getElem_cons hlt, List.all_cons]
    refine enb (l1In_eq _ _ _) ?_
    cases h : inR 1 15 (b[j].size : Int) with
    | true =>
      refine epos rfl ?_
      rw [w64 (x := (j : Int) + 1) (by omega) (by omega)]
      exact ih (j + 1) (by omega)
    | false => exact eneg (by simp) (enow (by simp))
theorem specNt_l2 (bs : List (List ByteArray)) (hb : smallT bs) : ∀ (d i : Nat), i + d = bs.length → Ev (fun k => spec_GoodNet.l2 k bs (bs.length : Int) (i : Int)) ((bs.drop i).all boxP) := by
  have hn := hb.1
  intro d
  induction d with
  | zero =>
    intro i hi
    refine eround (fun k => by rw [spec_GoodNet.l2]) (eneg (by omega) (enow ?_))
    rw [List.drop_eq_nil_of_le (by omega)]; rfl
  | succ d ih =>
    intro i hi
    have hlt : i < bs.length := by omega
    refine eround (fun k => by rw [spec_GoodNet.l2]) (epos (by omega) (epos (by omega) (epos (by omega) ?_)))
    rw [show rd_L2 bs (i : Int) = bs[i] from getD_get bs i _ hlt, List.drop_eq_getElem_cons hlt, List.all_cons]
    have hx := hb.2 _ (List.getElem_mem hlt)
    have := specNt_l3 bs i bs[i] hx _ (by rw [w64 (by omega) (by omega)]; exact ih (i + 1) (by omega)) bs[i].length 0 (by omega)
    unfold boxP
    rw [Bool.and_assoc]
    exact this
theorem specNt_l1 (K : List Int) (ins outs boxes : List (List ByteArray)) (t : Int) (i : Nat) (hi : i < ins.length) (hn : ins.length ≤ 1048576) (ho : i < outs.length) (hos : (outs.getD i []).length ≤ 1048576) (x : List ByteArray) (hx : x.length ≤ 1048576) (R : Bool) (H : Ev (fun k => spec_GoodNet.l0 k ins (ins.length : Int) (wrap64 ((i : Int) + 1)) K ins outs boxes t) R) :
    ∀ (d j : Nat), j + d = x.length → Ev (fun k => spec_GoodNet.l1 k (i : Int) ins (ins.length : Int) (i : Int) x (x.length : Int) (j : Int) K ins outs boxes t) ((x.drop j).all (hasT (outs.getD i [])) && R) := by
  intro d
  induction d with
  | zero =>
    intro j hj
    refine eround (fun k => by rw [spec_GoodNet.l1]) (eneg (by omega) ?_)
    rw [List.drop_eq_nil_of_le (by omega)]
    exact H
  | succ d ih =>
    intro j hj
    have hlt : j < x.length := by omega
    refine eround (fun k => by rw [spec_GoodNet.l1]) (epos (by omega) (epos (by omega) (epos (by omega) (epos (by omega) (epos (by omega) ?_)))))
    rw [show rdOf ByteArray.empty x (j : Int) = x[j] from getD_get x j _ hlt, List.drop_eq_getElem_cons hlt, List.all_cons, w64 (x := (j : Int) + 1) (by omega) (by omega), show rd_L2 outs (i : Int) = outs.getD i [] from by unfold rd_L2; rw [Int.toNat_natCast]]
    refine ebind (specHas_e _ _ hos) ?_
    cases hasT (outs.getD i []) x[j] with
    | true => exact epos rfl (by simpa using ih (j + 1) (by omega))
    | false => exact eneg (by simp) (enow (by simp))
theorem specNt_l0 (K : List Int) (ins outs boxes : List (List ByteArray)) (t : Int) (hi : smallT ins) (ho : smallT outs) (hb : smallT boxes) (hl : outs.length = ins.length) : ∀ (d i : Nat), i + d = ins.length → Ev (fun k => spec_GoodNet.l0 k ins (ins.length : Int) (i : Int) K ins outs boxes t) (allI (relayP outs) i (ins.drop i) && boxes.all boxP) := by
  have hn := hi.1
  intro d
  induction d with
  | zero =>
    intro i hd
    refine eround (fun k => by rw [spec_GoodNet.l0]) (eneg (by omega) ?_)
    rw [List.drop_eq_nil_of_le (by omega)]
    exact specNt_l2 boxes hb boxes.length 0 (by omega)
  | succ d ih =>
    intro i hd
    have hlt : i < ins.length := by omega
    refine eround (fun k => by rw [spec_GoodNet.l0]) (epos (by omega) (epos (by omega) (epos (by omega) ?_)))
    rw [show rd_L2 ins (i : Int) = ins[i] from getD_get ins i _ hlt, show rd_L2 outs (i : Int) = outs.getD i [] from by unfold rd_L2; rw [Int.toNat_natCast], List.drop_eq_getElem_cons hlt]
    have hx := hi.2 _ (List.getElem_mem hlt)
    generalize ins[i] = x at hx
    have hos : (outs.getD i []).length ≤ 1048576 := by
      rw [List.getD_eq_getElem?_getD, List.getElem?_eq_getElem (by omega)]
      exact ho.2 _ (List.getElem_mem _)
    have J : ∀ b, Ev (fun k => spec_GoodNet.j2 k (i : Int) x ins (ins.length : Int) (i : Int) b K ins outs boxes t) (!b && (x.all (hasT (outs.getD i [])) && (allI (relayP outs) (i + 1) (ins.drop (i + 1)) && boxes.all boxP))) := by
      intro b
      refine eround (fun k => by rw [spec_GoodNet.j2]) ?_
      cases b with
      | true => exact epos rfl (enow rfl)
      | false =>
        refine eneg (by simp) ?_
        have := specNt_l1 K ins outs boxes t i hlt hn (by omega) hos x hx _ (by rw [w64 (by omega) (by omega)]; exact ih (i + 1) (by omega)) x.length 0 (by omega)
        exact this
    simp only [allI, relayP]
    refine ebind (specOn_e x hx) ?_
    cases h1 : onG x with
    | false => refine eneg (by simp) ?_; simpa using J true
    | true =>
      refine epos rfl (epos (by omega) (ebind (specOn_e _ hos) ?_))
      have := J (!onG (outs.getD i []))
      rw [Bool.not_not] at this
      rw [Bool.true_and, Bool.and_assoc, Bool.and_assoc]
      exact this
theorem specNt_j0 (K : List Int) (ins outs boxes : List (List ByteArray)) (t : Int) (hi : smallT ins) (ho : smallT outs) (hb : smallT boxes) (b : Bool) (hl : b = false → outs.length = ins.length) : Ev (fun k => spec_GoodNet.j0 k b K ins outs boxes t) (!b && (allI (relayP outs) 0 ins && boxes.all boxP)) := by
  refine eround (fun k => by rw [spec_GoodNet.j0]) ?_
  cases b with
  | true => exact epos rfl (enow rfl)
  | false => exact eneg (by simp) (specNt_l0 K ins outs boxes t hi ho hb (hl rfl) ins.length 0 (by omega))
theorem specNt_e (K : List Int) (ins outs boxes : List (List ByteArray)) (t : Int) (hK : K.length ≤ 1048576) (hi : smallT ins) (ho : smallT outs) (hb : smallT boxes) : Ev (fun k => spec_GoodNet.f k K ins outs boxes t) (goodN K ins outs boxes t) := by
  have J := specNt_j0 K ins outs boxes t hi ho hb
  unfold spec_GoodNet.f goodN
  refine enb (l1In_eq _ _ _) ?_
  cases h1 : inR 1 4 (K.length : Int) with
  | false => refine eneg (by simp) ?_; simpa using J true (by simp)
  | true =>
    have h1' := inR_iff.1 h1
    refine epos rfl (ebind (l1All_e K 0 65535 (by omega)) ?_)
    cases h2 : K.all (inR 0 65535) with
    | false => refine eneg (by simp) ?_; simpa using J true (by simp)
    | true =>
      refine epos rfl ?_
      by_cases h3 : (ins.length : Int) = (K.length : Int)
      · refine epos h3 ?_
        by_cases h4 : (outs.length : Int) = (K.length : Int)
        · refine epos h4 ?_
          by_cases h5 : (boxes.length : Int) = 4
          · refine epos h5 (enb (l1In_eq _ _ _) ?_)
            have := J (!inR 0 60 t) (fun _ => by omega)
            simpa [h3, h4, h5] using this
          · refine eneg h5 ?_; simpa [h5] using J true (by simp)
        · refine eneg h4 ?_; simpa [h4] using J true (by simp)
      · refine eneg h3 ?_; simpa [h3] using J true (by simp)
theorem within_eq (a lo hi : Int) : impl_within.f a lo hi = some (inR lo hi a) := by
  unfold impl_within.f inR
  by_cases h : a ≥ lo <;> simp [h]
theorem allWithin_l (xs : List Int) (lo up : Int) (hn : xs.length ≤ 9223372036854775807) : ∀ (d i : Nat), i + d = xs.length → Ev (fun k => impl_allWithin.l0 k lo up xs (xs.length : Int) (i : Int)) ((xs.drop i).all (inR lo up)) := by
  intro d
  induction d with
  | zero =>
    intro i hi
    refine eround (fun k => by rw [impl_allWithin.l0]) ?_
    refine eneg (by omega) (enow ?_)
    rw [List.drop_eq_nil_of_le (by omega)]; rfl
  | succ d ih =>
    intro i hi
    have hlt : i < xs.length := by omega
    refine eround (fun k => by rw [impl_allWithin.l0]) ?_
    refine epos (by omega) (epos (by omega) (epos (by omega) ?_))
    rw [rd_get xs i hlt, List.drop_eq_getElem_cons hlt, List.all_cons]
    refine enb (within_eq _ _ _) ?_
    cases h : inR lo up xs[i] with
    | true =>
      refine epos rfl ?_
      rw [w64 (by omega) (by omega)]
      simpa using ih (i + 1) (by omega)
    | false => exact eneg (by simp) (enow (by simp))
theorem allWithin_e (xs : List Int) (lo up : Int) (hn : xs.length ≤ 9223372036854775807) : Ev (fun k => impl_allWithin.f k xs lo up) (xs.all (inR lo up)) :=
  allWithin_l xs lo up hn xs.length 0 (by omega)
theorem keys_e (K : List Int) (h : K.length ≤ 8) : Ev (fun k => impl_areKeys.f k K) (K.all (inR 0 65535)) := by
  unfold impl_areKeys.f
  exact epos (by omega) (ebind (allWithin_e K 0 65535 (by omega)) (enow rfl))
theorem implOn_l (xs : List ByteArray) (hn : xs.length ≤ 1048576) : ∀ (d i : Nat), i + d = xs.length → Ev (fun k => impl_areOnions.l0 k xs xs (xs.length : Int) (i : Int)) (allI (onP xs) i (xs.drop i) && decide ((xs.length : Int) ≤ 100)) := by
  intro d
  induction d with
  | zero =>
    intro i hi
    refine eround (fun k => by rw [impl_areOnions.l0]) (eneg (by omega) (enow ?_))
    rw [List.drop_eq_nil_of_le (by omega)]; rfl
  | succ d ih =>
    intro i hi
    have hlt : i < xs.length := by omega
    refine eround (fun k => by rw [impl_areOnions.l0]) (epos (by omega) (epos (by omega) (epos (by omega) ?_)))
    rw [show rdOf ByteArray.empty xs (i : Int) = xs[i] from getD_get xs i _ hlt, List.drop_eq_getElem_cons hlt, w64 (x := (i : Int) + 1) (by omega) (by omega)]
    simp only [allI]
    by_cases h : (xs[i].size : Int) = 24
    · refine epos h ?_
      by_cases h0 : (i : Int) > 0
      · refine epos h0 ?_
        rw [w64 (x := (i : Int) - 1) (by omega) (by omega)]
        refine epos (by omega) (epos (by omega) ?_)
        have e : rdOf ByteArray.empty xs ((i : Int) - 1) = xs.getD (i - 1) ByteArray.empty := by
          unfold rdOf
          rw [show ((i : Int) - 1).toNat = i - 1 by omega]
        rw [e]
        have hi0 : ¬ i = 0 := by omega
        cases hb : Op.bytesLess (xs.getD (i - 1) ByteArray.empty).toList xs[i].toList with
        | true =>
          refine epos rfl ?_
          have hp : onP xs i xs[i] = true := by unfold onP; rw [hb]; simp [h]
          rw [hp, Bool.true_and]
          exact ih (i + 1) (by omega)
        | false =>
          have hp : onP xs i xs[i] = false := by unfold onP; rw [hb]; simp [hi0]
          exact eneg (by simp) (enow (by rw [hp]; rfl))
      · refine eneg h0 ?_
        have hi0 : i = 0 := by omega
        have hp : onP xs i xs[i] = true := by unfold onP; rw [decide_eq_true h, decide_eq_true hi0]; rfl
        rw [hp, Bool.true_and]
        exact ih (i + 1) (by omega)
    · have hp : onP xs i xs[i] = false := by unfold onP; simp [h]
      exact eneg h (enow (by rw [hp]; rfl))
theorem implOn_e (xs : List ByteArray) (hn : xs.length ≤ 1048576) : Ev (fun k => impl_areOnions.f k xs) (onG xs) := implOn_l xs hn xs.length 0 (by omega)
theorem ixT_l (ys : List ByteArray) (x : ByteArray) (hn : ys.length ≤ 1048576) : ∀ (d i : Nat), i + d = ys.length → ∃ r : Int, Ev (fun k => slices_Index_string_string.l0 k ys x (ys.length : Int) (i : Int)) r ∧ (r ≥ 0 ↔ hasT (ys.drop i) x = true) := by
  intro d
  induction d with
  | zero =>
    intro i hi
    refine ⟨-1, eround (fun k => by rw [slices_Index_string_string.l0]) (eneg (by omega) (enow rfl)), ?_⟩
    rw [List.drop_eq_nil_of_le (by omega)]; simp [hasT]
  | succ d ih =>
    intro i hi
    have hlt : i < ys.length := by omega
    obtain ⟨r, h1, h3⟩ := ih (i + 1) (by omega)
    unfold hasT at h3 ⊢
    rw [List.drop_eq_getElem_cons hlt, List.any_cons]
    by_cases h : x.toList = ys[i].toList
    · refine ⟨(i : Int), eround (fun k => by rw [slices_Index_string_string.l0]) (epos (by omega) (epos (by omega) (epos (by omega) ?_))), by simp [h]⟩
      rw [show rdOf ByteArray.empty ys (i : Int) = ys[i] from getD_get ys i _ hlt]
      exact epos h (enow rfl)
    · refine ⟨r, eround (fun k => by rw [slices_Index_string_string.l0]) (epos (by omega) (epos (by omega) (epos (by omega) ?_))), by rw [decide_eq_false (fun z => h z.symm), Bool.false_or]; exact h3⟩
      rw [show rdOf ByteArray.empty ys (i : Int) = ys[i] from getD_get ys i _ hlt]
      refine eneg h ?_
      rw [w64 (by omega) (by omega)]
      exact h1
theorem implHas_e (ys : List ByteArray) (x : ByteArray) (hn : ys.length ≤ 1048576) : Ev (fun k => slices_Contains_string_string.f k ys x) (hasT ys x) := by
  obtain ⟨r, h1, h3⟩ := ixT_l ys x hn ys.length 0 (by omega)
  refine ebind (f := fun _ t => some (decide (t ≥ 0))) h1 (enow ?_)
  rw [List.drop_zero] at h3
  cases e : hasT ys x with
  | true => rw [e] at h3; simpa using h3
  | false => rw [e] at h3; simpa using h3
theorem gn1_eq (x : ByteArray) : impl_GoodNet_1.f x = some (!inR 1 15 (x.size : Int)) := by
  unfold impl_GoodNet_1.f
  rw [within_eq]; rfl
theorem ixB_l (xs : List ByteArray) (hn : xs.length ≤ 1048576) : ∀ (d i : Nat), i + d = xs.length → ∃ r : Int, Ev (fun k => slices_IndexFunc_42_at_36.l0 k xs (xs.length : Int) (i : Int)) r ∧ (r ≥ 0 ↔ (xs.drop i).all (fun x => inR 1 15 (x.size : Int)) = false) := by
  intro d
  induction d with
  | zero =>
    intro i hi
    refine ⟨-1, eround (fun k => by rw [slices_IndexFunc_42_at_36.l0]) (eneg (by omega) (enow rfl)), ?_⟩
    rw [List.drop_eq_nil_of_le (by omega)]; simp
  | succ d ih =>
    intro i hi
    have hlt : i < xs.length := by omega
    obtain ⟨r, h1, h3⟩ := ih (i + 1) (by omega)
    rw [List.drop_eq_getElem_cons hlt, List.all_cons]
    cases h : inR 1 15 (xs[i].size : Int) with
    | false =>
      refine ⟨(i : Int), eround (fun k => by rw [slices_IndexFunc_42_at_36.l0]) (epos (by omega) (epos (by omega) (epos (by omega) ?_))), by simp⟩
      rw [show rdOf ByteArray.empty xs (i : Int) = xs[i] from getD_get xs i _ hlt]
      exact enb (gn1_eq _) (epos (by rw [h]; rfl) (enow rfl))
    | true =>
      refine ⟨r, eround (fun k => by rw [slices_IndexFunc_42_at_36.l0]) (epos (by omega) (epos (by omega) (epos (by omega) ?_))), by rw [Bool.true_and]; exact h3⟩
      rw [show rdOf ByteArray.empty xs (i : Int) = xs[i] from getD_get xs i _ hlt]
      refine enb (gn1_eq _) (eneg (by rw [h]; decide) ?_)
      rw [w64 (by omega) (by omega)]
      exact h1
theorem coB_e (xs : List ByteArray) (hn : xs.length ≤ 1048576) : Ev (fun k => slices_ContainsFunc_35_at_36.f k xs) (!xs.all (fun x => inR 1 15 (x.size : Int))) := by
  obtain ⟨r, h1, h3⟩ := ixB_l xs hn xs.length 0 (by omega)
  refine ebind (f := fun _ t => some (decide (t ≥ 0))) h1 (enow ?_)
  rw [List.drop_zero] at h3
  cases e : xs.all (fun x => inR 1 15 (x.size : Int)) with
  | true => rw [e] at h3; simpa using h3
  | false => rw [e] at h3; simpa using h3
theorem implNt_l2 (bs : List (List ByteArray)) (hb : smallT bs) : ∀ (d i : Nat), i + d = bs.length → Ev (fun k => impl_GoodNet.l2 k bs (bs.length : Int) (i : Int)) ((bs.drop i).all boxP) := by
  have hn := hb.1
  intro d
  induction d with
  | zero =>
    intro i hi
    refine eround (fun k => by rw [impl_GoodNet.l2]) (eneg (by omega) (enow ?_))
    rw [List.drop_eq_nil_of_le (by omega)]; rfl
  | succ d ih =>
    intro i hi
    have hlt : i < bs.length := by omega
    refine eround (fun k => by rw [impl_GoodNet.l2]) (epos (by omega) (epos (by omega) (epos (by omega) ?_)))
    rw [show rd_L2 bs (i : Int) = bs[i] from getD_get bs i _ hlt, List.drop_eq_getElem_cons hlt, List.all_cons, w64 (by omega) (by omega)]
    have hx := hb.2 _ (List.getElem_mem hlt)
    generalize bs[i] = b at hx
    unfold boxP
    by_cases h : (b.length : Int) > 60
    · exact epos h (enow (by have : ¬ b.length ≤ 60 := by omega
                             simp [this]))
    · refine eneg h (ebind (coB_e b hx) ?_)
      have h' : b.length ≤ 60 := by omega
      cases hh : b.all (fun x => inR 1 15 (x.size : Int)) with
      | false => exact epos rfl (enow (by simp))
      | true =>
        refine eneg (by simp) ?_
        rw [decide_eq_true h', Bool.true_and, Bool.true_and]
        exact ih (i + 1) (by omega)
theorem implNt_l1 (K : List Int) (ins outs boxes : List (List ByteArray)) (t : Int) (i : Nat) (hi : i < ins.length) (hn : ins.length ≤ 1048576) (ho : i < outs.length) (hos : (outs.getD i []).length ≤ 1048576) (x : List ByteArray) (hx : x.length ≤ 1048576) (R : Bool) (H : Ev (fun k => impl_GoodNet.l0 k ins (ins.length : Int) (wrap64 ((i : Int) + 1)) K ins outs boxes t) R) :
    ∀ (d j : Nat), j + d = x.length → Ev (fun k => impl_GoodNet.l1 k (i : Int) ins (ins.length : Int) (i : Int) x (x.length : Int) (j : Int) K ins outs boxes t) ((x.drop j).all (hasT (outs.getD i [])) && R) := by
  intro d
  induction d with
  | zero =>
    intro j hj
    refine eround (fun k => by rw [impl_GoodNet.l1]) (eneg (by omega) ?_)
    rw [List.drop_eq_nil_of_le (by omega)]
    exact H
  | succ d ih =>
    intro j hj
    have hlt : j < x.length := by omega
    refine eround (fun k => by rw [impl_GoodNet.l1]) (epos (by omega) (epos (by omega) (epos (by omega) (epos (by omega) (epos (by omega) ?_)))))
    rw [show rdOf ByteArray.empty x (j : Int) = x[j] from getD_get x j _ hlt, List.drop_eq_getElem_cons hlt, List.all_cons, w64 (x := (j : Int) + 1) (by omega) (by omega), show rd_L2 outs (i : Int) = outs.getD i [] from by unfold rd_L2; rw [Int.toNat_natCast]]
    refine ebind (implHas_e _ _ hos) ?_
    cases hasT (outs.getD i []) x[j] with
    | true => exact epos rfl (by simpa using ih (j + 1) (by omega))
    | false => exact eneg (by simp) (enow (by simp))
theorem implNt_l0 (K : List Int) (ins outs boxes : List (List ByteArray)) (t : Int) (hi : smallT ins) (ho : smallT outs) (hb : smallT boxes) (hl : outs.length = ins.length) : ∀ (d i : Nat), i + d = ins.length → Ev (fun k => impl_GoodNet.l0 k ins (ins.length : Int) (i : Int) K ins outs boxes t) (allI (relayP outs) i (ins.drop i) && boxes.all boxP) := by
  have hn := hi.1
  intro d
  induction d with
  | zero =>
    intro i hd
    refine eround (fun k => by rw [impl_GoodNet.l0]) (eneg (by omega) ?_)
    rw [List.drop_eq_nil_of_le (by omega)]
    exact implNt_l2 boxes hb boxes.length 0 (by omega)
  | succ d ih =>
    intro i hd
    have hlt : i < ins.length := by omega
    refine eround (fun k => by rw [impl_GoodNet.l0]) (epos (by omega) (epos (by omega) (epos (by omega) ?_)))
    rw [show rd_L2 ins (i : Int) = ins[i] from getD_get ins i _ hlt, show rd_L2 outs (i : Int) = outs.getD i [] from by unfold rd_L2; rw [Int.toNat_natCast], List.drop_eq_getElem_cons hlt]
    have hx := hi.2 _ (List.getElem_mem hlt)
    generalize ins[i] = x at hx
    have hos : (outs.getD i []).length ≤ 1048576 := by
      rw [List.getD_eq_getElem?_getD, List.getElem?_eq_getElem (by omega)]
      exact ho.2 _ (List.getElem_mem _)
    have J : ∀ b, Ev (fun k => impl_GoodNet.j2 k (i : Int) x ins (ins.length : Int) (i : Int) b K ins outs boxes t) (!b && (x.all (hasT (outs.getD i [])) && (allI (relayP outs) (i + 1) (ins.drop (i + 1)) && boxes.all boxP))) := by
      intro b
      refine eround (fun k => by rw [impl_GoodNet.j2]) ?_
      cases b with
      | true => exact epos rfl (enow rfl)
      | false =>
        refine eneg (by simp) ?_
        have := implNt_l1 K ins outs boxes t i hlt hn (by omega) hos x hx _ (by rw [w64 (by omega) (by omega)]; exact ih (i + 1) (by omega)) x.length 0 (by omega)
        exact this
    simp only [allI, relayP]
    refine ebind (implOn_e x hx) ?_
    cases h1 : onG x with
    | false => refine eneg (by simp) ?_; simpa using J true
    | true =>
      refine epos rfl (epos (by omega) (ebind (implOn_e _ hos) ?_))
      have := J (!onG (outs.getD i []))
      rw [Bool.not_not] at this
      rw [Bool.true_and, Bool.and_assoc, Bool.and_assoc]
      exact this
theorem implNt_j0 (K : List Int) (ins outs boxes : List (List ByteArray)) (t : Int) (hi : smallT ins) (ho : smallT outs) (hb : smallT boxes) (b : Bool) (hl : b = false → outs.length = ins.length) : Ev (fun k => impl_GoodNet.j0 k b K ins outs boxes t) (!b && (allI (relayP outs) 0 ins && boxes.all boxP)) := by
  refine eround (fun k => by rw [impl_GoodNet.j0]) ?_
  cases b with
  | true => exact epos rfl (enow rfl)
  | false => exact eneg (by simp) (implNt_l0 K ins outs boxes t hi ho hb (hl rfl) ins.length 0 (by omega))
theorem implNt_e (K : List Int) (ins outs boxes : List (List ByteArray)) (t : Int) (hK : K.length ≤ 1048576) (hi : smallT ins) (ho : smallT outs) (hb : smallT boxes) : Ev (fun k => impl_GoodNet.f k K ins outs boxes t) (goodN K ins outs boxes t) := by
  have J := implNt_j0 K ins outs boxes t hi ho hb
  unfold impl_GoodNet.f goodN
  refine enb (within_eq _ _ _) ?_
  cases h1 : inR 1 4 (K.length : Int) with
  | false => refine eneg (by simp) ?_; simpa using J true (by simp)
  | true =>
    have h1' := inR_iff.1 h1
    refine epos rfl (ebind (keys_e K (by omega)) ?_)
    cases h2 : K.all (inR 0 65535) with
    | false => refine eneg (by simp) ?_; simpa using J true (by simp)
    | true =>
      refine epos rfl ?_
      by_cases h3 : (ins.length : Int) = (K.length : Int)
      · refine epos h3 ?_
        by_cases h4 : (outs.length : Int) = (K.length : Int)
        · refine epos h4 ?_
          by_cases h5 : (boxes.length : Int) = 4
          · refine epos h5 (enb (within_eq _ _ _) ?_)
            have := J (!inR 0 60 t) (fun _ => by omega)
            simpa [h3, h4, h5] using this
          · refine eneg h5 ?_; simpa [h5] using J true (by simp)
        · refine eneg h4 ?_; simpa [h4] using J true (by simp)
      · refine eneg h3 ?_; simpa [h3] using J true (by simp)
def cutF (x : ByteArray) : ByteArray := x.extract 1 x.size
theorem cuts_l (W : List ByteArray) : ∀ (R D : List ByteArray), D.length + R.length = W.length → W.length ≤ 1048576 → NE R → Ev (fun k => impl_Net_inbox.l0 k (D.map cutF ++ R) (W.length : Int) (D.length : Int)) ((D ++ R).map cutF)
  | [], D, hl, _, _ => eround (fun k => by rw [impl_Net_inbox.l0]) (eneg (by simp at hl; omega) (enow (by simp)))
  | x :: R, D, hl, hn, hne => by
    simp only [List.length_cons] at hl
    have hx : 0 < x.size := hne x (by simp)
    have g1 : rdOf ByteArray.empty (D.map cutF ++ x :: R) (D.length : Int) = x := rE_mid _ _ _ _ (by simp)
    refine eround (fun k => by rw [impl_Net_inbox.l0]) (epos (by omega) (epos (by omega) (epos (by simp; omega) ?_)))
    rw [g1, sE_mid _ _ _ _ _ (by simp), w64 (by omega) (by omega)]
    refine epos (by omega) ?_
    have := cuts_l W R (D ++ [x]) (by simp; omega) hn (fun y h => hne y (by simp [h]))
    rw [show ((D ++ [x]).length : Int) = (D.length : Int) + 1 by simp] at this
    simpa [cutF] using this
theorem implBox_e (K : List Int) (ins outs boxes : List (List ByteArray)) (t : Int) (u : Nat) (hu : u < boxes.length) (hn : (boxes.getD u []).length ≤ 1048576) (hne : NE (boxes.getD u [])) : Ev (fun k => impl_Net_inbox.f k K ins outs boxes t (u : Int)) ((stS k0 (boxes.getD u [])).map cutF) := by
  unfold impl_Net_inbox.f
  refine epos (by omega) (epos (by omega) ?_)
  rw [show rd_L2 boxes (u : Int) = boxes.getD u [] from by unfold rd_L2; rw [Int.toNat_natCast]]
  generalize boxes.getD u [] = B at *
  refine enb (a := B) (by unfold slices_Clone_string_string.f; rw [Option.bind_some, if_pos (by simp; omega)]; rfl) (ebind (stable_e B hn hne) ?_)
  have := cuts_l B (stS k0 B) [] (by simp [stS_length]) hn hne.stS
  simpa using this
/-! the reference: put in place, one by one -/
theorem specIns_l (x : ByteArray) (hx : 0 < x.size) (B : List ByteArray) (W j : Int) (r : List ByteArray × Bool) (S : List ByteArray) (hn : S.length ≤ 1048576) (H : Ev (fun k => spec_InboxOf.l0 k (ins k0 x S) B W (wrap64 (j + 1))) r) : ∀ (R D : List ByteArray), S = D ++ R → NE S → (∀ y ∈ D, k0 y ≤ k0 x) → Srt k0 S → Ev (fun k => spec_InboxOf.l1 k S x (D.length : Int) B W j) r
  | [], D, hS, hne, hD, hs => by
    subst hS
    have e : ins k0 x (D ++ []) = D ++ [x] := by
      obtain ⟨l1, l2, e1, e2, e3, e4⟩ := ins_form x _ hs
      rw [e2]
      simp only [List.append_nil] at e1
      cases l2 with
      | nil =>
        rw [List.append_nil] at e1
        rw [e1]
      | cons y l2 =>
        have h1 := e4 y (by simp)
        have h2 := hD y (by rw [e1]; simp)
        omega
    rw [e] at H
    refine eround (fun k => by rw [spec_InboxOf.l1]) ?_
    refine eneg (by simp) ?_
    simp only [List.append_nil] at hn ⊢
    refine enb rfl (epos (by omega) (epos (by omega) ?_))
    refine enb rfl (epos (by simp; omega) ?_)
    refine enb rfl (epos (by simp; omega) ?_)
    refine enb rfl ?_
    refine enb rfl (epos (by simp; omega) ?_)
    simpa using H
  | y :: R, D, hS, hne, hD, hs => by
    subst hS
    have g1 : rdOf ByteArray.empty (D ++ y :: R) (D.length : Int) = y := rE_mid _ _ _ _ rfl
    have hy : 0 < y.size := hne y (by simp)
    refine eround (fun k => by rw [spec_InboxOf.l1]) (epos (by simp; omega) (epos (by omega) ?_))
    rw [g1]
    refine epos (by omega) (epos (by omega) ?_)
    by_cases q : bt y 0 ≤ bt x 0
    · refine epos q ?_
      rw [w64 (by omega) (by simp at hn; omega)]
      have := specIns_l x hx B W j r (D ++ y :: R) hn H R (D ++ [y]) (by simp) hne (fun z h => by
        rcases List.mem_append.1 h with h | h
        · exact hD z h
        · rw [List.mem_singleton.1 h]; exact q) hs
      rw [show ((D ++ [y]).length : Int) = (D.length : Int) + 1 by simp] at this
      exact this
    · have e : ins k0 x (D ++ y :: R) = D ++ x :: y :: R := by
        refine Srt.eq (ins_ok x _ hs).1 (Srt.app hs.left (List.pairwise_cons.2 ⟨?_, hs.right⟩) ?_) ((ins_ok x _ hs).2.symm.trans ?_)
        · intro z hz
          rcases List.mem_cons.1 hz with rfl | hz
          · show bt x 0 ≤ bt z 0; omega
          · have := (List.pairwise_cons.1 hs.right).1 z hz
            have : bt y 0 ≤ bt z 0 := this
            show bt x 0 ≤ bt z 0; omega
        · intro a ha b hb
          rcases List.mem_cons.1 hb with rfl | hb
          · exact hD a ha
          · exact hs.le a ha b hb
        · rw [List.append_assoc]
          refine (StEq.refl D).app ((StEq.swap (A := y :: R) (B := [x]) ?_).trans (by simpa using StEq.refl _))
          intro a ha b hb
          rw [List.mem_singleton.1 hb]
          have h1 : bt y 0 ≤ bt a 0 := by
            rcases List.mem_cons.1 ha with rfl | ha
            · exact Int.le_refl _
            · exact (List.pairwise_cons.1 hs.right).1 a ha
          show bt a 0 ≠ bt x 0
          omega
      rw [e] at H
      refine eneg q ?_
      simp only [List.length_append, List.length_cons] at hn
      refine enb rfl (epos (by simp; omega) ?_)
      refine enb rfl (epos (by simp; omega) ?_)
      refine enb rfl (epos (by simp; omega) ?_)
      refine enb rfl ?_
      refine enb rfl (epos (by simp; omega) ?_)
      simpa using H
theorem specCuts_l (S : List ByteArray) (hn : S.length ≤ 1048576) : ∀ (R D : List ByteArray), S = D ++ R → NE R → Ev (fun k => spec_InboxOf.l2 k S (D.map cutF) (S.length : Int) (D.length : Int)) (S.map cutF, true)
  | [], D, hS, _ => by
    subst hS
    exact eround (fun k => by rw [spec_InboxOf.l2]) (eneg (by simp) (enow (by simp)))
  | x :: R, D, hS, hne => by
    subst hS
    have g1 : rdOf ByteArray.empty (D ++ x :: R) (D.length : Int) = x := rE_mid _ _ _ _ rfl
    have hx : 0 < x.size := hne x (by simp)
    simp only [List.length_append, List.length_cons] at hn
    refine eround (fun k => by rw [spec_InboxOf.l2]) (epos (by simp; omega) (epos (by omega) (epos (by simp; omega) ?_)))
    rw [g1, w64 (by omega) (by omega)]
    refine epos (by omega) (epos (by simp; omega) ?_)
    have := specCuts_l (D ++ x :: R) (by simp; omega) R (D ++ [x]) (by simp) (fun y h => hne y (by simp [h]))
    rw [show ((D ++ [x]).length : Int) = (D.length : Int) + 1 by simp] at this
    simpa [cutF] using this
theorem specBox_l (B : List ByteArray) (hn : B.length ≤ 1048576) (hne : NE B) : ∀ (R D : List ByteArray), B = D ++ R → Ev (fun k => spec_InboxOf.l0 k (stS k0 D) B (B.length : Int) (D.length : Int)) ((stS k0 B).map cutF, true)
  | [], D, hB => by
    subst hB
    refine eround (fun k => by rw [spec_InboxOf.l0]) (eneg (by simp) ?_)
    rw [List.append_nil] at *
    have := specCuts_l (stS k0 D) (by rw [stS_length]; exact hn) (stS k0 D) [] rfl hne.stS
    simpa using this
  | x :: R, D, hB => by
    subst hB
    have g1 : rdOf ByteArray.empty (D ++ x :: R) (D.length : Int) = x := rE_mid _ _ _ _ rfl
    have hl := hn
    simp only [List.length_append, List.length_cons] at hl
    refine eround (fun k => by rw [spec_InboxOf.l0]) (epos (by simp; omega) (epos (by omega) (epos (by simp; omega) ?_)))
    rw [g1]
    refine specIns_l x (hne x (by simp)) _ _ _ _ (stS k0 D) (by rw [stS_length]; omega) ?_ (stS k0 D) [] rfl (fun y h => hne y (by have := stS_mem h; simp [this])) (by simp) (stS_ok D).1
    rw [← stS_snoc, w64 (by omega) (by omega)]
    have := specBox_l (D ++ x :: R) hn hne R (D ++ [x]) (by simp)
    rw [show ((D ++ [x]).length : Int) = (D.length : Int) + 1 by simp] at this
    exact this
def inboxR (K : List Int) (ins outs boxes : List (List ByteArray)) (t u : Int) : List ByteArray × Bool := if (goodN K ins outs boxes t && inR 0 3 u) = true then ((stS k0 (boxes.getD u.toNat [])).map cutF, true) else ([], false)
theorem goodN_box {K : List Int} {ins outs boxes : List (List ByteArray)} {t u : Int} (h : goodN K ins outs boxes t = true) (hu : inR 0 3 u = true) : ∃ v : Nat, u = v ∧ v < boxes.length ∧ NE (boxes.getD v []) ∧ (boxes.getD v []).length ≤ 60 := by
  unfold goodN at h
  simp only [Bool.and_eq_true, decide_eq_true_eq] at h
  obtain ⟨-, -, -, -, h5, -, -, h8⟩ := h
  have hu' := inR_iff.1 hu
  have hv : u.toNat < boxes.length := by omega
  have hb := List.all_eq_true.1 h8 _ (List.getElem_mem hv)
  have e : boxes.getD u.toNat [] = boxes[u.toNat] := by rw [List.getD_eq_getElem?_getD, List.getElem?_eq_getElem hv]; rfl
  unfold boxP at hb
  simp only [Bool.and_eq_true, decide_eq_true_eq] at hb
  refine ⟨u.toNat, by omega, hv, ?_, by rw [e]; exact hb.2⟩
  intro x hx
  rw [e] at hx
  have := inR_iff.1 (List.all_eq_true.1 hb.1 x hx)
  omega
theorem implIb_e (K : List Int) (ins outs boxes : List (List ByteArray)) (t u : Int) (hK : K.length ≤ 1048576) (hi : smallT ins) (ho : smallT outs) (hb : smallT boxes) : Ev (fun k => impl_InboxOf.f k K ins outs boxes t u) (inboxR K ins outs boxes t u) := by
  unfold impl_InboxOf.f inboxR
  refine ebind (implNt_e K ins outs boxes t hK hi ho hb) ?_
  cases h1 : goodN K ins outs boxes t with
  | false => exact eneg (by decide) (enow rfl)
  | true =>
    refine epos rfl (enb (within_eq _ _ _) ?_)
    cases h2 : inR 0 3 u with
    | false => exact eneg (by decide) (enow rfl)
    | true =>
      obtain ⟨v, rfl, hv, hne, hl⟩ := goodN_box h1 h2
      refine epos rfl (ebind (implBox_e K ins outs boxes t v hv (by omega) hne) (enow ?_))
      simp
theorem specIb_e (K : List Int) (ins outs boxes : List (List ByteArray)) (t u : Int) (hK : K.length ≤ 1048576) (hi : smallT ins) (ho : smallT outs) (hb : smallT boxes) : Ev (fun k => spec_InboxOf.f k K ins outs boxes t u) (inboxR K ins outs boxes t u) := by
  unfold spec_InboxOf.f inboxR
  refine ebind (specNt_e K ins outs boxes t hK hi ho hb) ?_
  cases h1 : goodN K ins outs boxes t with
  | false =>
    refine eneg (by decide) (eround (fun k => by rw [spec_InboxOf.j0]) ?_)
    exact epos rfl (enow rfl)
  | true =>
    refine epos rfl (enb (l1In_eq _ _ _) ?_)
    cases h2 : inR 0 3 u with
    | false =>
      refine eround (fun k => by rw [spec_InboxOf.j0]) ?_
      exact epos rfl (enow rfl)
    | true =>
      obtain ⟨v, rfl, hv, hne, hl⟩ := goodN_box h1 h2
      refine eround (fun k => by rw [spec_InboxOf.j0]) (eneg (by decide) (epos (by omega) (epos (by omega) ?_)))
      rw [show rd_L2 boxes (v : Int) = boxes.getD v [] from by unfold rd_L2; rw [Int.toNat_natCast]]
      have := specBox_l (boxes.getD v []) (by omega) hne (boxes.getD v []) [] rfl
      rw [show stS k0 ([] : List ByteArray) = [] from rfl] at this
      simpa using this
theorem inboxR_small (K : List Int) (ins outs boxes : List (List ByteArray)) (t u : Int) : (inboxR K ins outs boxes t u).1.length ≤ 1048576 := by
  unfold inboxR
  split
  · rename_i h
    simp only [Bool.and_eq_true] at h
    obtain ⟨v, rfl, hv, hne, hl⟩ := goodN_box h.1 h.2
    simp [stS_length]; simp at hl; omega
  · simp
theorem FnExactInboxOf : laws_FnExactInboxOf.Pure := by
  intro K ins outs boxes t u hw _
  obtain ⟨w0, w1, w2, w3, _⟩ := hw
  apply Ev.rounds
  unfold laws_FnExactInboxOf.f
  obtain ⟨r, _, r2, r3⟩ := laws_szNet_z K ins outs boxes t 1048576 (by omega) (by omega) w0.1 ⟨w1.1, fun y hy => ⟨(w1.2 y hy).1, (w1.2 y hy).2⟩⟩ ⟨w2.1, fun y hy => ⟨(w2.2 y hy).1, (w2.2 y hy).2⟩⟩ ⟨w3.1, fun y hy => ⟨(w3.2 y hy).1, (w3.2 y hy).2⟩⟩
  refine ebind r2 ?_
  by_cases hr : r < 0
  · exact epos hr (enow rfl)
  · refine eneg hr ?_
    obtain ⟨c0, c1, c2, c3⟩ := r3 (by omega)
    have e1 := laws_toNet_e K ins outs boxes t c0 c1 c2 c3
    have e2 := specIb_e K ins outs boxes t u c0 c1 c2 c3
    have e3 := implIb_e K ins outs boxes t u c0 c1 c2 c3
    have e4 := laws_eqStringS_r (inboxR K ins outs boxes t u).1 (inboxR_small K ins outs boxes t u)
    have e5 := laws_eqNet_r K ins outs boxes t c0 c1 c2 c3
    obtain ⟨_, _, _, _, m, m0, m1, q1⟩ := laws_markNet_m K ins outs boxes t 1 c0 c1 c2 c3 (by omega) (by omega)
    obtain ⟨ys, _, q2, q3⟩ := laws_markStringS_m (inboxR K ins outs boxes t u).1 1 (inboxR_small K ins outs boxes t u) (by omega) (by have := inboxR_small K ins outs boxes t u; omega)
    exact ebind e1 (ebind e2 (ebind e3 (ebind e4 (epos ⟨rfl, rfl⟩ (ebind e5 (epos rfl (ebind q1 (epos (by omega) (ebind q2 (ebind q3 (epos ⟨by omega, rfl⟩ (enow rfl))))))))))))

end Go.Proofs.Ytmhdjkbfghfajaa.Pure
