/- The law FnExactGoodNet, told over lists: the program's GoodNet and the reference's answer alike. No condition. -/
import Derived.Test.YtpibdgknmjjolaaQFnExactGoodNetx7
import Derived.Test.YtpibdgknmjjolaaPk
namespace Go.Proofs.Ytpibdgknmjjolaa.Pure
open Go.RowKit Go.Proofs.Ytpibdgknmjjolaa.QFnExactGoodNet Go.Proofs.YtpibdgknmjjolaaW.PrintWords Go.Proofs.YtpibdgknmjjolaaW.PrintLast Go.Proofs.YtpibdgknmjjolaaW.PrintMore Go.Proofs.Ytpibdgknmjjolaa
set_option linter.unusedVariables false
set_option linter.unusedSimpArgs false

open Pk
/-! laws_szIntS -/
theorem laws_szIntS_z (xs : List Int) (m : Int) (h0 : 0 ≤ m) (h1 : m ≤ 1048576) (hw : xs.length ≤ 9223372036854775807) : ∃ r, r ≤ m ∧ laws_szIntS.f xs m = some r ∧ (0 ≤ r → xs.length ≤ 1048576) := by
  unfold laws_szIntS.f
  rw [w64 (by omega) (by omega)]
  by_cases h : m - (xs.length : Int) < 0
  · exact ⟨-1, by omega, if_pos h, fun h => by omega⟩
  · exact ⟨_, by omega, if_neg h, fun _ => by omega⟩
/-! laws_szStringS -/
theorem laws_szStringS_l (xs : List ByteArray) (hw : xs.length ≤ 9223372036854775807 ∧ ∀ y ∈ xs, y.size ≤ 9223372036854775807) : ∀ (d i : Nat) (m : Int), i + d = xs.length → 0 ≤ m → m ≤ 1048576 → ∃ r, r ≤ m ∧ Ev (fun k => laws_szStringS.l0 k xs m (i : Int)) r ∧ (0 ≤ r → ∀ y ∈ xs.drop i, True) := by
  have hn := hw.1
  intro d
  induction d with
  | zero =>
    intro i m hi h0 h1
    exact ⟨m, Int.le_refl _, eround (fun k => by rw [laws_szStringS.l0]) (eneg (by omega) (enow rfl)), fun _ y hy => by rw [List.drop_eq_nil_of_le (by omega)] at hy; simp at hy⟩
  | succ d ih =>
    intro i m hi h0 h1
    have hlt : i < xs.length := by omega
    have hg : rdOf ByteArray.empty xs (i : Int) = xs[i] := getD_get xs i _ hlt
    have hy := hw.2 _ (List.getElem_mem hlt)
    have t1 : m - (xs[i].size : Int) ≤ m := by omega
    have t3 : 0 ≤ m - (xs[i].size : Int) → True := fun _ => trivial
    generalize hq : m - (xs[i].size : Int) = t at t1 t3
    by_cases ht : t < 0
    · refine ⟨-1, by omega, eround (fun k => by rw [laws_szStringS.l0]) (epos (by omega) (epos (by omega) ?_)), fun h => by omega⟩
      rw [hg]
      rw [w64 (x := m - (xs[i].size : Int)) (by omega) (by omega), hq]
      exact epos ht (enow rfl)
    · obtain ⟨r, r1, r2, r3⟩ := ih (i + 1) t (by omega) (by omega) (by omega)
      refine ⟨r, by omega, eround (fun k => by rw [laws_szStringS.l0]) (epos (by omega) (epos (by omega) ?_)), fun h y hy' => ?_⟩
      · rw [hg, w64 (x := (i : Int) + 1) (by omega) (by omega)]
        rw [w64 (x := m - (xs[i].size : Int)) (by omega) (by omega), hq]
        refine eneg ht ?_
        exact r2
      · rw [List.drop_eq_getElem_cons hlt] at hy'
        rcases List.mem_cons.1 hy' with rfl | hy'
        · exact t3 (by omega)
        · exact r3 h y hy'
theorem laws_szStringS_z (xs : List ByteArray) (m : Int) (h0 : 0 ≤ m) (h1 : m ≤ 1048576) (hw : xs.length ≤ 9223372036854775807 ∧ ∀ y ∈ xs, y.size ≤ 9223372036854775807) : ∃ r, r ≤ m ∧ Ev (fun k => laws_szStringS.f k xs m) r ∧ (0 ≤ r → xs.length ≤ 1048576) := by
  have hn := hw.1
  unfold laws_szStringS.f
  rw [w64 (by omega) (by omega)]
  by_cases h : m - (xs.length : Int) < 0
  · exact ⟨-1, by omega, epos h (enow rfl), fun h => by omega⟩
  · obtain ⟨r, r1, r2, r3⟩ := laws_szStringS_l xs hw xs.length 0 (m - xs.length) (by omega) (by omega) (by omega)
    exact ⟨r, by omega, eneg h r2, fun h => by omega⟩
/-! laws_szStringSS -/
theorem laws_szStringSS_l (xs : List (List ByteArray)) (hw : xs.length ≤ 9223372036854775807 ∧ ∀ y ∈ xs, y.length ≤ 9223372036854775807 ∧ ∀ z ∈ y, z.size ≤ 9223372036854775807) : ∀ (d i : Nat) (m : Int), i + d = xs.length → 0 ≤ m → m ≤ 1048576 → ∃ r, r ≤ m ∧ Ev (fun k => laws_szStringSS.l0 k xs m (i : Int)) r ∧ (0 ≤ r → ∀ y ∈ xs.drop i, y.length ≤ 1048576) := by
  have hn := hw.1
  intro d
  induction d with
  | zero =>
    intro i m hi h0 h1
    exact ⟨m, Int.le_refl _, eround (fun k => by rw [laws_szStringSS.l0]) (eneg (by omega) (enow rfl)), fun _ y hy => by rw [List.drop_eq_nil_of_le (by omega)] at hy; simp at hy⟩
  | succ d ih =>
    intro i m hi h0 h1
    have hlt : i < xs.length := by omega
    have hg : rd_L2 xs (i : Int) = xs[i] := getD_get xs i _ hlt
    have hy := hw.2 _ (List.getElem_mem hlt)
    obtain ⟨t, t1, t2, t3⟩ := laws_szStringS_z xs[i] m h0 h1 hy
    by_cases ht : t < 0
    · refine ⟨-1, by omega, eround (fun k => by rw [laws_szStringSS.l0]) (epos (by omega) (epos (by omega) ?_)), fun h => by omega⟩
      rw [hg]
      exact ebind t2 (epos ht (enow rfl))
    · obtain ⟨r, r1, r2, r3⟩ := ih (i + 1) t (by omega) (by omega) (by omega)
      refine ⟨r, by omega, eround (fun k => by rw [laws_szStringSS.l0]) (epos (by omega) (epos (by omega) ?_)), fun h y hy' => ?_⟩
      · rw [hg, w64 (x := (i : Int) + 1) (by omega) (by omega)]
        refine ebind t2 (eneg ht ?_)
        exact r2
      · rw [List.drop_eq_getElem_cons hlt] at hy'
        rcases List.mem_cons.1 hy' with rfl | hy'
        · exact t3 (by omega)
        · exact r3 h y hy'
theorem laws_szStringSS_z (xs : List (List ByteArray)) (m : Int) (h0 : 0 ≤ m) (h1 : m ≤ 1048576) (hw : xs.length ≤ 9223372036854775807 ∧ ∀ y ∈ xs, y.length ≤ 9223372036854775807 ∧ ∀ z ∈ y, z.size ≤ 9223372036854775807) : ∃ r, r ≤ m ∧ Ev (fun k => laws_szStringSS.f k xs m) r ∧ (0 ≤ r → xs.length ≤ 1048576 ∧ ∀ y ∈ xs, y.length ≤ 1048576) := by
  have hn := hw.1
  unfold laws_szStringSS.f
  rw [w64 (by omega) (by omega)]
  by_cases h : m - (xs.length : Int) < 0
  · exact ⟨-1, by omega, epos h (enow rfl), fun h => by omega⟩
  · obtain ⟨r, r1, r2, r3⟩ := laws_szStringSS_l xs hw xs.length 0 (m - xs.length) (by omega) (by omega) (by omega)
    exact ⟨r, by omega, eneg h r2, fun h => ⟨by omega, fun y hy => r3 h y hy⟩⟩
/-! laws_szNet -/
theorem laws_szNet_z (l0_0 : List Int) (l0_1 : List (List ByteArray)) (l0_2 : List (List ByteArray)) (l0_3 : List (List ByteArray)) (a0_4 : Int) (m : Int) (h0 : 0 ≤ m) (h1 : m ≤ 1048576) (hwl0_0 : l0_0.length ≤ 9223372036854775807) (hwl0_1 : l0_1.length ≤ 9223372036854775807 ∧ ∀ y ∈ l0_1, y.length ≤ 9223372036854775807 ∧ ∀ z ∈ y, z.size ≤ 9223372036854775807) (hwl0_2 : l0_2.length ≤ 9223372036854775807 ∧ ∀ y ∈ l0_2, y.length ≤ 9223372036854775807 ∧ ∀ z ∈ y, z.size ≤ 9223372036854775807) (hwl0_3 : l0_3.length ≤ 9223372036854775807 ∧ ∀ y ∈ l0_3, y.length ≤ 9223372036854775807 ∧ ∀ z ∈ y, z.size ≤ 9223372036854775807) : ∃ r, r ≤ m ∧ Ev (fun k => laws_szNet.f k l0_0 l0_1 l0_2 l0_3 a0_4 m) r ∧ (0 ≤ r → (l0_0.length ≤ 1048576) ∧ (l0_1.length ≤ 1048576 ∧ ∀ y ∈ l0_1, y.length ≤ 1048576) ∧ (l0_2.length ≤ 1048576 ∧ ∀ y ∈ l0_2, y.length ≤ 1048576) ∧ (l0_3.length ≤ 1048576 ∧ ∀ y ∈ l0_3, y.length ≤ 1048576)) := by
  unfold laws_szNet.f
  obtain ⟨r0, l0, e0, c0⟩ := laws_szIntS_z l0_0 m (by omega) (by omega) hwl0_0
  by_cases z0 : r0 < 0
  · exact ⟨-1, by omega, (enb e0 (epos z0 (enow rfl))), fun h => by omega⟩
  obtain ⟨r1, l1, e1, c1⟩ := laws_szStringSS_z l0_1 r0 (by omega) (by omega) hwl0_1
  by_cases z1 : r1 < 0
  · exact ⟨-1, by omega, (enb e0 (eneg z0 (ebind e1 (epos z1 (enow rfl))))), fun h => by omega⟩
  obtain ⟨r2, l2, e2, c2⟩ := laws_szStringSS_z l0_2 r1 (by omega) (by omega) hwl0_2
  by_cases z2 : r2 < 0
  · exact ⟨-1, by omega, (enb e0 (eneg z0 (ebind e1 (eneg z1 (ebind e2 (epos z2 (enow rfl))))))), fun h => by omega⟩
  obtain ⟨r3, l3, e3, c3⟩ := laws_szStringSS_z l0_3 r2 (by omega) (by omega) hwl0_3
  by_cases z3 : r3 < 0
  · exact ⟨-1, by omega, (enb e0 (eneg z0 (ebind e1 (eneg z1 (ebind e2 (eneg z2 (ebind e3 (epos z3 (enow rfl))))))))), fun h => by omega⟩
  exact ⟨r3, by omega, (enb e0 (eneg z0 (ebind e1 (eneg z1 (ebind e2 (eneg z2 (ebind e3 (eneg z3 (enow rfl))))))))), fun _ => ⟨c0 (by omega), c1 (by omega), c2 (by omega), c3 (by omega)⟩⟩
/-! laws_toIntS -/
theorem laws_toIntS_l (xs : List Int) (hs : xs.length ≤ 1048576) : ∀ (d i : Nat) (acc : List Int), i + d = xs.length → acc.length = xs.length → acc.take i = xs.take i → Ev (fun k => laws_toIntS.l0 k xs acc (i : Int)) xs := by
  have hn := hs
  intro d
  induction d with
  | zero =>
    intro i acc hi hl ht
    refine eround (fun k => by rw [laws_toIntS.l0]) (eneg (by omega) (enow ?_))
    rwa [List.take_of_length_le (by omega), List.take_of_length_le (by first | omega | (simp; omega))] at ht
  | succ d ih =>
    intro i acc hi hl ht
    have hlt : i < xs.length := by omega
    refine eround (fun k => by rw [laws_toIntS.l0]) (epos (by omega) (epos (by omega) ?_))
    refine epos (by omega) ?_
    rw [w64 (by omega) (by omega)]
    refine ih (i + 1) _ (by omega) (by simpa using hl) ?_
    exact take_set_succ _ _ rfl (by first | exact hlt | (simp; omega)) (by first | exact hl | simpa using hl) ht (by first | exact (getD_get xs i _ hlt).symm | (simp only [List.getElem_map]; rw [← getD_get xs i _ hlt]; rfl))
theorem laws_toIntS_e (xs : List Int) (hs : xs.length ≤ 1048576) : Ev (fun k => laws_toIntS.f k xs) xs := by
  have hn := hs
  unfold laws_toIntS.f
  exact epos (by omega) (epos (by omega) (laws_toIntS_l xs hs xs.length 0 _ (by omega) (by simp) (by simp)))
/-! laws_toStringS -/
theorem laws_toStringS_l (xs : List ByteArray) (hs : xs.length ≤ 1048576) : ∀ (d i : Nat) (acc : List ByteArray), i + d = xs.length → acc.length = xs.length → acc.take i = xs.take i → Ev (fun k => laws_toStringS.l0 k xs acc (i : Int)) xs := by
  have hn := hs
  intro d
  induction d with
  | zero =>
    intro i acc hi hl ht
    refine eround (fun k => by rw [laws_toStringS.l0]) (eneg (by omega) (enow ?_))
    rwa [List.take_of_length_le (by omega), List.take_of_length_le (by first | omega | (simp; omega))] at ht
  | succ d ih =>
    intro i acc hi hl ht
    have hlt : i < xs.length := by omega
    refine eround (fun k => by rw [laws_toStringS.l0]) (epos (by omega) (epos (by omega) ?_))
    refine epos (by omega) ?_
    rw [w64 (by omega) (by omega)]
    refine ih (i + 1) _ (by omega) (by simpa using hl) ?_
    exact take_set_succ _ _ rfl (by first | exact hlt | (simp; omega)) (by first | exact hl | simpa using hl) ht (by first | exact (getD_get xs i _ hlt).symm | (simp only [List.getElem_map]; rw [← getD_get xs i _ hlt]; rfl))
theorem laws_toStringS_e (xs : List ByteArray) (hs : xs.length ≤ 1048576) : Ev (fun k => laws_toStringS.f k xs) xs := by
  have hn := hs
  unfold laws_toStringS.f
  exact epos (by omega) (epos (by omega) (laws_toStringS_l xs hs xs.length 0 _ (by omega) (by simp) (by simp)))
/-! laws_toStringSS -/
theorem laws_toStringSS_l (xs : List (List ByteArray)) (hs : (xs.length ≤ 1048576 ∧ ∀ y ∈ xs, y.length ≤ 1048576)) : ∀ (d i : Nat) (acc : List (List ByteArray)), i + d = xs.length → acc.length = xs.length → acc.take i = xs.take i → Ev (fun k => laws_toStringSS.l0 k xs acc (i : Int)) xs := by
  have hn := hs.1
  intro d
  induction d with
  | zero =>
    intro i acc hi hl ht
    refine eround (fun k => by rw [laws_toStringSS.l0]) (eneg (by omega) (enow ?_))
    rwa [List.take_of_length_le (by omega), List.take_of_length_le (by first | omega | (simp; omega))] at ht
  | succ d ih =>
    intro i acc hi hl ht
    have hlt : i < xs.length := by omega
    refine eround (fun k => by rw [laws_toStringSS.l0]) (epos (by omega) (epos (by omega) ?_))
    refine ebind (laws_toStringS_e _ (by show (xs.getD ((i : Int)).toNat []).length ≤ _; rw [getD_get xs i _ hlt]; exact hs.2 _ (List.getElem_mem hlt))) (epos (by omega) ?_)
    rw [w64 (by omega) (by omega)]
    refine ih (i + 1) _ (by omega) (by simpa using hl) ?_
    exact take_set_succ _ _ rfl (by first | exact hlt | (simp; omega)) (by first | exact hl | simpa using hl) ht (by first | exact (getD_get xs i _ hlt).symm | (simp only [List.getElem_map]; rw [← getD_get xs i _ hlt]; rfl))
theorem laws_toStringSS_e (xs : List (List ByteArray)) (hs : (xs.length ≤ 1048576 ∧ ∀ y ∈ xs, y.length ≤ 1048576)) : Ev (fun k => laws_toStringSS.f k xs) xs := by
  have hn := hs.1
  unfold laws_toStringSS.f
  exact epos (by omega) (epos (by omega) (laws_toStringSS_l xs hs xs.length 0 _ (by omega) (by simp) (by simp)))
/-! laws_toNet -/
theorem laws_toNet_e (l0_0 : List Int) (l0_1 : List (List ByteArray)) (l0_2 : List (List ByteArray)) (l0_3 : List (List ByteArray)) (a0_4 : Int) (hl0_0 : l0_0.length ≤ 1048576) (hl0_1 : (l0_1.length ≤ 1048576 ∧ ∀ y ∈ l0_1, y.length ≤ 1048576)) (hl0_2 : (l0_2.length ≤ 1048576 ∧ ∀ y ∈ l0_2, y.length ≤ 1048576)) (hl0_3 : (l0_3.length ≤ 1048576 ∧ ∀ y ∈ l0_3, y.length ≤ 1048576)) : Ev (fun k => laws_toNet.f k l0_0 l0_1 l0_2 l0_3 a0_4) (l0_0, l0_1, l0_2, l0_3, a0_4) := by
  unfold laws_toNet.f
  exact ebind (laws_toIntS_e l0_0 hl0_0) (ebind (laws_toStringSS_e l0_1 hl0_1) (ebind (laws_toStringSS_e l0_2 hl0_2) (ebind (laws_toStringSS_e l0_3 hl0_3) (enow rfl))))
/-! laws_eqIntS -/
theorem laws_eqIntS_lr (xs : List Int) (hs : xs.length ≤ 1048576) : ∀ (d i : Nat), i + d = xs.length → Ev (fun k => laws_eqIntS.l0 k xs xs (i : Int)) true := by
  have hn := hs
  intro d
  induction d with
  | zero =>
    intro i hi
    exact eround (fun k => by rw [laws_eqIntS.l0]) (eneg (by omega) (enow rfl))
  | succ d ih =>
    intro i hi
    have hlt : i < xs.length := by omega
    refine eround (fun k => by rw [laws_eqIntS.l0]) (epos (by omega) (epos (by omega) (epos (by omega) ?_)))
    first | refine epos rfl ?_ | (refine eneg ?_ ?_; focus (simp; done))
    rw [w64 (by omega) (by omega)]
    exact ih (i + 1) (by omega)
theorem laws_eqIntS_r (xs : List Int) (hs : xs.length ≤ 1048576) : Ev (fun k => laws_eqIntS.f k xs xs) true := by
  unfold laws_eqIntS.f
  exact epos rfl (laws_eqIntS_lr xs hs xs.length 0 (by omega))
/-! laws_eqStringS -/
theorem laws_eqStringS_lr (xs : List ByteArray) (hs : xs.length ≤ 1048576) : ∀ (d i : Nat), i + d = xs.length → Ev (fun k => laws_eqStringS.l0 k xs xs (i : Int)) true := by
  have hn := hs
  intro d
  induction d with
  | zero =>
    intro i hi
    exact eround (fun k => by rw [laws_eqStringS.l0]) (eneg (by omega) (enow rfl))
  | succ d ih =>
    intro i hi
    have hlt : i < xs.length := by omega
    refine eround (fun k => by rw [laws_eqStringS.l0]) (epos (by omega) (epos (by omega) (epos (by omega) ?_)))
    first | refine epos rfl ?_ | (refine eneg ?_ ?_; focus (simp; done))
    rw [w64 (by omega) (by omega)]
    exact ih (i + 1) (by omega)
theorem laws_eqStringS_r (xs : List ByteArray) (hs : xs.length ≤ 1048576) : Ev (fun k => laws_eqStringS.f k xs xs) true := by
  unfold laws_eqStringS.f
  exact epos rfl (laws_eqStringS_lr xs hs xs.length 0 (by omega))
/-! laws_eqStringSS -/
theorem laws_eqStringSS_lr (xs : List (List ByteArray)) (hs : (xs.length ≤ 1048576 ∧ ∀ y ∈ xs, y.length ≤ 1048576)) : ∀ (d i : Nat), i + d = xs.length → Ev (fun k => laws_eqStringSS.l0 k xs xs (i : Int)) true := by
  have hn := hs.1
  intro d
  induction d with
  | zero =>
    intro i hi
    exact eround (fun k => by rw [laws_eqStringSS.l0]) (eneg (by omega) (enow rfl))
  | succ d ih =>
    intro i hi
    have hlt : i < xs.length := by omega
    refine eround (fun k => by rw [laws_eqStringSS.l0]) (epos (by omega) (epos (by omega) (epos (by omega) ?_)))
    refine ebind (laws_eqStringS_r (xs.getD ((i : Int)).toNat []) (by rw [getD_get xs i _ hlt]; exact hs.2 _ (List.getElem_mem hlt))) (epos rfl ?_)
    rw [w64 (by omega) (by omega)]
    exact ih (i + 1) (by omega)
theorem laws_eqStringSS_r (xs : List (List ByteArray)) (hs : (xs.length ≤ 1048576 ∧ ∀ y ∈ xs, y.length ≤ 1048576)) : Ev (fun k => laws_eqStringSS.f k xs xs) true := by
  unfold laws_eqStringSS.f
  exact epos rfl (laws_eqStringSS_lr xs hs xs.length 0 (by omega))
/-! laws_eqNet -/
theorem laws_eqNet_r (l0_0 : List Int) (l0_1 : List (List ByteArray)) (l0_2 : List (List ByteArray)) (l0_3 : List (List ByteArray)) (a0_4 : Int) (hl0_0 : l0_0.length ≤ 1048576) (hl0_1 : (l0_1.length ≤ 1048576 ∧ ∀ y ∈ l0_1, y.length ≤ 1048576)) (hl0_2 : (l0_2.length ≤ 1048576 ∧ ∀ y ∈ l0_2, y.length ≤ 1048576)) (hl0_3 : (l0_3.length ≤ 1048576 ∧ ∀ y ∈ l0_3, y.length ≤ 1048576)) : Ev (fun k => laws_eqNet.f k l0_0 l0_1 l0_2 l0_3 a0_4 l0_0 l0_1 l0_2 l0_3 a0_4) true := by
  unfold laws_eqNet.f
  repeat' first
    | exact enow rfl
    | refine epos rfl ?_
    | (refine eneg ?_ ?_; focus (simp; done))
    | refine ebind (laws_eqIntS_r _ (by assumption)) ?_
    | refine ebind (laws_eqStringSS_r _ (by assumption)) ?_
def inR (lo hi x : Int) : Bool := decide (x ≥ lo) && decide (x ≤ hi)
theorem inR_iff {lo hi x : Int} : inR lo hi x = true ↔ lo ≤ x ∧ x ≤ hi := by simp [inR]
theorem l1In_eq (a lo hi : Int) : spec_l1In.f a lo hi = some (inR lo hi a) := by
  unfold spec_l1In.f inR
  by_cases h : a ≥ lo <;> simp [h]
theorem l1All_l (xs : List Int) (lo up : Int) (hn : xs.length ≤ 9223372036854775807) : ∀ (d i : Nat), i + d = xs.length → Ev (fun k => spec_l1All.l0 k lo up xs (xs.length : Int) (i : Int)) ((xs.drop i).all (inR lo up)) := by
  intro d
  induction d with
  | zero =>
    intro i hi
    refine eround (fun k => by rw [spec_l1All.l0]) ?_
    refine eneg (by omega) (enow ?_)
    rw [List.drop_eq_nil_of_le (by omega)]; rfl
  | succ d ih =>
    intro i hi
    have hlt : i < xs.length := by omega
    refine eround (fun k => by rw [spec_l1All.l0]) ?_
    refine epos (by omega) (epos (by omega) (epos (by omega) ?_))
    rw [rd_get xs i hlt, List.drop_eq_getElem_cons hlt, List.all_cons]
    refine enb (l1In_eq _ _ _) ?_
    cases h : inR lo up xs[i] with
    | true =>
      refine epos rfl ?_
      rw [w64 (by omega) (by omega)]
      simpa using ih (i + 1) (by omega)
    | false => exact eneg (by simp) (enow (by simp))
theorem l1All_e (xs : List Int) (lo up : Int) (hn : xs.length ≤ 9223372036854775807) : Ev (fun k => spec_l1All.f k xs lo up) (xs.all (inR lo up)) :=
  l1All_l xs lo up hn xs.length 0 (by omega)
theorem within_eq (a lo hi : Int) : impl_within.f a lo hi = some (inR lo hi a) := by
  unfold impl_within.f inR
  by_cases h : a ≥ lo <;> simp [h]
theorem allWithin_l (xs : List Int) (lo up : Int) (hn : xs.length ≤ 9223372036854775807) : ∀ (d i : Nat), i + d = xs.length → Ev (fun k => impl_allWithin.l0 k lo up xs (xs.length : Int) (i : Int)) ((xs.drop i).all (inR lo up)) := by
  intro d
  induction d with
  | zero =>
    intro i hi
    refine eround (fun k => by rw [impl_allWithin.l0]) ?_
    refine eneg (by omega) (enow ?_)
    rw [List.drop_eq_nil_of_le (by omega)]; rfl
  | succ d ih =>
    intro i hi
    have hlt : i < xs.length := by omega
    refine eround (fun k => by rw [impl_allWithin.l0]) ?_
    refine epos (by omega) (epos (by omega) (epos (by omega) ?_))
    rw [rd_get xs i hlt, List.drop_eq_getElem_cons hlt, List.all_cons]
    refine enb (within_eq _ _ _) ?_
    cases h : inR lo up xs[i] with
    | true =>
      refine epos rfl ?_
      rw [w64 (by omega) (by omega)]
      simpa using ih (i + 1) (by omega)
    | false => exact eneg (by simp) (enow (by simp))
theorem allWithin_e (xs : List Int) (lo up : Int) (hn : xs.length ≤ 9223372036854775807) : Ev (fun k => impl_allWithin.f k xs lo up) (xs.all (inR lo up)) :=
  allWithin_l xs lo up hn xs.length 0 (by omega)
/-- all elements, each with its place, from place i on -/
def allI {α : Type} (p : Nat → α → Bool) : Nat → List α → Bool
  | _, [] => true
  | i, x :: xs => p i x && allI p (i + 1) xs
theorem allI_congr {α : Type} {p q : Nat → α → Bool} : ∀ (xs : List α) (i : Nat), (∀ j x, i ≤ j → j < i + xs.length → p j x = q j x) → allI p i xs = allI q i xs
  | [], _, _ => rfl
  | x :: xs, i, h => by
    simp only [allI]
    rw [h i x (Nat.le_refl _) (by simp), allI_congr xs (i + 1) (fun j y h1 h2 => h j y (by omega) (by simp only [List.length_cons]; omega))]
def onP (xs : List ByteArray) (i : Nat) (x : ByteArray) : Bool := decide ((x.size : Int) = 24) && (decide (i = 0) || Op.bytesLess (xs.getD (i - 1) ByteArray.empty).toList x.toList)
def onG (xs : List ByteArray) : Bool := allI (onP xs) 0 xs && decide ((xs.length : Int) ≤ 100)
theorem specOn_l (xs : List ByteArray) (hn : xs.length ≤ 1048576) : ∀ (d i : Nat), i + d = xs.length → Ev (fun k => spec_l17Onions.l0 k xs xs (xs.length : Int) (i : Int)) (allI (onP xs) i (xs.drop i) && decide ((xs.length : Int) ≤ 100)) := by
  intro d
  induction d with
  | zero =>
    intro i hi
    refine eround (fun k => by rw [spec_l17Onions.l0]) (eneg (by omega) (enow ?_))
    rw [List.drop_eq_nil_of_le (by omega)]; rfl
  | succ d ih =>
    intro i hi
    have hlt : i < xs.length := by omega
    refine eround (fun k => by rw [spec_l17Onions.l0]) (epos (by omega) (epos (by omega) (epos (by omega) ?_)))
    rw [show rdOf ByteArray.empty xs (i : Int) = xs[i] from getD_get xs i _ hlt, List.drop_eq_getElem_cons hlt, w64 (x := (i : Int) + 1) (by omega) (by omega)]
    simp only [allI]
    by_cases h : (xs[i].size : Int) = 24
    · refine epos h ?_
      by_cases h0 : (i : Int) > 0
      · refine epos h0 ?_
        rw [w64 (x := (i : Int) - 1) (by omega) (by omega)]
        refine epos (by omega) (epos (by omega) ?_)
        have e : rdOf ByteArray.empty xs ((i : Int) - 1) = xs.getD (i - 1) ByteArray.empty := by
          unfold rdOf
          rw [show ((i : Int) - 1).toNat = i - 1 by omega]
        rw [e]
        have hi0 : ¬ i = 0 := by omega
        cases hb : Op.bytesLess (xs.getD (i - 1) ByteArray.empty).toList xs[i].toList with
        | true =>
          refine epos rfl ?_
          have hp : onP xs i xs[i] = true := by unfold onP; rw [hb]; simp [h]
          rw [hp, Bool.true_and]
          exact ih (i + 1) (by omega)
        | false =>
          have hp : onP xs i xs[i] = false := by unfold onP; rw [hb]; simp [hi0]
          exact eneg (by simp) (enow (by rw [hp]; rfl))
      · refine eneg h0 ?_
        have hi0 : i = 0 := by omega
        have hp : onP xs i xs[i] = true := by unfold onP; rw [decide_eq_true h, decide_eq_true hi0]; rfl
        rw [hp, Bool.true_and]
        exact ih (i + 1) (by omega)
    · have hp : onP xs i xs[i] = false := by unfold onP; simp [h]
      exact eneg h (enow (by rw [hp]; rfl))
theorem specOn_e (xs : List ByteArray) (hn : xs.length ≤ 1048576) : Ev (fun k => spec_l17Onions.f k xs) (onG xs) := specOn_l xs hn xs.length 0 (by omega)
theorem implOn_l (xs : List ByteArray) (hn : xs.length ≤ 1048576) : ∀ (d i : Nat), i + d = xs.length → Ev (fun k => impl_areOnions.l0 k xs xs (xs.length : Int) (i : Int)) (allI (onP xs) i (xs.drop i) && decide ((xs.length : Int) ≤ 100)) := by
  intro d
  induction d with
  | zero =>
    intro i hi
    refine eround (fun k => by rw [impl_areOnions.l0]) (eneg (by omega) (enow ?_))
    rw [List.drop_eq_nil_of_le (by omega)]; rfl
  | succ d ih =>
    intro i hi
    have hlt : i < xs.length := by omega
    refine eround (fun k => by rw [impl_areOnions.l0]) (epos (by omega) (epos (by omega) (epos (by omega) ?_)))
    rw [show rdOf ByteArray.empty xs (i : Int) = xs[i] from getD_get xs i _ hlt, List.drop_eq_getElem_cons hlt, w64 (x := (i : Int) + 1) (by omega) (by omega)]
    simp only [allI]
    by_cases h : (xs[i].size : Int) = 24
    · refine epos h ?_
      by_cases h0 : (i : Int) > 0
      · refine epos h0 ?_
        rw [w64 (x := (i : Int) - 1) (by omega) (by omega)]
        refine epos (by omega) (epos (by omega) ?_)
        have e : rdOf ByteArray.empty xs ((i : Int) - 1) = xs.getD (i - 1) ByteArray.empty := by
          unfold rdOf
          rw [show ((i : Int) - 1).toNat = i - 1 by omega]
        rw [e]
        have hi0 : ¬ i = 0 := by omega
        cases hb : Op.bytesLess (xs.getD (i - 1) ByteArray.empty).toList xs[i].toList with
        | true =>
          refine epos rfl ?_
          have hp : onP xs i xs[i] = true := by unfold onP; rw [hb]; simp [h]
          rw [hp, Bool.true_and]
          exact ih (i + 1) (by omega)
        | false =>
          have hp : onP xs i xs[i] = false := by unfold onP; rw [hb]; simp [hi0]
          exact eneg (by simp) (enow (by rw [hp]; rfl))
      · refine eneg h0 ?_
        have hi0 : i = 0 := by omega
        have hp : onP xs i xs[i] = true := by unfold onP; rw [decide_eq_true h, decide_eq_true hi0]; rfl
        rw [hp, Bool.true_and]
        exact ih (i + 1) (by omega)
    · have hp : onP xs i xs[i] = false := by unfold onP; simp [h]
      exact eneg h (enow (by rw [hp]; rfl))
theorem implOn_e (xs : List ByteArray) (hn : xs.length ≤ 1048576) : Ev (fun k => impl_areOnions.f k xs) (onG xs) := implOn_l xs hn xs.length 0 (by omega)
def hasT (ys : List ByteArray) (x : ByteArray) : Bool := ys.any fun y => decide (y.toList = x.toList)
def boxP (b : List ByteArray) : Bool := b.all (fun x => inR 1 15 (x.size : Int)) && decide (b.length ≤ 60)
def relayP (outs : List (List ByteArray)) (i : Nat) (x : List ByteArray) : Bool := onG x && (onG (outs.getD i []) && x.all (hasT (outs.getD i [])))
def goodN (K : List Int) (ins outs boxes : List (List ByteArray)) (t : Int) : Bool := inR 1 4 (K.length : Int) && (K.all (inR 0 65535) && (decide ((ins.length : Int) = (K.length : Int)) && (decide ((outs.length : Int) = (K.length : Int)) && (decide ((boxes.length : Int) = 4) && (inR 0 60 t && (allI (relayP outs) 0 ins && boxes.all boxP))))))
def smallT (ps : List (List ByteArray)) : Prop := ps.length ≤ 1048576 ∧ ∀ p ∈ ps, p.length ≤ 1048576
theorem specHas_l (ys : List ByteArray) (x : ByteArray) (hn : ys.length ≤ 1048576) : ∀ (d i : Nat), i + d = ys.length → Ev (fun k => spec_l17Has.l0 k x ys (ys.length : Int) (i : Int)) (hasT (ys.drop i) x) := by
  intro d
  induction d with
  | zero =>
    intro i hi
    refine eround (fun k => by rw [spec_l17Has.l0]) (eneg (by omega) (enow ?_))
    rw [List.drop_eq_nil_of_le (by omega)]; rfl
  | succ d ih =>
    intro i hi
    have hlt : i < ys.length := by omega
    refine eround (fun k => by rw [spec_l17Has.l0]) (epos (by omega) (epos (by omega) (epos (by omega) ?_)))
    rw [show rdOf ByteArray.empty ys (i : Int) = ys[i] from getD_get ys i _ hlt, List.drop_eq_getElem_cons hlt, w64 (by omega) (by omega)]
    unfold hasT
    rw [List.any_cons]
    by_cases h : ys[i].toList = x.toList
    · exact epos h (enow (by simp [h]))
    · refine eneg h ?_
      rw [decide_eq_false h, Bool.false_or]
      exact ih (i + 1) (by omega)
theorem specHas_e (ys : List ByteArray) (x : ByteArray) (hn : ys.length ≤ 1048576) : Ev (fun k => spec_l17Has.f k ys x) (hasT ys x) := specHas_l ys x hn ys.length 0 (by omega)
theorem ixT_l (ys : List ByteArray) (x : ByteArray) (hn : ys.length ≤ 1048576) : ∀ (d i : Nat), i + d = ys.length → ∃ r : Int, Ev (fun k => slices_Index_string_string.l0 k ys x (ys.length : Int) (i : Int)) r ∧ (r ≥ 0 ↔ hasT (ys.drop i) x = true) := by
  intro d
  induction d with
  | zero =>
    intro i hi
    refine ⟨-1, eround (fun k => by rw [slices_Index_string_string.l0]) (eneg (by omega) (enow rfl)), ?_⟩
    rw [List.drop_eq_nil_of_le (by omega)]; simp [hasT]
  | succ d ih =>
    intro i hi
    have hlt : i < ys.length := by omega
    obtain ⟨r, h1, h3⟩ := ih (i + 1) (by omega)
    unfold hasT at h3 ⊢
    rw [List.drop_eq_getElem_cons hlt, List.any_cons]
    by_cases h : x.toList = ys[i].toList
    · refine ⟨(i : Int), eround (fun k => by rw [slices_Index_string_string.l0]) (epos (by omega) (epos (by omega) (epos (by omega) ?_))), by simp [h]⟩
      rw [show rdOf ByteArray.empty ys (i : Int) = ys[i] from getD_get ys i _ hlt]
      exact epos h (enow rfl)
    · refine ⟨r, eround (fun k => by rw [slices_Index_string_string.l0]) (epos (by omega) (epos (by omega) (epos (by omega) ?_))), by rw [decide_eq_false (fun z => h z.symm), Bool.false_or]; exact h3⟩
      rw [show rdOf ByteArray.empty ys (i : Int) = ys[i] from getD_get ys i _ hlt]
      refine eneg h ?_
      rw [w64 (by omega) (by omega)]
      exact h1
theorem implHas_e (ys : List ByteArray) (x : ByteArray) (hn : ys.length ≤ 1048576) : Ev (fun k => slices_Contains_string_string.f k ys x) (hasT ys x) := by
  obtain ⟨r, h1, h3⟩ := ixT_l ys x hn ys.length 0 (by omega)
  refine ebind (f := fun _ t => some (decide (t ≥ 0))) h1 (enow ?_)
  rw [List.drop_zero] at h3
  cases e : hasT ys x with
  | true => rw [e] at h3; simpa using h3
  | false => rw [e] at h3; simpa using h3
theorem gn1_eq (x : ByteArray) : impl_GoodNet_1.f x = some (!inR 1 15 (x.size : Int)) := by
  unfold impl_GoodNet_1.f
  rw [within_eq]; rfl
theorem ixB_l (xs : List ByteArray) (hn : xs.length ≤ 1048576) : ∀ (d i : Nat), i + d = xs.length → ∃ r : Int, Ev (fun k => slices_IndexFunc_139_at_92.l0 k xs (xs.length : Int) (i : Int)) r ∧ (r ≥ 0 ↔ (xs.drop i).all (fun x => inR 1 15 (x.size : Int)) = false) := by
  intro d
  induction d with
  | zero =>
    intro i hi
    refine ⟨-1, eround (fun k => by rw [slices_IndexFunc_139_at_92.l0]) (eneg (by omega) (enow rfl)), ?_⟩
    rw [List.drop_eq_nil_of_le (by omega)]; simp
  | succ d ih =>
    intro i hi
    have hlt : i < xs.length := by omega
    obtain ⟨r, h1, h3⟩ := ih (i + 1) (by omega)
    rw [List.drop_eq_getElem_cons hlt, List.all_cons]
    cases h : inR 1 15 (xs[i].size : Int) with
    | false =>
      refine ⟨(i : Int), eround (fun k => by rw [slices_IndexFunc_139_at_92.l0]) (epos (by omega) (epos (by omega) (epos (by omega) ?_))), by simp⟩
      rw [show rdOf ByteArray.empty xs (i : Int) = xs[i] from getD_get xs i _ hlt]
      exact enb (gn1_eq _) (epos (by rw [h]; rfl) (enow rfl))
    | true =>
      refine ⟨r, eround (fun k => by rw [slices_IndexFunc_139_at_92.l0]) (epos (by omega) (epos (by omega) (epos (by omega) ?_))), by rw [Bool.true_and]; exact h3⟩
      rw [show rdOf ByteArray.empty xs (i : Int) = xs[i] from getD_get xs i _ hlt]
      refine enb (gn1_eq _) (eneg (by rw [h]; decide) ?_)
      rw [w64 (by omega) (by omega)]
      exact h1
theorem coB_e (xs : List ByteArray) (hn : xs.length ≤ 1048576) : Ev (fun k => slices_ContainsFunc_91_at_92.f k xs) (!xs.all (fun x => inR 1 15 (x.size : Int))) := by
  obtain ⟨r, h1, h3⟩ := ixB_l xs hn xs.length 0 (by omega)
  refine ebind (f := fun _ t => some (decide (t ≥ 0))) h1 (enow ?_)
  rw [List.drop_zero] at h3
  cases e : xs.all (fun x => inR 1 15 (x.size : Int)) with
  | true => rw [e] at h3; simpa using h3
  | false => rw [e] at h3; simpa using h3
theorem implNt_l2 (bs : List (List ByteArray)) (hb : smallT bs) : ∀ (d i : Nat), i + d = bs.length → Ev (fun k => impl_GoodNet.l2 k bs (bs.length : Int) (i : Int)) ((bs.drop i).all boxP) := by
  have hn := hb.1
  intro d
  induction d with
  | zero =>
    intro i hi
    refine eround (fun k => by rw [impl_GoodNet.l2]) (eneg (by omega) (enow ?_))
    rw [List.drop_eq_nil_of_le (by omega)]; rfl
  | succ d ih =>
    intro i hi
    have hlt : i < bs.length := by omega
    refine eround (fun k => by rw [impl_GoodNet.l2]) (epos (by omega) (epos (by omega) (epos (by omega) ?_)))
    rw [show rd_L2 bs (i : Int) = bs[i] from getD_get bs i _ hlt, List.drop_eq_getElem_cons hlt, List.all_cons, w64 (by omega) (by omega)]
    have hx := hb.2 _ (List.getElem_mem hlt)
    generalize bs[i] = b at hx
    unfold boxP
    by_cases h : (b.length : Int) > 60
    · exact epos h (enow (by have : ¬ b.length ≤ 60 := by omega
                             simp [this]))
    · refine eneg h (ebind (coB_e b hx) ?_)
      have h' : b.length ≤ 60 := by omega
      cases hh : b.all (fun x => inR 1 15 (x.size : Int)) with
      | false => exact epos rfl (enow (by simp))
      | true =>
        refine eneg (by simp) ?_
        rw [decide_eq_true h', Bool.true_and, Bool.true_and]
        exact ih (i + 1) (by omega)
theorem specNt_l3 (bs : List (List ByteArray)) (i : Nat) (b : List ByteArray) (hx : b.length ≤ 1048576) (R : Bool) (H : Ev (fun k => spec_GoodNet.l2 k bs (bs.length : Int) (wrap64 ((i : Int) + 1))) R) : ∀ (d j : Nat), j + d = b.length → Ev (fun k => spec_GoodNet.l3 k b bs (bs.length : Int) (i : Int) b (b.length : Int) (j : Int)) ((b.drop j).all (fun x => inR 1 15 (x.size : Int)) && (decide (b.length ≤ 60) && R)) := by
  intro d
  induction d with
  | zero =>
    intro j hj
    refine eround (fun k => by rw [spec_GoodNet.l3]) (eneg (by omega) ?_)
    rw [List.drop_eq_nil_of_le (by omega)]
    by_cases h : (b.length : Int) > 60
    · exact epos h (enow (by have : ¬ b.length ≤ 60 := by omega
                             simp [this]))
    · have h' : b.length ≤ 60 := by omega
      refine eneg h ?_
      simpa [h'] using H
  | succ d ih =>
    intro j hj
    have hlt : j < b.length := by omega
    refine eround (fun k => by rw [spec_GoodNet.l3]) (epos (by omega) (epos (by omega) (epos (by omega) ?_)))
    rw [show rdOf ByteArray.empty b (j : Int) = b[j] from getD_get b j _ hlt, List.drop_eq_getElem_cons hlt, List.all_cons]
    refine enb (l1In_eq _ _ _) ?_
    cases h : inR 1 15 (b[j].size : Int) with
    | true =>
      refine epos rfl ?_
      rw [w64 (x := (j : Int) + 1) (by omega) (by omega)]
      exact ih (j + 1) (by omega)
    | false => exact eneg (by simp) (enow (by simp))
theorem specNt_l2 (bs : List (List ByteArray)) (hb : smallT bs) : ∀ (d i : Nat), i + d = bs.length → Ev (fun k => spec_GoodNet.l2 k bs (bs.length : Int) (i : Int)) ((bs.drop i).all boxP) := by
  have hn := hb.1
  intro d
  induction d with
  | zero =>
    intro i hi
    refine eround (fun k => by rw [spec_GoodNet.l2]) (eneg (by omega) (enow ?_))
    rw [List.drop_eq_nil_of_le (by omega)]; rfl
  | succ d ih =>
    intro i hi
    have hlt : i < bs.length := by omega
    refine eround (fun k => by rw [spec_GoodNet.l2]) (epos (by omega) (epos (by omega) (epos (by omega) ?_)))
    rw [show rd_L2 bs (i : Int) = bs[i] from getD_get bs i _ hlt, List.drop_eq_getElem_cons hlt, List.all_cons]
    have hx := hb.2 _ (List.getElem_mem hlt)
    have := specNt_l3 bs i bs[i] hx _ (by rw [w64 (by omega) (by omega)]; exact ih (i + 1) (by omega)) bs[i].length 0 (by omega)
    unfold boxP
    rw [Bool.and_assoc]
    exact this
theorem keys_e (K : List Int) (h : K.length ≤ 8) : Ev (fun k => impl_areKeys.f k K) (K.all (inR 0 65535)) := by
  unfold impl_areKeys.f
  exact epos (by omega) (ebind (allWithin_e K 0 65535 (by omega)) (enow rfl))
theorem specNt_l1 (K : List Int) (ins outs boxes : List (List ByteArray)) (t : Int) (i : Nat) (hi : i < ins.length) (hn : ins.length ≤ 1048576) (ho : i < outs.length) (hos : (outs.getD i []).length ≤ 1048576) (x : List ByteArray) (hx : x.length ≤ 1048576) (R : Bool) (H : Ev (fun k => spec_GoodNet.l0 k ins (ins.length : Int) (wrap64 ((i : Int) + 1)) K ins outs boxes t) R) :
    ∀ (d j : Nat), j + d = x.length → Ev (fun k => spec_GoodNet.l1 k (i : Int) ins (ins.length : Int) (i : Int) x (x.length : Int) (j : Int) K ins outs boxes t) ((x.drop j).all (hasT (outs.getD i [])) && R) := by
  intro d
  induction d with
  | zero =>
    intro j hj
    refine eround (fun k => by rw [spec_GoodNet.l1]) (eneg (by omega) ?_)
    rw [List.drop_eq_nil_of_le (by omega)]
    exact H
  | succ d ih =>
    intro j hj
    have hlt : j < x.length := by omega
    refine eround (fun k => by rw [spec_GoodNet.l1]) (epos (by omega) (epos (by omega) (epos (by omega) (epos (by omega) (epos (by omega) ?_)))))
    rw [show rdOf ByteArray.empty x (j : Int) = x[j] from getD_get x j _ hlt, List.drop_eq_getElem_cons hlt, List.all_cons, w64 (x := (j : Int) + 1) (by omega) (by omega), show rd_L2 outs (i : Int) = outs.getD i [] from by unfold rd_L2; rw [Int.toNat_natCast]]
    refine ebind (specHas_e _ _ hos) ?_
    cases hasT (outs.getD i []) x[j] with
    | true => exact epos rfl (by simpa using ih (j + 1) (by omega))
    | false => exact eneg (by simp) (enow (by simp))
theorem specNt_l0 (K : List Int) (ins outs boxes : List (List ByteArray)) (t : Int) (hi : smallT ins) (ho : smallT outs) (hb : smallT boxes) (hl : outs.length = ins.length) : ∀ (d i : Nat), i + d = ins.length → Ev (fun k => spec_GoodNet.l0 k ins (ins.length : Int) (i : Int) K ins outs boxes t) (allI (relayP outs) i (ins.drop i) && boxes.all boxP) := by
  have hn := hi.1
  intro d
  induction d with
  | zero =>
    intro i hd
    refine eround (fun k => by rw [spec_GoodNet.l0]) (eneg (by omega) ?_)
    rw [List.drop_eq_nil_of_le (by omega)]
    exact specNt_l2 boxes hb boxes.length 0 (by omega)
  | succ d ih =>
    intro i hd
    have hlt : i < ins.length := by omega
    refine eround (fun k => by rw [spec_GoodNet.l0]) (epos (by omega) (epos (by omega) (epos (by omega) ?_)))
    rw [show rd_L2 ins (i : Int) = ins[i] from getD_get ins i _ hlt, show rd_L2 outs (i : Int) = outs.getD i [] from by unfold rd_L2; rw [Int.toNat_natCast], List.drop_eq_getElem_cons hlt]
    have hx := hi.2 _ (List.getElem_mem hlt)
    generalize ins[i] = x at hx
    have hos : (outs.getD i []).length ≤ 1048576 := by
      rw [List.getD_eq_getElem?_getD, List.getElem?_eq_getElem (by omega)]
      exact ho.2 _ (List.getElem_mem _)
    have J : ∀ b, Ev (fun k => spec_GoodNet.j2 k (i : Int) x ins (ins.length : Int) (i : Int) b K ins outs boxes t) (!b && (x.all (hasT (outs.getD i [])) && (allI (relayP outs) (i + 1) (ins.drop (i + 1)) && boxes.all boxP))) := by
      intro b
      refine eround (fun k => by rw [spec_GoodNet.j2]) ?_
      cases b with
      | true => exact epos rfl (enow rfl)
      | false =>
        refine eneg (by simp) ?_
        have := specNt_l1 K ins outs boxes t i hlt hn (by omega) hos x hx _ (by rw [w64 (by omega) (by omega)]; exact ih (i + 1) (by omega)) x.length 0 (by omega)
        exact this
    simp only [allI, relayP]
    refine ebind (specOn_e x hx) ?_
    cases h1 : onG x with
    | false => refine eneg (by simp) ?_; simpa using J true
    | true =>
      refine epos rfl (epos (by omega) (ebind (specOn_e _ hos) ?_))
      have := J (!onG (outs.getD i []))
      rw [Bool.not_not] at this
      rw [Bool.true_and, Bool.and_assoc, Bool.and_assoc]
      exact this
theorem specNt_j0 (K : List Int) (ins outs boxes : List (List ByteArray)) (t : Int) (hi : smallT ins) (ho : smallT outs) (hb : smallT boxes) (b : Bool) (hl : b = false → outs.length = ins.length) : Ev (fun k => spec_GoodNet.j0 k b K ins outs boxes t) (!b && (allI (relayP outs) 0 ins && boxes.all boxP)) := by
  refine eround (fun k => by rw [spec_GoodNet.j0]) ?_
  cases b with
  | true => exact epos rfl (enow rfl)
  | false => exact eneg (by simp) (specNt_l0 K ins outs boxes t hi ho hb (hl rfl) ins.length 0 (by omega))
theorem specNt_e (K : List Int) (ins outs boxes : List (List ByteArray)) (t : Int) (hK : K.length ≤ 1048576) (hi : smallT ins) (ho : smallT outs) (hb : smallT boxes) : Ev (fun k => spec_GoodNet.f k K ins outs boxes t) (goodN K ins outs boxes t) := by
  have J := specNt_j0 K ins outs boxes t hi ho hb
  unfold spec_GoodNet.f goodN
  refine enb (l1In_eq _ _ _) ?_
  cases h1 : inR 1 4 (K.length : Int) with
  | false => refine eneg (by simp) ?_; simpa using J true (by simp)
  | true =>
    have h1' := inR_iff.1 h1
    refine epos rfl (ebind (l1All_e K 0 65535 (by omega)) ?_)
    cases h2 : K.all (inR 0 65535) with
    | false => refine eneg (by simp) ?_; simpa using J true (by simp)
    | true =>
      refine epos rfl ?_
      by_cases h3 : (ins.length : Int) = (K.length : Int)
      · refine epos h3 ?_
        by_cases h4 : (outs.length : Int) = (K.length : Int)
        · refine epos h4 ?_
          by_cases h5 : (boxes.length : Int) = 4
          · refine epos h5 (enb (l1In_eq _ _ _) ?_)
            have := J (!inR 0 60 t) (fun _ => by omega)
            simpa [h3, h4, h5] using this
          · refine eneg h5 ?_; simpa [h5] using J true (by simp)
        · refine eneg h4 ?_; simpa [h4] using J true (by simp)
      · refine eneg h3 ?_; simpa [h3] using J true (by simp)
theorem implNt_l1 (K : List Int) (ins outs boxes : List (List ByteArray)) (t : Int) (i : Nat) (hi : i < ins.length) (hn : ins.length ≤ 1048576) (ho : i < outs.length) (hos : (outs.getD i []).length ≤ 1048576) (x : List ByteArray) (hx : x.length ≤ 1048576) (R : Bool) (H : Ev (fun k => impl_GoodNet.l0 k ins (ins.length : Int) (wrap64 ((i : Int) + 1)) K ins outs boxes t) R) :
    ∀ (d j : Nat), j + d = x.length → Ev (fun k => impl_GoodNet.l1 k (i : Int) ins (ins.length : Int) (i : Int) x (x.length : Int) (j : Int) K ins outs boxes t) ((x.drop j).all (hasT (outs.getD i [])) && R) := by
  intro d
  induction d with
  | zero =>
    intro j hj
    refine eround (fun k => by rw [impl_GoodNet.l1]) (eneg (by omega) ?_)
    rw [List.drop_eq_nil_of_le (by omega)]
    exact H
  | succ d ih =>
    intro j hj
    have hlt : j < x.length := by omega
    refine eround (fun k => by rw [impl_GoodNet.l1]) (epos (by omega) (epos (by omega) (epos (by omega) (epos (by omega) (epos (by omega) ?_)))))
    rw [show rdOf ByteArray.empty x (j : Int) = x[j] from getD_get x j _ hlt, List.drop_eq_getElem_cons hlt, List.all_cons, w64 (x := (j : Int) + 1) (by omega) (by omega), show rd_L2 outs (i : Int) = outs.getD i [] from by unfold rd_L2; rw [Int.toNat_natCast]]
    refine ebind (implHas_e _ _ hos) ?_
    cases hasT (outs.getD i []) x[j] with
    | true => exact epos rfl (by simpa using ih (j + 1) (by omega))
    | false => exact eneg (by simp) (enow (by simp))
theorem implNt_l0 (K : List Int) (ins outs boxes : List (List ByteArray)) (t : Int) (hi : smallT ins) (ho : smallT outs) (hb : smallT boxes) (hl : outs.length = ins.length) : ∀ (d i : Nat), i + d = ins.length → Ev (fun k => impl_GoodNet.l0 k ins (ins.length : Int) (i : Int) K ins outs boxes t) (allI (relayP outs) i (ins.drop i) && boxes.all boxP) := by
  have hn := hi.1
  intro d
  induction d with
  | zero =>
    intro i hd
    refine eround (fun k => by rw [impl_GoodNet.l0]) (eneg (by omega) ?_)
    rw [List.drop_eq_nil_of_le (by omega)]
    exact implNt_l2 boxes hb boxes.length 0 (by omega)
  | succ d ih =>
    intro i hd
    have hlt : i < ins.length := by omega
    refine eround (fun k => by rw [impl_GoodNet.l0]) (epos (by omega) (epos (by omega) (epos (by omega) ?_)))
    rw [show rd_L2 ins (i : Int) = ins[i] from getD_get ins i _ hlt, show rd_L2 outs (i : Int) = outs.getD i [] from by unfold rd_L2; rw [Int.toNat_natCast], List.drop_eq_getElem_cons hlt]
    have hx := hi.2 _ (List.getElem_mem hlt)
    generalize ins[i] = x at hx
    have hos : (outs.getD i []).length ≤ 1048576 := by
      rw [List.getD_eq_getElem?_getD, List.getElem?_eq_getElem (by omega)]
      exact ho.2 _ (List.getElem_mem _)
    have J : ∀ b, Ev (fun k => impl_GoodNet.j2 k (i : Int) x ins (ins.length : Int) (i : Int) b K ins outs boxes t) (!b && (x.all (hasT (outs.getD i [])) && (allI (relayP outs) (i + 1) (ins.drop (i + 1)) && boxes.all boxP))) := by
      intro b
      refine eround (fun k => by rw [impl_GoodNet.j2]) ?_
      cases b with
      | true => exact epos rfl (enow rfl)
      | false =>
        refine eneg (by simp) ?_
        have := implNt_l1 K ins outs boxes t i hlt hn (by omega) hos x hx _ (by rw [w64 (by omega) (by omega)]; exact ih (i + 1) (by omega)) x.length 0 (by omega)
        exact this
    simp only [allI, relayP]
    refine ebind (implOn_e x hx) ?_
    cases h1 : onG x with
    | false => refine eneg (by simp) ?_; simpa using J true
    | true =>
      refine epos rfl (epos (by omega) (ebind (implOn_e _ hos) ?_))
      have := J (!onG (outs.getD i []))
      rw [Bool.not_not] at this
      rw [Bool.true_and, Bool.and_assoc, Bool.and_assoc]
      exact this
theorem implNt_j0 (K : List Int) (ins outs boxes : List (List ByteArray)) (t : Int) (hi : smallT ins) (ho : smallT outs) (hb : smallT boxes) (b : Bool) (hl : b = false → outs.length = ins.length) : Ev (fun k => impl_GoodNet.j0 k b K ins outs boxes t) (!b && (allI (relayP outs) 0 ins && boxes.all boxP)) := by
  refine eround (fun k => by rw [impl_GoodNet.j0]) ?_
  cases b with
  | true => exact epos rfl (enow rfl)
  | false => exact eneg (by simp) (implNt_l0 K ins outs boxes t hi ho hb (hl rfl) ins.length 0 (by omega))
theorem implNt_e (K : List Int) (ins outs boxes : List (List ByteArray)) (t : Int) (hK : K.length ≤ 1048576) (hi : smallT ins) (ho : smallT outs) (hb : smallT boxes) : Ev (fun k => impl_GoodNet.f k K ins outs boxes t) (goodN K ins outs boxes t) := by
  have J := implNt_j0 K ins outs boxes t hi ho hb
  unfold impl_GoodNet.f goodN
  refine enb (within_eq _ _ _) ?_
  cases h1 : inR 1 4 (K.length : Int) with
  | false => refine eneg (by simp) ?_; simpa using J true (by simp)
  | true =>
    have h1' := inR_iff.1 h1
    refine epos rfl (ebind (keys_e K (by omega)) ?_)
    cases h2 : K.all (inR 0 65535) with
    | false => refine eneg (by simp) ?_; simpa using J true (by simp)
    | true =>
      refine epos rfl ?_
      by_cases h3 : (ins.length : Int) = (K.length : Int)
      · refine epos h3 ?_
        by_cases h4 : (outs.length : Int) = (K.length : Int)
        · refine epos h4 ?_
          by_cases h5 : (boxes.length : Int) = 4
          · refine epos h5 (enb (within_eq _ _ _) ?_)
            have := J (!inR 0 60 t) (fun _ => by omega)
            simpa [h3, h4, h5] using this
          · refine eneg h5 ?_; simpa [h5] using J true (by simp)
        · refine eneg h4 ?_; simpa [h4] using J true (by simp)
      · refine eneg h3 ?_; simpa [h3] using J true (by simp)
theorem FnExactGoodNet : laws_FnExactGoodNet.Pure := by
  intro K ins outs boxes t hw
  obtain ⟨w0, w1, w2, w3, _⟩ := hw
  apply Ev.rounds
  unfold laws_FnExactGoodNet.f
  obtain ⟨r, _, r2, r3⟩ := laws_szNet_z K ins outs boxes t 1048576 (by omega) (by omega) w0.1 ⟨w1.1, fun y hy => ⟨(w1.2 y hy).1, (w1.2 y hy).2⟩⟩ ⟨w2.1, fun y hy => ⟨(w2.2 y hy).1, (w2.2 y hy).2⟩⟩ ⟨w3.1, fun y hy => ⟨(w3.2 y hy).1, (w3.2 y hy).2⟩⟩
  refine ebind r2 ?_
  by_cases hr : r < 0
  · exact epos hr (enow rfl)
  · refine eneg hr ?_
    obtain ⟨c0, c1, c2, c3⟩ := r3 (by omega)
    have e1 := laws_toNet_e K ins outs boxes t c0 c1 c2 c3
    have e2 := specNt_e K ins outs boxes t c0 c1 c2 c3
    have e3 := implNt_e K ins outs boxes t c0 c1 c2 c3
    have e4 := laws_eqNet_r K ins outs boxes t c0 c1 c2 c3
    repeat' first
      | exact enow rfl
      | (with_reducible refine ebind e1 ?_)
      | (with_reducible refine ebind e2 ?_)
      | (with_reducible refine ebind e3 ?_)
      | (with_reducible refine ebind e4 ?_)
      | (with_reducible refine enb rfl ?_)
      | (with_reducible refine epos rfl ?_)
      | (refine eneg ?_ ?_; focus (first | omega | (dsimp only; omega) | (simp; done) | (simp; omega)))

end Go.Proofs.Ytpibdgknmjjolaa.Pure
