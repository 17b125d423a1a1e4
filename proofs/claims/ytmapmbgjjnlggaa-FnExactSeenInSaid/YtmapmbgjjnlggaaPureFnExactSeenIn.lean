/- The law FnExactSeenIn, told over numbers: the program's SeenIn and the reference's answer alike; the answer owns its memory. No condition. -/
import Derived.Test.YtmapmbgjjnlggaaQFnExactSeenInx2
import Derived.Test.YtmapmbgjjnlggaaPk
namespace Go.Proofs.Ytmapmbgjjnlggaa.Pure
open Go.RowKit Go.Proofs.Ytmapmbgjjnlggaa.QFnExactSeenIn Go.Proofs.YtmapmbgjjnlggaaW.PrintWords Go.Proofs.YtmapmbgjjnlggaaW.PrintLast Go.Proofs.YtmapmbgjjnlggaaW.PrintMore Go.Proofs.Ytmapmbgjjnlggaa
set_option linter.unusedVariables false
set_option linter.unusedSimpArgs false

open Pk
/-! laws_toWindow -/
theorem laws_toWindow_e (a0_0 : Int) (a0_1 : Int) : laws_toWindow.f a0_0 a0_1 = some (a0_0, a0_1) := rfl
/-! laws_eqIntS -/
theorem laws_eqIntS_lr (xs : List Int) (hs : xs.length ≤ 1048576) : ∀ (d i : Nat), i + d = xs.length → Ev (fun k => laws_eqIntS.l0 k xs xs (i : Int)) true := by
  have hn := hs
  intro d
  induction d with
  | zero =>
    intro i hi
    exact eround (fun k => by rw [laws_eqIntS.l0]) (eneg (by omega) (enow rfl))
  | succ d ih =>
    intro i hi
    have hlt : i < xs.length := by omega
    refine eround (fun k => by rw [laws_eqIntS.l0]) (epos (by omega) (epos (by omega) (epos (by omega) ?_)))
    first | refine epos rfl ?_ | (refine eneg ?_ ?_; focus (simp; done))
    rw [w64 (by omega) (by omega)]
    exact ih (i + 1) (by omega)
theorem laws_eqIntS_r (xs : List Int) (hs : xs.length ≤ 1048576) : Ev (fun k => laws_eqIntS.f k xs xs) true := by
  unfold laws_eqIntS.f
  exact epos rfl (laws_eqIntS_lr xs hs xs.length 0 (by omega))
/-! laws_markIntS -/
theorem laws_markIntS_h : ∀ (d i : Nat) (xs : List Int) (m : Int), i + d = xs.length → xs.length ≤ 1048576 → 0 ≤ m → m ≤ 4611686018427387904 - 1 * d → ∃ ys : List Int, ys.length = xs.length ∧ ys.take i = xs.take i ∧
    Ev (fun k => laws_markIntS.l0 k xs m (i : Int)) (m + 1 * d, ys) ∧ Ev (fun k => laws_heldIntS.l0 k ys m (i : Int)) (m + 1 * d) := by
  intro d
  induction d with
  | zero =>
    intro i xs m hi hn h0 h1
    exact ⟨xs, rfl, rfl, eround (fun k => by rw [laws_markIntS.l0]) (eneg (by omega) (enow (by simp))), eround (fun k => by rw [laws_heldIntS.l0]) (eneg (by omega) (enow (by simp)))⟩
  | succ d ih =>
    intro i xs m hi hn h0 h1
    have hlt : i < xs.length := by omega
    have w1 : wrap64 ((i : Int) + 1) = ((i + 1 : Nat) : Int) := by rw [w64 (by omega) (by omega)]; rfl
    have v0 : wrap64 (m + 1) = m + 1 := w64 (by omega) (by omega)
    obtain ⟨ys, hl, ht, hm, hh⟩ := ih (i + 1) (xs.set ((i : Int)).toNat m) (m + 1) (by simp; omega) (by simpa using hn) (by omega) (by push_cast at h1; omega)
    have hlt' : i < ys.length := by rw [hl]; simpa using hlt
    have hy : ys[i] = m := by
      have := congrArg (fun l => l[i]?) ht
      simp only [List.getElem?_take_of_lt (Nat.lt_succ_self i), List.getElem?_eq_getElem hlt'] at this
      rw [show ((i : Int)).toNat = i by simp, List.getElem?_set_self (by simpa using hlt)] at this
      exact Option.some.inj this
    refine ⟨ys, by rw [hl]; simp, ?_, ?_, ?_⟩
    · have := congrArg (List.take i) ht
      rw [List.take_take, List.take_take, Nat.min_eq_left (by omega)] at this
      rw [this]
      simp [List.take_set_of_le]
    · refine eround (fun k => by rw [laws_markIntS.l0]) (epos (by omega) ?_)
      try simp only [w1, v0]
      refine epos (by omega) ?_
      refine enb rfl ?_
      try simp only [w1, v0]
      skip
      rw [show m + 1 * ((d + 1 : Nat) : Int) = m + 1 + 1 * (d : Int) by push_cast; omega]
      simpa using hm
    · refine eround (fun k => by rw [laws_heldIntS.l0]) (epos (by omega) (epos (by omega) ?_))
      have hr : ∀ z, ys.getD ((i : Int)).toNat z = ys[i] := fun z => getD_get ys i z hlt'
      try simp only [w1, v0]
      simp only [rd, rdOf, hr, hy]
      repeat (first | refine epos trivial ?_ | refine epos rfl ?_ | (refine eneg ?_ ?_; focus (simp; done)))
      rw [show m + 1 * ((d + 1 : Nat) : Int) = m + 1 + 1 * (d : Int) by push_cast; omega]
      exact hh
theorem laws_markIntS_m (xs : List Int) (m : Int) (hn : xs.length ≤ 1048576) (h0 : 0 ≤ m) (h1 : m ≤ 4611686018427387904 - 1 * xs.length) : ∃ ys : List Int, ys.length = xs.length ∧ Ev (fun k => laws_markIntS.f k xs m) (m + 1 * xs.length, ys) ∧ Ev (fun k => laws_heldIntS.f k ys m) (m + 1 * xs.length) := by
  obtain ⟨ys, hl, _, h⟩ := laws_markIntS_h xs.length 0 xs m (by omega) hn h0 h1
  exact ⟨ys, hl, h⟩
def inR (lo hi x : Int) : Bool := decide (x ≥ lo) && decide (x ≤ hi)
theorem inR_iff {lo hi x : Int} : inR lo hi x = true ↔ lo ≤ x ∧ x ≤ hi := by simp [inR]
theorem l1In_eq (a lo hi : Int) : spec_l1In.f a lo hi = some (inR lo hi a) := by
  unfold spec_l1In.f inR
  by_cases h : a ≥ lo <;> simp [h]
theorem within_eq (a lo hi : Int) : impl_within.f a lo hi = some (inR lo hi a) := by
  unfold impl_within.f inR
  by_cases h : a ≥ lo <;> simp [h]
def goodW (T B : Int) : Bool := inR 0 100000 T && (inR 0 65535 B && (((Go.bits .and .i64 B 1) == 1) == (T != 0) && (decide (T ≥ 16) || (shr .i64 B T == 0))))
noncomputable def allow (i T B : Nat) : Bool := @decide (∀ j, j < 16 → i ≤ j → B.testBit j = true → j < T) (Classical.propDecidable _)
theorem allow_iff {i T B : Nat} : allow i T B = true ↔ ∀ j, j < 16 → i ≤ j → B.testBit j = true → j < T := by unfold allow; exact @decide_eq_true_iff _ (Classical.propDecidable _)
theorem gw_l (T B : Nat) (hT : T ≤ 100000) (hB : B ≤ 65535) : ∀ (d i : Nat), i + d = 16 → Ev (fun k => spec_GoodWindow.l0 k (i : Int) (T : Int) (B : Int)) (allow i T B) := by
  intro d
  induction d with
  | zero =>
    intro i hi
    refine eround (fun k => by rw [spec_GoodWindow.l0]) (eneg (by omega) (enow ?_))
    symm
    rw [allow_iff]
    intro j h1 h2
    omega
  | succ d ih =>
    intro i hi
    refine eround (fun k => by rw [spec_GoodWindow.l0]) (epos (by omega) ?_)
    rw [u64_wrap_small (i : Int) (by omega) (by omega)]
    refine epos (by omega) ?_
    rw [bit_at B i (by omega) (by omega), w64 (x := (i : Int) + 1) (by omega) (by omega), w64 (x := (T : Int) - i) (by omega) (by omega)]
    cases hb : B.testBit i with
    | true =>
      refine epos rfl ?_
      by_cases h : T ≤ i
      · refine epos (by omega) (enow ?_)
        symm
        rw [Bool.eq_false_iff]
        intro hh
        have := allow_iff.1 hh i (by omega) (Nat.le_refl i) hb
        omega
      · refine eneg (by omega) ?_
        rw [show allow i T B = allow (i + 1) T B from by
          rw [Bool.eq_iff_iff, allow_iff, allow_iff]
          constructor
          · exact fun hh j h2 h1 => hh j h2 (by omega)
          · intro hh j h2 h1 h3
            rcases Nat.eq_or_lt_of_le h1 with rfl | h4
            · omega
            · exact hh j h2 h4 h3]
        exact ih (i + 1) (by omega)
    | false =>
      refine eneg (by decide) ?_
      rw [show allow i T B = allow (i + 1) T B from by
        rw [Bool.eq_iff_iff, allow_iff, allow_iff]
        constructor
        · exact fun hh j h2 h1 => hh j h2 (by omega)
        · intro hh j h2 h1 h3
          rcases Nat.eq_or_lt_of_le h1 with rfl | h4
          · rw [hb] at h3; cases h3
          · exact hh j h2 h4 h3]
      exact ih (i + 1) (by omega)
theorem gw_tail (T B : Nat) (hB : B ≤ 65535) : allow 0 T B = (decide ((T : Int) ≥ 16) || (shr .i64 (B : Int) (T : Int) == 0)) := by
  by_cases h : T ≥ 16
  · rw [show decide ((T : Int) ≥ 16) = true from by simp; omega, Bool.true_or]
    rw [allow_iff]
    intro j h2 _ _
    omega
  · rw [show decide ((T : Int) ≥ 16) = false from by simp; omega, Bool.false_or, shr_nat B T (by omega)]
    rw [Bool.eq_iff_iff, allow_iff]
    simp only [beq_iff_eq]
    constructor
    · intro hh
      have : B >>> T = 0 := by
        apply Nat.eq_of_testBit_eq
        intro i
        rw [Nat.testBit_shiftRight, Nat.zero_testBit]
        cases hb : B.testBit (T + i) with
        | false => rfl
        | true =>
          rcases Nat.lt_or_ge (T + i) 16 with h1 | h1
          · have := hh (T + i) h1 (Nat.zero_le _) hb
            omega
          · have h2 : B < 2 ^ (T + i) := Nat.lt_of_lt_of_le (show B < 2 ^ 16 by omega) (Nat.pow_le_pow_right (by decide) h1)
            rw [Nat.testBit_lt_two_pow h2] at hb
            cases hb
      omega
    · intro hh j h2 _ h3
      have hz : B >>> T = 0 := by omega
      rcases Nat.lt_or_ge j T with h1 | h1
      · exact h1
      · have : (B >>> T).testBit (j - T) = true := by
          rw [Nat.testBit_shiftRight, show T + (j - T) = j by omega]
          exact h3
        rw [hz, Nat.zero_testBit] at this
        cases this
theorem specGW_e (T B : Int) : Ev (fun k => spec_GoodWindow.f k T B) (goodW T B) := by
  unfold spec_GoodWindow.f goodW
  refine enb (l1In_eq _ _ _) ?_
  cases h1 : inR 0 100000 T with
  | false => exact eneg (by simp) (eround (fun k => by rw [spec_GoodWindow.j0]) (epos rfl (enow (by simp))))
  | true =>
    refine epos rfl (enb (l1In_eq _ _ _) ?_)
    cases h2 : inR 0 65535 B with
    | false => exact eneg (by simp) (eround (fun k => by rw [spec_GoodWindow.j0]) (epos rfl (enow (by simp))))
    | true =>
      refine epos rfl (eround (fun k => by rw [spec_GoodWindow.j0]) ?_)
      rw [inR_iff] at h1 h2
      have e : (decide (T > 0)) = (T != 0) := by
        rw [Bool.eq_iff_iff]; simp; omega
      rw [e]
      cases h3 : (((Go.bits .and .i64 B 1) == 1) != (T != 0)) with
      | true => exact epos rfl (enow (by simp only [bne, Bool.not_eq_true'] at h3; simp [bne, h3]))
      | false =>
        refine eneg (by simp) ?_
        have h3' : (((Go.bits .and .i64 B 1) == 1) == (T != 0)) = true := by simp only [bne, Bool.not_eq_false'] at h3 ⊢; exact h3
        rw [h3', Bool.true_and, Bool.true_and, Bool.true_and]
        obtain ⟨t, rfl⟩ := Int.eq_ofNat_of_zero_le h1.1
        obtain ⟨b, rfl⟩ := Int.eq_ofNat_of_zero_le h2.1
        rw [← gw_tail t b (by omega)]
        exact gw_l t b (by omega) (by omega) 16 0 rfl
theorem implGW_eq (T B : Int) : impl_GoodWindow.f T B = some (goodW T B) := by
  unfold impl_GoodWindow.f goodW
  rw [within_eq, Option.bind_some]
  cases h1 : inR 0 100000 T with
  | false => simp
  | true =>
    rw [if_pos rfl, within_eq, Option.bind_some]
    cases h2 : inR 0 65535 B with
    | false => simp
    | true =>
      rw [if_pos rfl]
      rw [inR_iff] at h1
      cases h3 : (((Go.bits .and .i64 B 1) == 1) != (T != 0)) with
      | true => simp only [bne, Bool.not_eq_true'] at h3; simp [bne, h3]
      | false =>
        have h3' : (((Go.bits .and .i64 B 1) == 1) == (T != 0)) = true := by simp only [bne, Bool.not_eq_false'] at h3 ⊢; exact h3
        rw [h3', Bool.true_and, Bool.true_and, Bool.true_and, if_neg (by simp)]
        by_cases h : T ≥ 16
        · simp [h]
        · simp [h, h1.1]
def seenF (T B : Nat) : Nat → List Int
  | 0 => []
  | n + 1 => (if B.testBit n then [(T : Int) - n] else []) ++ seenF T B n
theorem seenF_len (T B : Nat) : ∀ n, (seenF T B n).length ≤ n
  | 0 => Nat.le_refl _
  | n + 1 => by
    have := seenF_len T B n
    simp only [seenF, List.length_append]
    split <;> simp <;> omega
def seenR (T B : Int) : List Int × Bool := if goodW T B = true then (seenF T.toNat B.toNat 16, true) else ([], false)
theorem seenR_len (T B : Int) : (seenR T B).1.length ≤ 16 := by
  unfold seenR
  split
  · exact seenF_len _ _ 16
  · simp
theorem specSeen_l (T B : Nat) (hT : T ≤ 100000) (hB : B ≤ 65535) : ∀ (n : Nat) (out : List Int), n ≤ 16 → out.length + n ≤ 16 → Ev (fun k => spec_l16Seen.l0 k out ((n : Int) - 1) (T : Int) (B : Int)) (out ++ seenF T B n) := by
  intro n
  induction n with
  | zero =>
    intro out _ _
    exact eround (fun k => by rw [spec_l16Seen.l0]) (eneg (by omega) (enow (by simp [seenF])))
  | succ n ih =>
    intro out h1 h2
    rw [show ((n + 1 : Nat) : Int) - 1 = (n : Int) by omega]
    refine eround (fun k => by rw [spec_l16Seen.l0]) (epos (by omega) ?_)
    rw [u64_wrap_small (n : Int) (by omega) (by omega)]
    refine epos (by omega) ?_
    rw [bit_at B n (by omega) (by omega), w64 (x := (n : Int) - 1) (by omega) (by omega), w64 (x := (T : Int) - n) (by omega) (by omega)]
    simp only [seenF]
    cases hb : B.testBit n with
    | true =>
      refine epos rfl (epos (by omega) ?_)
      have := ih (out ++ [(T : Int) - n]) (by omega) (by simp; omega)
      rw [List.append_assoc] at this
      simpa using this
    | false =>
      refine eneg (by decide) ?_
      simpa using ih out (by omega) (by omega)
theorem implSeen_l (T B : Nat) (hT : T ≤ 100000) (hB : B ≤ 65535) : ∀ (n : Nat) (out : List Int), n ≤ 16 → out.length + n ≤ 16 → Ev (fun k => impl_SeenIn.l0 k out ((n : Int) - 1) (T : Int) (B : Int)) (out ++ seenF T B n, true) := by
  intro n
  induction n with
  | zero =>
    intro out _ _
    exact eround (fun k => by rw [impl_SeenIn.l0]) (eneg (by omega) (enow (by simp [seenF])))
  | succ n ih =>
    intro out h1 h2
    rw [show ((n + 1 : Nat) : Int) - 1 = (n : Int) by omega]
    refine eround (fun k => by rw [impl_SeenIn.l0]) (epos (by omega) (epos (by omega) ?_))
    rw [bit_at B n (by omega) (by omega), w64 (x := (n : Int) - 1) (by omega) (by omega), w64 (x := (T : Int) - n) (by omega) (by omega)]
    simp only [seenF]
    cases hb : B.testBit n with
    | true =>
      refine epos rfl (epos (by omega) ?_)
      have := ih (out ++ [(T : Int) - n]) (by omega) (by simp; omega)
      rw [List.append_assoc] at this
      simpa using this
    | false =>
      refine eneg (by decide) ?_
      simpa using ih out (by omega) (by omega)
theorem goodW_nat {T B : Int} (h : goodW T B = true) : ∃ t b : Nat, T = t ∧ B = b ∧ t ≤ 100000 ∧ b ≤ 65535 := by
  unfold goodW at h
  simp only [Bool.and_eq_true] at h
  have h1 := inR_iff.1 h.1
  have h2 := inR_iff.1 h.2.1
  exact ⟨T.toNat, B.toNat, by omega, by omega, by omega, by omega⟩
theorem specSeenR_e (T B : Int) : Ev (fun k => spec_SeenIn.f k T B) (seenR T B) := by
  unfold spec_SeenIn.f seenR
  refine ebind (specGW_e T B) ?_
  cases h : goodW T B with
  | false => exact eneg (by simp) (enow rfl)
  | true =>
    obtain ⟨t, b, rfl, rfl, h1, h2⟩ := goodW_nat h
    refine epos rfl (ebind (a := seenF t b 16) ?_ (enow (by simp)))
    unfold spec_l16Seen.f
    exact specSeen_l t b h1 h2 16 [] (by omega) (by simp)
theorem implSeenR_e (T B : Int) : Ev (fun k => impl_SeenIn.f k T B) (seenR T B) := by
  unfold impl_SeenIn.f seenR
  refine enb (implGW_eq T B) ?_
  cases h : goodW T B with
  | false => exact eneg (by simp) (enow rfl)
  | true =>
    obtain ⟨t, b, rfl, rfl, h1, h2⟩ := goodW_nat h
    refine epos rfl ?_
    rw [if_pos rfl]
    exact implSeen_l t b h1 h2 16 [] (by omega) (by simp)
theorem FnExactSeenIn : laws_FnExactSeenIn.Pure := by
  intro a b _
  apply Ev.rounds
  unfold laws_FnExactSeenIn.f
  have hR : (seenR a b).1.length ≤ 1048576 := Nat.le_trans (seenR_len a b) (by decide)
  have e2 := specSeenR_e a b
  have e3 := implSeenR_e a b
  have e4 := laws_eqIntS_r _ hR
  obtain ⟨_, _, q3, q4⟩ := laws_markIntS_m (seenR a b).1 1 hR (by omega) (by omega)
  repeat' first
    | exact enow rfl
    | (with_reducible refine ebind e2 ?_)
    | (with_reducible refine ebind e3 ?_)
    | (with_reducible refine ebind e4 ?_)
    | (with_reducible refine ebind q3 ?_)
    | (with_reducible refine ebind q4 ?_)
    | (with_reducible refine enb (laws_toWindow_e _ _) ?_)
    | (with_reducible refine eround (fun k => laws_FnExactSeenIn.j0.eq_2 _ _ _ _ _ _ _) ?_)
    | (with_reducible refine eround (fun k => laws_FnExactSeenIn.j1.eq_2 _ _ _ _) ?_)
    | (with_reducible refine enb rfl ?_)
    | (with_reducible refine epos rfl ?_)
    | (refine eneg ?_ ?_; focus (first | omega | (dsimp only; omega) | (simp; done) | (simp; omega)))

end Go.Proofs.Ytmapmbgjjnlggaa.Pure
