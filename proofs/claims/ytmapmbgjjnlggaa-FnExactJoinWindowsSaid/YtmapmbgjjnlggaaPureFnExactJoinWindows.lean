/- The law FnExactJoinWindows, told over numbers: the program's JoinWindows and the reference's answer alike. No condition. -/
import Derived.Test.YtmapmbgjjnlggaaQFnExactJoinWindowsx4
import Derived.Test.YtmapmbgjjnlggaaPk
namespace Go.Proofs.Ytmapmbgjjnlggaa.Pure
open Go.RowKit Go.Proofs.Ytmapmbgjjnlggaa.QFnExactJoinWindows Go.Proofs.YtmapmbgjjnlggaaW.PrintWords Go.Proofs.YtmapmbgjjnlggaaW.PrintLast Go.Proofs.YtmapmbgjjnlggaaW.PrintMore Go.Proofs.Ytmapmbgjjnlggaa
set_option linter.unusedVariables false
set_option linter.unusedSimpArgs false

open Pk
/-! laws_toWindow -/
theorem laws_toWindow_e (a0_0 : Int) (a0_1 : Int) : laws_toWindow.f a0_0 a0_1 = some (a0_0, a0_1) := rfl
/-! laws_eqWindow -/
theorem laws_eqWindow_r (a0_0 : Int) (a0_1 : Int) : laws_eqWindow.f a0_0 a0_1 a0_0 a0_1 = some true := by
  unfold laws_eqWindow.f
  simp
def inR (lo hi x : Int) : Bool := decide (x ≥ lo) && decide (x ≤ hi)
theorem inR_iff {lo hi x : Int} : inR lo hi x = true ↔ lo ≤ x ∧ x ≤ hi := by simp [inR]
theorem l1In_eq (a lo hi : Int) : spec_l1In.f a lo hi = some (inR lo hi a) := by
  unfold spec_l1In.f inR
  by_cases h : a ≥ lo <;> simp [h]
theorem within_eq (a lo hi : Int) : impl_within.f a lo hi = some (inR lo hi a) := by
  unfold impl_within.f inR
  by_cases h : a ≥ lo <;> simp [h]
def goodW (T B : Int) : Bool := inR 0 100000 T && (inR 0 65535 B && (((Go.bits .and .i64 B 1) == 1) == (T != 0) && (decide (T ≥ 16) || (shr .i64 B T == 0))))
noncomputable def allow (i T B : Nat) : Bool := @decide (∀ j, j < 16 → i ≤ j → B.testBit j = true → j < T) (Classical.propDecidable _)
theorem allow_iff {i T B : Nat} : allow i T B = true ↔ ∀ j, j < 16 → i ≤ j → B.testBit j = true → j < T := by unfold allow; exact @decide_eq_true_iff _ (Classical.propDecidable _)
theorem gw_l (T B : Nat) (hT : T ≤ 100000) (hB : B ≤ 65535) : ∀ (d i : Nat), i + d = 16 → Ev (fun k => spec_GoodWindow.l0 k (i : Int) (T : Int) (B : Int)) (allow i T B) := by
  intro d
  induction d with
  | zero =>
    intro i hi
    refine eround (fun k => by rw [spec_GoodWindow.l0]) (eneg (by omega) (enow ?_))
    symm
    rw [allow_iff]
    intro j h1 h2
    omega
  | succ d ih =>
    intro i hi
    refine eround (fun k => by rw [spec_GoodWindow.l0]) (epos (by omega) ?_)
    rw [u64_wrap_small (i : Int) (by omega) (by omega)]
    refine epos (by omega) ?_
    rw [bit_at B i (by omega) (by omega), w64 (x := (i : Int) + 1) (by omega) (by omega), w64 (x := (T : Int) - i) (by omega) (by omega)]
    cases hb : B.testBit i with
    | true =>
      refine epos rfl ?_
      by_cases h : T ≤ i
      · refine epos (by omega) (enow ?_)
        symm
        rw [Bool.eq_false_iff]
        intro hh
        have := allow_iff.1 hh i (by omega) (Nat.le_refl i) hb
        omega
      · refine eneg (by omega) ?_
        rw [show allow i T B = allow (i + 1) T B from by
          rw [Bool.eq_iff_iff, allow_iff, allow_iff]
          constructor
          · exact fun hh j h2 h1 => hh j h2 (by omega)
          · intro hh j h2 h1 h3
            rcases Nat.eq_or_lt_of_le h1 with rfl | h4
            · omega
            · exact hh j h2 h4 h3]
        exact ih (i + 1) (by omega)
    | false =>
      refine eneg (by decide) ?_
      rw [show allow i T B = allow (i + 1) T B from by
        rw [Bool.eq_iff_iff, allow_iff, allow_iff]
        constructor
        · exact fun hh j h2 h1 => hh j h2 (by omega)
        · intro hh j h2 h1 h3
          rcases Nat.eq_or_lt_of_le h1 with rfl | h4
          · rw [hb] at h3; cases h3
          · exact hh j h2 h4 h3]
      exact ih (i + 1) (by omega)
theorem gw_tail (T B : Nat) (hB : B ≤ 65535) : allow 0 T B = (decide ((T : Int) ≥ 16) || (shr .i64 (B : Int) (T : Int) == 0)) := by
  by_cases h : T ≥ 16
  · rw [show decide ((T : Int) ≥ 16) = true from by simp; omega, Bool.true_or]
    rw [allow_iff]
    intro j h2 _ _
    omega
  · rw [show decide ((T : Int) ≥ 16) = false from by simp; omega, Bool.false_or, shr_nat B T (by omega)]
    rw [Bool.eq_iff_iff, allow_iff]
    simp only [beq_iff_eq]
    constructor
    · intro hh
      have : B >>> T = 0 := by
        apply Nat.eq_of_testBit_eq
        intro i
        rw [Nat.testBit_shiftRight, Nat.zero_testBit]
        cases hb : B.testBit (T + i) with
        | false => rfl
        | true =>
          rcases Nat.lt_or_ge (T + i) 16 with h1 | h1
          · have := hh (T + i) h1 (Nat.zero_le _) hb
            omega
          · have h2 : B < 2 ^ (T + i) := Nat.lt_of_lt_of_le (show B < 2 ^ 16 by omega) (Nat.pow_le_pow_right (by decide) h1)
            rw [Nat.testBit_lt_two_pow h2] at hb
            cases hb
      omega
    · intro hh j h2 _ h3
      have hz : B >>> T = 0 := by omega
      rcases Nat.lt_or_ge j T with h1 | h1
      · exact h1
      · have : (B >>> T).testBit (j - T) = true := by
          rw [Nat.testBit_shiftRight, show T + (j - T) = j by omega]
          exact h3
        rw [hz, Nat.zero_testBit] at this
        cases this
theorem specGW_e (T B : Int) : Ev (fun k => spec_GoodWindow.f k T B) (goodW T B) := by
  unfold spec_GoodWindow.f goodW
  refine enb (l1In_eq _ _ _) ?_
  cases h1 : inR 0 100000 T with
  | false => exact eneg (by simp) (eround (fun k => by rw [spec_GoodWindow.j0]) (epos rfl (enow (by simp))))
  | true =>
    refine epos rfl (enb (l1In_eq _ _ _) ?_)
    cases h2 : inR 0 65535 B with
    | false => exact eneg (by simp) (eround (fun k => by rw [spec_GoodWindow.j0]) (epos rfl (enow (by simp))))
    | true =>
      refine epos rfl (eround (fun k => by rw [spec_GoodWindow.j0]) ?_)
      rw [inR_iff] at h1 h2
      have e : (decide (T > 0)) = (T != 0) := by
        rw [Bool.eq_iff_iff]; simp; omega
      rw [e]
      cases h3 : (((Go.bits .and .i64 B 1) == 1) != (T != 0)) with
      | true => exact epos rfl (enow (by simp only [bne, Bool.not_eq_true'] at h3; simp [bne, h3]))
      | false =>
        refine eneg (by simp) ?_
        have h3' : (((Go.bits .and .i64 B 1) == 1) == (T != 0)) = true := by simp only [bne, Bool.not_eq_false'] at h3 ⊢; exact h3
        rw [h3', Bool.true_and, Bool.true_and, Bool.true_and]
        obtain ⟨t, rfl⟩ := Int.eq_ofNat_of_zero_le h1.1
        obtain ⟨b, rfl⟩ := Int.eq_ofNat_of_zero_le h2.1
        rw [← gw_tail t b (by omega)]
        exact gw_l t b (by omega) (by omega) 16 0 rfl
theorem implGW_eq (T B : Int) : impl_GoodWindow.f T B = some (goodW T B) := by
  unfold impl_GoodWindow.f goodW
  rw [within_eq, Option.bind_some]
  cases h1 : inR 0 100000 T with
  | false => simp
  | true =>
    rw [if_pos rfl, within_eq, Option.bind_some]
    cases h2 : inR 0 65535 B with
    | false => simp
    | true =>
      rw [if_pos rfl]
      rw [inR_iff] at h1
      cases h3 : (((Go.bits .and .i64 B 1) == 1) != (T != 0)) with
      | true => simp only [bne, Bool.not_eq_true'] at h3; simp [bne, h3]
      | false =>
        have h3' : (((Go.bits .and .i64 B 1) == 1) == (T != 0)) = true := by simp only [bne, Bool.not_eq_false'] at h3 ⊢; exact h3
        rw [h3', Bool.true_and, Bool.true_and, Bool.true_and, if_neg (by simp)]
        by_cases h : T ≥ 16
        · simp [h]
        · simp [h, h1.1]
def seenF (T B : Nat) : Nat → List Int
  | 0 => []
  | n + 1 => (if B.testBit n then [(T : Int) - n] else []) ++ seenF T B n
theorem seenF_len (T B : Nat) : ∀ n, (seenF T B n).length ≤ n
  | 0 => Nat.le_refl _
  | n + 1 => by
    have := seenF_len T B n
    simp only [seenF, List.length_append]
    split <;> simp <;> omega
theorem specSeen_l (T B : Nat) (hT : T ≤ 100000) (hB : B ≤ 65535) : ∀ (n : Nat) (out : List Int), n ≤ 16 → out.length + n ≤ 16 → Ev (fun k => spec_l16Seen.l0 k out ((n : Int) - 1) (T : Int) (B : Int)) (out ++ seenF T B n) := by
  intro n
  induction n with
  | zero =>
    intro out _ _
    exact eround (fun k => by rw [spec_l16Seen.l0]) (eneg (by omega) (enow (by simp [seenF])))
  | succ n ih =>
    intro out h1 h2
    rw [show ((n + 1 : Nat) : Int) - 1 = (n : Int) by omega]
    refine eround (fun k => by rw [spec_l16Seen.l0]) (epos (by omega) ?_)
    rw [u64_wrap_small (n : Int) (by omega) (by omega)]
    refine epos (by omega) ?_
    rw [bit_at B n (by omega) (by omega), w64 (x := (n : Int) - 1) (by omega) (by omega), w64 (x := (T : Int) - n) (by omega) (by omega)]
    simp only [seenF]
    cases hb : B.testBit n with
    | true =>
      refine epos rfl (epos (by omega) ?_)
      have := ih (out ++ [(T : Int) - n]) (by omega) (by simp; omega)
      rw [List.append_assoc] at this
      simpa using this
    | false =>
      refine eneg (by decide) ?_
      simpa using ih out (by omega) (by omega)
theorem goodW_nat {T B : Int} (h : goodW T B = true) : ∃ t b : Nat, T = t ∧ B = b ∧ t ≤ 100000 ∧ b ≤ 65535 := by
  unfold goodW at h
  simp only [Bool.and_eq_true] at h
  have h1 := inR_iff.1 h.1
  have h2 := inR_iff.1 h.2.1
  exact ⟨T.toNat, B.toNat, by omega, by omega, by omega, by omega⟩
theorem shl_nat (a i : Nat) (hi : i ≤ 16) (ha : a < 2 ^ 40) : shl .i64 (a : Int) (i : Int) = ((a <<< i : Nat) : Int) := by
  unfold shl
  have h1 : min ((i : Int)).toNat IntKind.i64.bits = i := by simp [IntKind.bits]; omega
  rw [h1, Nat.shiftLeft_eq]
  have h2 : 2 ^ i ≤ 2 ^ 16 := Nat.pow_le_pow_right (by decide) hi
  have h3 : a * 2 ^ i < 2 ^ 40 * 2 ^ 16 + 1 := by
    have := Nat.mul_le_mul (Nat.le_of_lt ha) h2
    omega
  have h4 : (2 : Nat) ^ 40 * 2 ^ 16 + 1 < 2 ^ 62 := by decide
  have := wraps_i64 ((a * 2 ^ i : Nat) : Int) (by omega) (by exact_mod_cast Nat.lt_trans h3 h4)
  rw [← this]
  push_cast
  rfl
def shW (U T B : Nat) : Nat := if U - T < 16 then (B <<< (U - T)) &&& 65535 else 0
theorem bit65535 (n : Nat) : Nat.testBit 65535 n = decide (n < 16) := by
  have := Nat.testBit_two_pow_sub_one 16 n
  simpa using this
theorem shW_bit (U T B n : Nat) : (shW U T B).testBit n = (decide (n < 16) && (decide (U - T ≤ n) && B.testBit (n - (U - T)))) := by
  unfold shW
  by_cases h : U - T < 16
  · rw [if_pos h, Nat.testBit_and, Nat.testBit_shiftLeft, bit65535, Bool.and_comm]
  · rw [if_neg h, Nat.zero_testBit]
    by_cases h2 : n < 16
    · have : ¬ U - T ≤ n := by omega
      simp [this]
    · simp [h2]
theorem shW_le (U T B : Nat) : shW U T B ≤ 65535 := by
  unfold shW
  split
  · exact Nat.and_le_right
  · omega
theorem bit_high {B n : Nat} (hB : B ≤ 65535) (hn : 16 ≤ n) : B.testBit n = false :=
  Nat.testBit_lt_two_pow (Nat.lt_of_lt_of_le (show B < 2 ^ 16 by omega) (Nat.pow_le_pow_right (by decide) hn))
theorem shW_self (T B : Nat) (hB : B ≤ 65535) : shW T T B = B := by
  apply Nat.eq_of_testBit_eq
  intro n
  rw [shW_bit, Nat.sub_self, Nat.sub_zero]
  by_cases h : n < 16
  · simp [h]
  · rw [bit_high hB (by omega)]; simp
def joinB (T1 B1 T2 B2 : Nat) : Nat := shW (max T1 T2) T1 B1 ||| shW (max T1 T2) T2 B2
theorem joinB_le (T1 B1 T2 B2 : Nat) : joinB T1 B1 T2 B2 ≤ 65535 := by
  have := Nat.or_lt_two_pow (n := 16) (show shW (max T1 T2) T1 B1 < 2 ^ 16 by have := shW_le (max T1 T2) T1 B1; omega) (show shW (max T1 T2) T2 B2 < 2 ^ 16 by have := shW_le (max T1 T2) T2 B2; omega)
  unfold joinB
  omega
def orL (U : Int) : List Int → Nat → Nat
  | [], acc => acc
  | m :: ms, acc => orL U ms (if U - m < 16 then acc ||| 2 ^ (U - m).toNat else acc)
theorem orL_bit (U : Int) (n : Nat) : ∀ (ms : List Int) (acc : Nat), (∀ m ∈ ms, m ≤ U) → (orL U ms acc).testBit n = (acc.testBit n || (decide (n < 16) && ms.any (fun m => decide (U - m = (n : Int)))))
  | [], acc, _ => by simp [orL]
  | m :: ms, acc, h => by
    have hm := h m (by simp)
    simp only [orL, List.any_cons]
    rw [orL_bit U n ms _ (fun x hx => h x (by simp [hx]))]
    by_cases h1 : U - m < 16
    · rw [if_pos h1, Nat.testBit_or, Nat.testBit_two_pow]
      by_cases h2 : U - m = (n : Int)
      · have : (U - m).toNat = n := by omega
        have h3 : n < 16 := by omega
        simp [h2, h3]
      · have : ¬ (U - m).toNat = n := by omega
        simp [h2, this]
    · rw [if_neg h1]
      by_cases h2 : U - m = (n : Int)
      · have h3 : ¬ n < 16 := by omega
        simp [h3]
      · simp [h2]
theorem seenF_any (T B U n : Nat) (hT : T ≤ U) : ∀ k, (seenF T B k).any (fun m => decide ((U : Int) - m = (n : Int))) = (decide (U - T ≤ n) && (decide (n - (U - T) < k) && B.testBit (n - (U - T))))
  | 0 => by simp [seenF]
  | k + 1 => by
    simp only [seenF, List.any_append]
    rw [seenF_any T B U n hT k]
    by_cases h : n = U - T + k
    · have e : n - (U - T) = k := by omega
      have e2 : (U : Int) - ((T : Int) - (k : Int)) = (n : Int) := by omega
      have e3 : U - T ≤ n := by omega
      rw [e]
      cases hb : B.testBit k <;> simp [e2, e3]
    · have e2 : ¬ (U : Int) - ((T : Int) - (k : Int)) = (n : Int) := by omega
      have f : (if B.testBit k = true then [(T : Int) - (k : Int)] else []).any (fun m => decide ((U : Int) - m = (n : Int))) = false := by
        split
        · simp [e2]
        · rfl
      rw [f, Bool.false_or]
      by_cases h1 : U - T ≤ n
      · have : decide (n - (U - T) < k + 1) = decide (n - (U - T) < k) := by
          apply decide_eq_decide.2; omega
        rw [this]
      · simp [h1]
theorem seenF_le (T B : Nat) : ∀ k, ∀ m ∈ seenF T B k, m ≤ (T : Int)
  | 0, m, h => by simp [seenF] at h
  | k + 1, m, h => by
    simp only [seenF, List.mem_append] at h
    rcases h with h | h
    · split at h
      · simp at h; omega
      · simp at h
    · exact seenF_le T B k m h
theorem orL_join (T1 B1 T2 B2 : Nat) : orL ((max T1 T2 : Nat) : Int) (seenF T1 B1 16 ++ seenF T2 B2 16) 0 = joinB T1 B1 T2 B2 := by
  apply Nat.eq_of_testBit_eq
  intro n
  rw [orL_bit _ n _ _ (fun m hm => by
    rcases List.mem_append.1 hm with h | h
    · have := seenF_le _ _ _ m h; omega
    · have := seenF_le _ _ _ m h; omega)]
  rw [List.any_append, seenF_any T1 B1 (max T1 T2) n (by omega), seenF_any T2 B2 (max T1 T2) n (by omega)]
  unfold joinB
  rw [Nat.testBit_or, shW_bit, shW_bit, Nat.zero_testBit]
  by_cases h : n < 16
  · have h1 : n - (max T1 T2 - T1) < 16 := by omega
    have h2 : n - (max T1 T2 - T2) < 16 := by omega
    simp [h, h1, h2]
  · simp [h]
def joinR (T1 B1 T2 B2 : Int) : Int × Int × Bool := if goodW T1 B1 = true ∧ goodW T2 B2 = true then (((max T1.toNat T2.toNat : Nat) : Int), ((joinB T1.toNat B1.toNat T2.toNat B2.toNat : Nat) : Int), true) else (0, 0, false)
theorem specJ_l (U : Nat) (hU : U ≤ 100000) (ms : List Int) (hm : ∀ m ∈ ms, m ≤ (U : Int) ∧ -100 ≤ m) (hn : ms.length ≤ 1000) : ∀ (d i : Nat) (acc : Nat), i + d = ms.length → acc ≤ 65535 → Ev (fun k => spec_JoinWindows.l0 k ms (ms.length : Int) (i : Int) (U : Int) (acc : Int)) ((U : Int), ((orL U (ms.drop i) acc : Nat) : Int), true) := by
  intro d
  induction d with
  | zero =>
    intro i acc hi ha
    refine eround (fun k => by rw [spec_JoinWindows.l0]) (eneg (by omega) (enow ?_))
    rw [List.drop_eq_nil_of_le (by omega)]; rfl
  | succ d ih =>
    intro i acc hi ha
    have hlt : i < ms.length := by omega
    have hx := hm _ (List.getElem_mem hlt)
    refine eround (fun k => by rw [spec_JoinWindows.l0]) (epos (by omega) (epos (by omega) (epos (by omega) ?_)))
    rw [rd_get ms i hlt, List.drop_eq_getElem_cons hlt, w64 (x := (i : Int) + 1) (by omega) (by omega), w64 (x := (U : Int) - ms[i]) (by omega) (by omega), u64_wrap_small ((U : Int) - ms[i]) (by omega) (by omega)]
    generalize ms[i] = m at hx
    simp only [orL]
    by_cases h : (U : Int) - m < 16
    · refine epos h (epos (by omega) ?_)
      rw [if_pos h]
      have e : (U : Int) - m = (((U : Int) - m).toNat : Int) := by omega
      have h1 := shl_nat 1 ((U : Int) - m).toNat (by omega) (by decide)
      rw [← e] at h1
      rw [show ((1 : Nat) : Int) = 1 from rfl] at h1
      rw [h1, Nat.one_shiftLeft]
      have hp : 2 ^ ((U : Int) - m).toNat < 2 ^ 16 := Nat.pow_lt_pow_right (by decide) (by omega)
      have h2 := bor acc (2 ^ ((U : Int) - m).toNat) (Nat.lt_of_lt_of_le (show acc < 2 ^ 16 by omega) (by decide)) (Nat.lt_of_lt_of_le hp (by decide))
      rw [h2]
      have := Nat.or_lt_two_pow (n := 16) (show acc < 2 ^ 16 by omega) hp
      exact ih (i + 1) _ (by omega) (by omega)
    · refine eneg h ?_
      rw [if_neg h]
      exact ih (i + 1) acc (by omega) ha
theorem seenF_ge (T B : Nat) : ∀ k, ∀ m ∈ seenF T B k, (T : Int) - k < m
  | 0, m, h => by simp [seenF] at h
  | k + 1, m, h => by
    simp only [seenF, List.mem_append] at h
    rcases h with h | h
    · split at h
      · simp at h; omega
      · simp at h
    · have := seenF_ge T B k m h; omega
theorem specJ_j1 (T1 B1 T2 B2 : Nat) (h1 : T1 ≤ 100000) (h2 : B1 ≤ 65535) (h3 : T2 ≤ 100000) (h4 : B2 ≤ 65535) : Ev (fun k => spec_JoinWindows.j1 k (T1 : Int) (B1 : Int) (T2 : Int) (B2 : Int) ((max T1 T2 : Nat) : Int) 0) (((max T1 T2 : Nat) : Int), ((joinB T1 B1 T2 B2 : Nat) : Int), true) := by
  have s1 : Ev (fun k => spec_l16Seen.f k (T1 : Int) (B1 : Int)) (seenF T1 B1 16) := by
    unfold spec_l16Seen.f; exact specSeen_l T1 B1 h1 h2 16 [] (by omega) (by simp)
  have s2 : Ev (fun k => spec_l16Seen.f k (T2 : Int) (B2 : Int)) (seenF T2 B2 16) := by
    unfold spec_l16Seen.f; exact specSeen_l T2 B2 h3 h4 16 [] (by omega) (by simp)
  have l1 := seenF_len T1 B1 16
  have l2 := seenF_len T2 B2 16
  refine eround (fun k => by rw [spec_JoinWindows.j1]) ?_
  refine ebind s1 ?_
  refine ebind s2 ?_
  refine epos (by omega) ?_
  refine enb rfl ?_
  have := specJ_l (max T1 T2) (by omega) (seenF T1 B1 16 ++ seenF T2 B2 16) (fun m hm => by
    rcases List.mem_append.1 hm with h | h
    · have := seenF_le _ _ _ m h; have := seenF_ge _ _ _ m h; omega
    · have := seenF_le _ _ _ m h; have := seenF_ge _ _ _ m h; omega) (by simp; omega) (seenF T1 B1 16 ++ seenF T2 B2 16).length 0 0 (by omega) (by omega)
  rw [List.drop_zero, orL_join] at this
  exact this
theorem specJ_e (T1 B1 T2 B2 : Int) : Ev (fun k => spec_JoinWindows.f k T1 B1 T2 B2) (joinR T1 B1 T2 B2) := by
  unfold spec_JoinWindows.f joinR
  refine ebind (specGW_e T1 B1) ?_
  cases h : goodW T1 B1 with
  | false => exact eneg (by simp) (eround (fun k => by rw [spec_JoinWindows.j0]) (epos rfl (enow (by simp))))
  | true =>
    refine epos rfl (ebind (specGW_e T2 B2) (eround (fun k => by rw [spec_JoinWindows.j0]) ?_))
    cases h2 : goodW T2 B2 with
    | false => exact epos rfl (enow (by simp))
    | true =>
      obtain ⟨t1, b1, rfl, rfl, g1, g2⟩ := goodW_nat h
      obtain ⟨t2, b2, rfl, rfl, g3, g4⟩ := goodW_nat h2
      refine eneg (by simp) ?_
      rw [if_pos ⟨rfl, rfl⟩]
      have := specJ_j1 t1 b1 t2 b2 g1 g2 g3 g4
      by_cases hc : (t2 : Int) > (t1 : Int)
      · refine epos hc ?_
        rw [show max t1 t2 = t2 by omega] at this
        simpa [show max t1 t2 = t2 by omega] using this
      · refine eneg hc ?_
        rw [show max t1 t2 = t1 by omega] at this
        simpa [show max t1 t2 = t1 by omega] using this
theorem shift_eq (b d : Nat) (hb : b ≤ 65535) (hd : d < 16) : Go.bits .and .i64 (shl .i64 (b : Int) (d : Int)) 65535 = (((b <<< d) &&& 65535 : Nat) : Int) := by
  rw [shl_nat b d (by omega) (Nat.lt_of_lt_of_le (show b < 2 ^ 16 by omega) (by decide))]
  have h1 : b <<< d < 2 ^ 62 := by
    rw [Nat.shiftLeft_eq]
    have h2 : 2 ^ d ≤ 2 ^ 16 := Nat.pow_le_pow_right (by decide) (by omega)
    have h3 : b * 2 ^ d ≤ 65535 * 2 ^ 16 := Nat.mul_le_mul hb h2
    have h4 : 65535 * 2 ^ 16 < 2 ^ 62 := by decide
    omega
  exact band (b <<< d) 65535 h1 (by decide)
theorem or_eq (a b : Nat) (ha : a ≤ 65535) (hb : b ≤ 65535) : Go.bits .or .i64 (a : Int) (b : Int) = ((a ||| b : Nat) : Int) :=
  bor a b (Nat.lt_of_lt_of_le (show a < 2 ^ 16 by omega) (by decide)) (Nat.lt_of_lt_of_le (show b < 2 ^ 16 by omega) (by decide))
theorem implJ_e (T1 B1 T2 B2 : Int) : Ev (fun k => impl_JoinWindows.f k T1 B1 T2 B2) (joinR T1 B1 T2 B2) := by
  unfold impl_JoinWindows.f joinR
  refine enb (implGW_eq T1 B1) ?_
  cases h : goodW T1 B1 with
  | false => exact eneg (by simp) (eround (fun k => by rw [impl_JoinWindows.j0]) (epos rfl (enow (by simp))))
  | true =>
    refine epos rfl (enb (implGW_eq T2 B2) (eround (fun k => by rw [impl_JoinWindows.j0]) ?_))
    cases h2 : goodW T2 B2 with
    | false => exact epos rfl (enow (by simp))
    | true =>
      obtain ⟨t1, b1, rfl, rfl, g1, g2⟩ := goodW_nat h
      obtain ⟨t2, b2, rfl, rfl, g3, g4⟩ := goodW_nat h2
      refine eneg (by simp) ?_
      simp only [and_self, if_true, Int.toNat_natCast]
      by_cases hc : (t1 : Int) < (t2 : Int)
      · refine epos hc ?_
        rw [w64 (by omega) (by omega)]
        have hm : max t1 t2 = t2 := by omega
        have e : (t2 : Int) - (t1 : Int) = ((t2 - t1 : Nat) : Int) := by omega
        unfold joinB
        rw [hm, shW_self t2 b2 g4]
        by_cases hd : (t2 : Int) - (t1 : Int) < 16
        · refine epos hd (epos (by omega) (enow ?_))
          rw [e, shift_eq b1 (t2 - t1) g2 (by omega), or_eq b2 _ g4 Nat.and_le_right, Nat.or_comm]
          unfold shW
          rw [if_pos (by omega)]
        · refine eneg hd (enow ?_)
          unfold shW
          rw [if_neg (by omega), Nat.zero_or]
      · refine eneg hc ?_
        rw [w64 (by omega) (by omega)]
        have hm : max t1 t2 = t1 := by omega
        have e : (t1 : Int) - (t2 : Int) = ((t1 - t2 : Nat) : Int) := by omega
        unfold joinB
        rw [hm, shW_self t1 b1 g2]
        by_cases hd : (t1 : Int) - (t2 : Int) < 16
        · refine epos hd (epos (by omega) (enow ?_))
          rw [e, shift_eq b2 (t1 - t2) g4 (by omega), or_eq b1 _ g2 Nat.and_le_right]
          unfold shW
          rw [if_pos (by omega)]
        · refine eneg hd (enow ?_)
          unfold shW
          rw [if_neg (by omega), Nat.or_zero]
theorem FnExactJoinWindows : laws_FnExactJoinWindows.Pure := by
  intro a b c d _ _
  apply Ev.rounds
  unfold laws_FnExactJoinWindows.f
  have e1 := specJ_e a b c d
  have e2 := implJ_e a b c d
  repeat' first
    | exact enow rfl
    | (with_reducible refine enb (laws_toWindow_e _ _) ?_)
    | (with_reducible refine ebind e1 ?_)
    | (with_reducible refine ebind e2 ?_)
    | (with_reducible refine enb (laws_eqWindow_r _ _) ?_)
    | (with_reducible refine enb (laws_toWindow_e _ _) ?_)
    | (with_reducible refine enb rfl ?_)
    | (with_reducible refine epos rfl ?_)
    | (refine eneg ?_ ?_; focus (first | omega | (dsimp only; omega) | (simp; done) | (simp; omega)))

end Go.Proofs.Ytmapmbgjjnlggaa.Pure
