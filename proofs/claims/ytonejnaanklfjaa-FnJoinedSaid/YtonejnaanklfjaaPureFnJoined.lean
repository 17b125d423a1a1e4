/- The law FnJoined, told over numbers and lists. No condition. -/
import Derived.Test.YtonejnaanklfjaaQFnJoinedx8
import Derived.Test.YtonejnaanklfjaaPk
namespace Go.Proofs.Ytonejnaanklfjaa.Pure
open Go.RowKit Go.Proofs.Ytonejnaanklfjaa.QFnJoined Go.Proofs.YtonejnaanklfjaaW.PrintWords Go.Proofs.YtonejnaanklfjaaW.PrintLast Go.Proofs.YtonejnaanklfjaaW.PrintMore Go.Proofs.Ytonejnaanklfjaa
set_option linter.unusedVariables false
set_option linter.unusedSimpArgs false

open Pk

def inR (lo hi x : Int) : Bool := decide (x ≥ lo) && decide (x ≤ hi)
theorem inR_iff {lo hi x : Int} : inR lo hi x = true ↔ lo ≤ x ∧ x ≤ hi := by simp [inR]
theorem l1In_eq (a lo hi : Int) : spec_l1In.f a lo hi = some (inR lo hi a) := by
  unfold spec_l1In.f inR
  by_cases h : a ≥ lo <;> simp [h]
theorem within_eq (a lo hi : Int) : impl_within.f a lo hi = some (inR lo hi a) := by
  unfold impl_within.f inR
  by_cases h : a ≥ lo <;> simp [h]
def goodW (T B : Int) : Bool := inR 0 100000 T && (inR 0 65535 B && (((Go.bits .and .i64 B 1) == 1) == (T != 0) && (decide (T ≥ 16) || (shr .i64 B T == 0))))
noncomputable def allow (i T B : Nat) : Bool := @decide (∀ j, j < 16 → i ≤ j → B.testBit j = true → j < T) (Classical.propDecidable _)
theorem allow_iff {i T B : Nat} : allow i T B = true ↔ ∀ j, j < 16 → i ≤ j → B.testBit j = true → j < T := by unfold allow; exact @decide_eq_true_iff _ (Classical.propDecidable _)
theorem gw_l (T B : Nat) (hT : T ≤ 100000) (hB : B ≤ 65535) : ∀ (d i : Nat), i + d = 16 → Ev (fun k => spec_GoodWindow.l0 k (i : Int) (T : Int) (B : Int)) (allow i T B) := by
  intro d
  induction d with
  | zero =>
    intro i hi
    refine eround (fun k => by rw [spec_GoodWindow.l0]) (eneg (by omega) (enow ?_))
    symm
    rw [allow_iff]
    intro j h1 h2
    omega
  | succ d ih =>
    intro i hi
    refine eround (fun k => by rw [spec_GoodWindow.l0]) (epos (by omega) ?_)
    rw [u64_wrap_small (i : Int) (by omega) (by omega)]
    refine epos (by omega) ?_
    rw [bit_at B i (by omega) (by omega), w64 (x := (i : Int) + 1) (by omega) (by omega), w64 (x := (T : Int) - i) (by omega) (by omega)]
    cases hb : B.testBit i with
    | true =>
      refine epos rfl ?_
      by_cases h : T ≤ i
      · refine epos (by omega) (enow ?_)
        symm
        rw [Bool.eq_false_iff]
        intro hh
        have := allow_iff.1 hh i (by omega) (Nat.le_refl i) hb
        omega
      · refine eneg (by omega) ?_
        rw [show allow i T B = allow (i + 1) T B from by
          rw [Bool.eq_iff_iff, allow_iff, allow_iff]
          constructor
          · exact fun hh j h2 h1 => hh j h2 (by omega)
          · intro hh j h2 h1 h3
            rcases Nat.eq_or_lt_of_le h1 with rfl | h4
            · omega
            · exact hh j h2 h4 h3]
        exact ih (i + 1) (by omega)
    | false =>
      refine eneg (by decide) ?_
      rw [show allow i T B = allow (i + 1) T B from by
        rw [Bool.eq_iff_iff, allow_iff, allow_iff]
        constructor
        · exact fun hh j h2 h1 => hh j h2 (by omega)
        · intro hh j h2 h1 h3
          rcases Nat.eq_or_lt_of_le h1 with rfl | h4
          · rw [hb] at h3; cases h3
          · exact hh j h2 h4 h3]
      exact ih (i + 1) (by omega)
theorem gw_tail (T B : Nat) (hB : B ≤ 65535) : allow 0 T B = (decide ((T : Int) ≥ 16) || (shr .i64 (B : Int) (T : Int) == 0)) := by
  by_cases h : T ≥ 16
  · rw [show decide ((T : Int) ≥ 16) = true from by simp; omega, Bool.true_or]
    rw [allow_iff]
    intro j h2 _ _
    omega
  · rw [show decide ((T : Int) ≥ 16) = false from by simp; omega, Bool.false_or, shr_nat B T (by omega)]
    rw [Bool.eq_iff_iff, allow_iff]
    simp only [beq_iff_eq]
    constructor
    · intro hh
      have : B >>> T = 0 := by
        apply Nat.eq_of_testBit_eq
        intro i
        rw [Nat.testBit_shiftRight, Nat.zero_testBit]
        cases hb : B.testBit (T + i) with
        | false => rfl
        | true =>
          rcases Nat.lt_or_ge (T + i) 16 with h1 | h1
          · have := hh (T + i) h1 (Nat.zero_le _) hb
            omega
          · have h2 : B < 2 ^ (T + i) := Nat.lt_of_lt_of_le (show B < 2 ^ 16 by omega) (Nat.pow_le_pow_right (by decide) h1)
            rw [Nat.testBit_lt_two_pow h2] at hb
            cases hb
      omega
    · intro hh j h2 _ h3
      have hz : B >>> T = 0 := by omega
      rcases Nat.lt_or_ge j T with h1 | h1
      · exact h1
      · have : (B >>> T).testBit (j - T) = true := by
          rw [Nat.testBit_shiftRight, show T + (j - T) = j by omega]
          exact h3
        rw [hz, Nat.zero_testBit] at this
        cases this
theorem specGW_e (T B : Int) : Ev (fun k => spec_GoodWindow.f k T B) (goodW T B) := by
  unfold spec_GoodWindow.f goodW
  refine enb (l1In_eq _ _ _) ?_
  cases h1 : inR 0 100000 T with
  | false => exact eneg (by simp) (eround (fun k => by rw [spec_GoodWindow.j0]) (epos rfl (enow (by simp))))
  | true =>
    refine epos rfl (enb (l1In_eq _ _ _) ?_)
    cases h2 : inR 0 65535 B with
    | false => exact eneg (by simp) (eround (fun k => by rw [spec_GoodWindow.j0]) (epos rfl (enow (by simp))))
    | true =>
      refine epos rfl (eround (fun k => by rw [spec_GoodWindow.j0]) ?_)
      rw [inR_iff] at h1 h2
      have e : (decide (T > 0)) = (T != 0) := by
        rw [Bool.eq_iff_iff]; simp; omega
      rw [e]
      cases h3 : (((Go.bits .and .i64 B 1) == 1) != (T != 0)) with
      | true => exact epos rfl (enow (by simp only [bne, Bool.not_eq_true'] at h3; simp [bne, h3]))
      | false =>
        refine eneg (by simp) ?_
        have h3' : (((Go.bits .and .i64 B 1) == 1) == (T != 0)) = true := by simp only [bne, Bool.not_eq_false'] at h3 ⊢; exact h3
        rw [h3', Bool.true_and, Bool.true_and, Bool.true_and]
        obtain ⟨t, rfl⟩ := Int.eq_ofNat_of_zero_le h1.1
        obtain ⟨b, rfl⟩ := Int.eq_ofNat_of_zero_le h2.1
        rw [← gw_tail t b (by omega)]
        exact gw_l t b (by omega) (by omega) 16 0 rfl
theorem implGW_eq (T B : Int) : impl_GoodWindow.f T B = some (goodW T B) := by
  unfold impl_GoodWindow.f goodW
  rw [within_eq, Option.bind_some]
  cases h1 : inR 0 100000 T with
  | false => simp
  | true =>
    rw [if_pos rfl, within_eq, Option.bind_some]
    cases h2 : inR 0 65535 B with
    | false => simp
    | true =>
      rw [if_pos rfl]
      rw [inR_iff] at h1
      cases h3 : (((Go.bits .and .i64 B 1) == 1) != (T != 0)) with
      | true => simp only [bne, Bool.not_eq_true'] at h3; simp [bne, h3]
      | false =>
        have h3' : (((Go.bits .and .i64 B 1) == 1) == (T != 0)) = true := by simp only [bne, Bool.not_eq_false'] at h3 ⊢; exact h3
        rw [h3', Bool.true_and, Bool.true_and, Bool.true_and, if_neg (by simp)]
        by_cases h : T ≥ 16
        · simp [h]
        · simp [h, h1.1]
def seenF (T B : Nat) : Nat → List Int
  | 0 => []
  | n + 1 => (if B.testBit n then [(T : Int) - n] else []) ++ seenF T B n
theorem seenF_len (T B : Nat) : ∀ n, (seenF T B n).length ≤ n
  | 0 => Nat.le_refl _
  | n + 1 => by
    have := seenF_len T B n
    simp only [seenF, List.length_append]
    split <;> simp <;> omega
theorem specSeen_l (T B : Nat) (hT : T ≤ 100000) (hB : B ≤ 65535) : ∀ (n : Nat) (out : List Int), n ≤ 16 → out.length + n ≤ 16 → Ev (fun k => spec_l16Seen.l0 k out ((n : Int) - 1) (T : Int) (B : Int)) (out ++ seenF T B n) := by
  intro n
  induction n with
  | zero =>
    intro out _ _
    exact eround (fun k => by rw [spec_l16Seen.l0]) (eneg (by omega) (enow (by simp [seenF])))
  | succ n ih =>
    intro out h1 h2
    rw [show ((n + 1 : Nat) : Int) - 1 = (n : Int) by omega]
    refine eround (fun k => by rw [spec_l16Seen.l0]) (epos (by omega) ?_)
    rw [u64_wrap_small (n : Int) (by omega) (by omega)]
    refine epos (by omega) ?_
    rw [bit_at B n (by omega) (by omega), w64 (x := (n : Int) - 1) (by omega) (by omega), w64 (x := (T : Int) - n) (by omega) (by omega)]
    simp only [seenF]
    cases hb : B.testBit n with
    | true =>
      refine epos rfl (epos (by omega) ?_)
      have := ih (out ++ [(T : Int) - n]) (by omega) (by simp; omega)
      rw [List.append_assoc] at this
      simpa using this
    | false =>
      refine eneg (by decide) ?_
      simpa using ih out (by omega) (by omega)
theorem goodW_nat {T B : Int} (h : goodW T B = true) : ∃ t b : Nat, T = t ∧ B = b ∧ t ≤ 100000 ∧ b ≤ 65535 := by
  unfold goodW at h
  simp only [Bool.and_eq_true] at h
  have h1 := inR_iff.1 h.1
  have h2 := inR_iff.1 h.2.1
  exact ⟨T.toNat, B.toNat, by omega, by omega, by omega, by omega⟩
theorem shl_nat (a i : Nat) (hi : i ≤ 16) (ha : a < 2 ^ 40) : shl .i64 (a : Int) (i : Int) = ((a <<< i : Nat) : Int) := by
  unfold shl
  have h1 : min ((i : Int)).toNat IntKind.i64.bits = i := by simp [IntKind.bits]; omega
  rw [h1, Nat.shiftLeft_eq]
  have h2 : 2 ^ i ≤ 2 ^ 16 := Nat.pow_le_pow_right (by decide) hi
  have h3 : a * 2 ^ i < 2 ^ 40 * 2 ^ 16 + 1 := by
    have := Nat.mul_le_mul (Nat.le_of_lt ha) h2
    omega
  have h4 : (2 : Nat) ^ 40 * 2 ^ 16 + 1 < 2 ^ 62 := by decide
  have := wraps_i64 ((a * 2 ^ i : Nat) : Int) (by omega) (by exact_mod_cast Nat.lt_trans h3 h4)
  rw [← this]
  push_cast
  rfl
def shW (U T B : Nat) : Nat := if U - T < 16 then (B <<< (U - T)) &&& 65535 else 0
theorem bit65535 (n : Nat) : Nat.testBit 65535 n = decide (n < 16) := by
  have := Nat.testBit_two_pow_sub_one 16 n
  simpa using this
theorem shW_bit (U T B n : Nat) : (shW U T B).testBit n = (decide (n < 16) && (decide (U - T ≤ n) && B.testBit (n - (U - T)))) := by
  unfold shW
  by_cases h : U - T < 16
  · rw [if_pos h, Nat.testBit_and, Nat.testBit_shiftLeft, bit65535, Bool.and_comm]
  · rw [if_neg h, Nat.zero_testBit]
    by_cases h2 : n < 16
    · have : ¬ U - T ≤ n := by omega
      simp [this]
    · simp [h2]
theorem shW_le (U T B : Nat) : shW U T B ≤ 65535 := by
  unfold shW
  split
  · exact Nat.and_le_right
  · omega
theorem bit_high {B n : Nat} (hB : B ≤ 65535) (hn : 16 ≤ n) : B.testBit n = false :=
  Nat.testBit_lt_two_pow (Nat.lt_of_lt_of_le (show B < 2 ^ 16 by omega) (Nat.pow_le_pow_right (by decide) hn))
theorem shW_self (T B : Nat) (hB : B ≤ 65535) : shW T T B = B := by
  apply Nat.eq_of_testBit_eq
  intro n
  rw [shW_bit, Nat.sub_self, Nat.sub_zero]
  by_cases h : n < 16
  · simp [h]
  · rw [bit_high hB (by omega)]; simp
def joinB (T1 B1 T2 B2 : Nat) : Nat := shW (max T1 T2) T1 B1 ||| shW (max T1 T2) T2 B2
theorem joinB_le (T1 B1 T2 B2 : Nat) : joinB T1 B1 T2 B2 ≤ 65535 := by
  have := Nat.or_lt_two_pow (n := 16) (show shW (max T1 T2) T1 B1 < 2 ^ 16 by have := shW_le (max T1 T2) T1 B1; omega) (show shW (max T1 T2) T2 B2 < 2 ^ 16 by have := shW_le (max T1 T2) T2 B2; omega)
  unfold joinB
  omega
def orL (U : Int) : List Int → Nat → Nat
  | [], acc => acc
  | m :: ms, acc => orL U ms (if U - m < 16 then acc ||| 2 ^ (U - m).toNat else acc)
theorem orL_bit (U : Int) (n : Nat) : ∀ (ms : List Int) (acc : Nat), (∀ m ∈ ms, m ≤ U) → (orL U ms acc).testBit n = (acc.testBit n || (decide (n < 16) && ms.any (fun m => decide (U - m = (n : Int)))))
  | [], acc, _ => by simp [orL]
  | m :: ms, acc, h => by
    have hm := h m (by simp)
    simp only [orL, List.any_cons]
    rw [orL_bit U n ms _ (fun x hx => h x (by simp [hx]))]
    by_cases h1 : U - m < 16
    · rw [if_pos h1, Nat.testBit_or, Nat.testBit_two_pow]
      by_cases h2 : U - m = (n : Int)
      · have : (U - m).toNat = n := by omega
        have h3 : n < 16 := by omega
        simp [h2, h3]
      · have : ¬ (U - m).toNat = n := by omega
        simp [h2, this]
    · rw [if_neg h1]
      by_cases h2 : U - m = (n : Int)
      · have h3 : ¬ n < 16 := by omega
        simp [h3]
      · simp [h2]
theorem seenF_any (T B U n : Nat) (hT : T ≤ U) : ∀ k, (seenF T B k).any (fun m => decide ((U : Int) - m = (n : Int))) = (decide (U - T ≤ n) && (decide (n - (U - T) < k) && B.testBit (n - (U - T))))
  | 0 => by simp [seenF]
  | k + 1 => by
    simp only [seenF, List.any_append]
    rw [seenF_any T B U n hT k]
    by_cases h : n = U - T + k
    · have e : n - (U - T) = k := by omega
      have e2 : (U : Int) - ((T : Int) - (k : Int)) = (n : Int) := by omega
      have e3 : U - T ≤ n := by omega
      rw [e]
      cases hb : B.testBit k <;> simp [e2, e3]
    · have e2 : ¬ (U : Int) - ((T : Int) - (k : Int)) = (n : Int) := by omega
      have f : (if B.testBit k = true then [(T : Int) - (k : Int)] else []).any (fun m => decide ((U : Int) - m = (n : Int))) = false := by
        split
        · simp [e2]
        · rfl
      rw [f, Bool.false_or]
      by_cases h1 : U - T ≤ n
      · have : decide (n - (U - T) < k + 1) = decide (n - (U - T) < k) := by
          apply decide_eq_decide.2; omega
        rw [this]
      · simp [h1]
theorem seenF_le (T B : Nat) : ∀ k, ∀ m ∈ seenF T B k, m ≤ (T : Int)
  | 0, m, h => by simp [seenF] at h
  | k + 1, m, h => by
    simp only [seenF, List.mem_append] at h
    rcases h with h | h
    · split at h
      · simp at h; omega
      · simp at h
    · exact seenF_le T B k m h
theorem orL_join (T1 B1 T2 B2 : Nat) : orL ((max T1 T2 : Nat) : Int) (seenF T1 B1 16 ++ seenF T2 B2 16) 0 = joinB T1 B1 T2 B2 := by
  apply Nat.eq_of_testBit_eq
  intro n
  rw [orL_bit _ n _ _ (fun m hm => by
    rcases List.mem_append.1 hm with h | h
    · have := seenF_le _ _ _ m h; omega
    · have := seenF_le _ _ _ m h; omega)]
  rw [List.any_append, seenF_any T1 B1 (max T1 T2) n (by omega), seenF_any T2 B2 (max T1 T2) n (by omega)]
  unfold joinB
  rw [Nat.testBit_or, shW_bit, shW_bit, Nat.zero_testBit]
  by_cases h : n < 16
  · have h1 : n - (max T1 T2 - T1) < 16 := by omega
    have h2 : n - (max T1 T2 - T2) < 16 := by omega
    simp [h, h1, h2]
  · simp [h]
def joinR (T1 B1 T2 B2 : Int) : Int × Int × Bool := if goodW T1 B1 = true ∧ goodW T2 B2 = true then (((max T1.toNat T2.toNat : Nat) : Int), ((joinB T1.toNat B1.toNat T2.toNat B2.toNat : Nat) : Int), true) else (0, 0, false)
theorem specJ_l (U : Nat) (hU : U ≤ 100000) (ms : List Int) (hm : ∀ m ∈ ms, m ≤ (U : Int) ∧ -100 ≤ m) (hn : ms.length ≤ 1000) : ∀ (d i : Nat) (acc : Nat), i + d = ms.length → acc ≤ 65535 → Ev (fun k => spec_JoinWindows.l0 k ms (ms.length : Int) (i : Int) (U : Int) (acc : Int)) ((U : Int), ((orL U (ms.drop i) acc : Nat) : Int), true) := by
  intro d
  induction d with
  | zero =>
    intro i acc hi ha
    refine eround (fun k => by rw [spec_JoinWindows.l0]) (eneg (by omega) (enow ?_))
    rw [List.drop_eq_nil_of_le (by omega)]; rfl
  | succ d ih =>
    intro i acc hi ha
    have hlt : i < ms.length := by omega
    have hx := hm _ (List.getElem_mem hlt)
    refine eround (fun k => by rw [spec_JoinWindows.l0]) (epos (by omega) (epos (by omega) (epos (by omega) ?_)))
    rw [rd_get ms i hlt, List.drop_eq_getElem_cons hlt, w64 (x := (i : Int) + 1) (by omega) (by omega), w64 (x := (U : Int) - ms[i]) (by omega) (by omega), u64_wrap_small ((U : Int) - ms[i]) (by omega) (by omega)]
    generalize ms[i] = m at hx
    simp only [orL]
    by_cases h : (U : Int) - m < 16
    · refine epos h (epos (by omega) ?_)
      rw [if_pos h]
      have e : (U : Int) - m = (((U : Int) - m).toNat : Int) := by omega
      have h1 := shl_nat 1 ((U : Int) - m).toNat (by omega) (by decide)
      rw [← e] at h1
      rw [show ((1 : Nat) : Int) = 1 from rfl] at h1
      rw [h1, Nat.one_shiftLeft]
      have hp : 2 ^ ((U : Int) - m).toNat < 2 ^ 16 := Nat.pow_lt_pow_right (by decide) (by omega)
      have h2 := bor acc (2 ^ ((U : Int) - m).toNat) (Nat.lt_of_lt_of_le (show acc < 2 ^ 16 by omega) (by decide)) (Nat.lt_of_lt_of_le hp (by decide))
      rw [h2]
      have := Nat.or_lt_two_pow (n := 16) (show acc < 2 ^ 16 by omega) hp
      exact ih (i + 1) _ (by omega) (by omega)
    · refine eneg h ?_
      rw [if_neg h]
      exact ih (i + 1) acc (by omega) ha
theorem seenF_ge (T B : Nat) : ∀ k, ∀ m ∈ seenF T B k, (T : Int) - k < m
  | 0, m, h => by simp [seenF] at h
  | k + 1, m, h => by
    simp only [seenF, List.mem_append] at h
    rcases h with h | h
    · split at h
      · simp at h; omega
      · simp at h
    · have := seenF_ge T B k m h; omega
theorem specJ_j1 (T1 B1 T2 B2 : Nat) (h1 : T1 ≤ 100000) (h2 : B1 ≤ 65535) (h3 : T2 ≤ 100000) (h4 : B2 ≤ 65535) : Ev (fun k => spec_JoinWindows.j1 k (T1 : Int) (B1 : Int) (T2 : Int) (B2 : Int) ((max T1 T2 : Nat) : Int) 0) (((max T1 T2 : Nat) : Int), ((joinB T1 B1 T2 B2 : Nat) : Int), true) := by
  have s1 : Ev (fun k => spec_l16Seen.f k (T1 : Int) (B1 : Int)) (seenF T1 B1 16) := by
    unfold spec_l16Seen.f; exact specSeen_l T1 B1 h1 h2 16 [] (by omega) (by simp)
  have s2 : Ev (fun k => spec_l16Seen.f k (T2 : Int) (B2 : Int)) (seenF T2 B2 16) := by
    unfold spec_l16Seen.f; exact specSeen_l T2 B2 h3 h4 16 [] (by omega) (by simp)
  have l1 := seenF_len T1 B1 16
  have l2 := seenF_len T2 B2 16
  refine eround (fun k => by rw [spec_JoinWindows.j1]) ?_
  refine ebind s1 ?_
  refine ebind s2 ?_
  refine epos (by omega) ?_
  refine enb rfl ?_
  have := specJ_l (max T1 T2) (by omega) (seenF T1 B1 16 ++ seenF T2 B2 16) (fun m hm => by
    rcases List.mem_append.1 hm with h | h
    · have := seenF_le _ _ _ m h; have := seenF_ge _ _ _ m h; omega
    · have := seenF_le _ _ _ m h; have := seenF_ge _ _ _ m h; omega) (by simp; omega) (seenF T1 B1 16 ++ seenF T2 B2 16).length 0 0 (by omega) (by omega)
  rw [List.drop_zero, orL_join] at this
  exact this
theorem specJ_e (T1 B1 T2 B2 : Int) : Ev (fun k => spec_JoinWindows.f k T1 B1 T2 B2) (joinR T1 B1 T2 B2) := by
  unfold spec_JoinWindows.f joinR
  refine ebind (specGW_e T1 B1) ?_
  cases h : goodW T1 B1 with
  | false => exact eneg (by simp) (eround (fun k => by rw [spec_JoinWindows.j0]) (epos rfl (enow (by simp))))
  | true =>
    refine epos rfl (ebind (specGW_e T2 B2) (eround (fun k => by rw [spec_JoinWindows.j0]) ?_))
    cases h2 : goodW T2 B2 with
    | false => exact epos rfl (enow (by simp))
    | true =>
      obtain ⟨t1, b1, rfl, rfl, g1, g2⟩ := goodW_nat h
      obtain ⟨t2, b2, rfl, rfl, g3, g4⟩ := goodW_nat h2
      refine eneg (by simp) ?_
      rw [if_pos ⟨rfl, rfl⟩]
      have := specJ_j1 t1 b1 t2 b2 g1 g2 g3 g4
      by_cases hc : (t2 : Int) > (t1 : Int)
      · refine epos hc ?_
        rw [show max t1 t2 = t2 by omega] at this
        simpa [show max t1 t2 = t2 by omega] using this
      · refine eneg hc ?_
        rw [show max t1 t2 = t1 by omega] at this
        simpa [show max t1 t2 = t1 by omega] using this
theorem shift_eq (b d : Nat) (hb : b ≤ 65535) (hd : d < 16) : Go.bits .and .i64 (shl .i64 (b : Int) (d : Int)) 65535 = (((b <<< d) &&& 65535 : Nat) : Int) := by
  rw [shl_nat b d (by omega) (Nat.lt_of_lt_of_le (show b < 2 ^ 16 by omega) (by decide))]
  have h1 : b <<< d < 2 ^ 62 := by
    rw [Nat.shiftLeft_eq]
    have h2 : 2 ^ d ≤ 2 ^ 16 := Nat.pow_le_pow_right (by decide) (by omega)
    have h3 : b * 2 ^ d ≤ 65535 * 2 ^ 16 := Nat.mul_le_mul hb h2
    have h4 : 65535 * 2 ^ 16 < 2 ^ 62 := by decide
    omega
  exact band (b <<< d) 65535 h1 (by decide)
theorem or_eq (a b : Nat) (ha : a ≤ 65535) (hb : b ≤ 65535) : Go.bits .or .i64 (a : Int) (b : Int) = ((a ||| b : Nat) : Int) :=
  bor a b (Nat.lt_of_lt_of_le (show a < 2 ^ 16 by omega) (by decide)) (Nat.lt_of_lt_of_le (show b < 2 ^ 16 by omega) (by decide))
theorem implJ_e (T1 B1 T2 B2 : Int) : Ev (fun k => impl_JoinWindows.f k T1 B1 T2 B2) (joinR T1 B1 T2 B2) := by
  unfold impl_JoinWindows.f joinR
  refine enb (implGW_eq T1 B1) ?_
  cases h : goodW T1 B1 with
  | false => exact eneg (by simp) (eround (fun k => by rw [impl_JoinWindows.j0]) (epos rfl (enow (by simp))))
  | true =>
    refine epos rfl (enb (implGW_eq T2 B2) (eround (fun k => by rw [impl_JoinWindows.j0]) ?_))
    cases h2 : goodW T2 B2 with
    | false => exact epos rfl (enow (by simp))
    | true =>
      obtain ⟨t1, b1, rfl, rfl, g1, g2⟩ := goodW_nat h
      obtain ⟨t2, b2, rfl, rfl, g3, g4⟩ := goodW_nat h2
      refine eneg (by simp) ?_
      simp only [and_self, if_true, Int.toNat_natCast]
      by_cases hc : (t1 : Int) < (t2 : Int)
      · refine epos hc ?_
        rw [w64 (by omega) (by omega)]
        have hm : max t1 t2 = t2 := by omega
        have e : (t2 : Int) - (t1 : Int) = ((t2 - t1 : Nat) : Int) := by omega
        unfold joinB
        rw [hm, shW_self t2 b2 g4]
        by_cases hd : (t2 : Int) - (t1 : Int) < 16
        · refine epos hd (epos (by omega) (enow ?_))
          rw [e, shift_eq b1 (t2 - t1) g2 (by omega), or_eq b2 _ g4 Nat.and_le_right, Nat.or_comm]
          unfold shW
          rw [if_pos (by omega)]
        · refine eneg hd (enow ?_)
          unfold shW
          rw [if_neg (by omega), Nat.zero_or]
      · refine eneg hc ?_
        rw [w64 (by omega) (by omega)]
        have hm : max t1 t2 = t1 := by omega
        have e : (t1 : Int) - (t2 : Int) = ((t1 - t2 : Nat) : Int) := by omega
        unfold joinB
        rw [hm, shW_self t1 b1 g2]
        by_cases hd : (t1 : Int) - (t2 : Int) < 16
        · refine epos hd (epos (by omega) (enow ?_))
          rw [e, shift_eq b2 (t1 - t2) g4 (by omega), or_eq b1 _ g2 Nat.and_le_right]
          unfold shW
          rw [if_pos (by omega)]
        · refine eneg hd (enow ?_)
          unfold shW
          rw [if_neg (by omega), Nat.or_zero]
def seenR (T B : Int) : List Int × Bool := if goodW T B = true then (seenF T.toNat B.toNat 16, true) else ([], false)
theorem seenR_len (T B : Int) : (seenR T B).1.length ≤ 16 := by
  unfold seenR
  split
  · exact seenF_len _ _ 16
  · simp
theorem implSeen_l (T B : Nat) (hT : T ≤ 100000) (hB : B ≤ 65535) : ∀ (n : Nat) (out : List Int), n ≤ 16 → out.length + n ≤ 16 → Ev (fun k => impl_SeenIn.l0 k out ((n : Int) - 1) (T : Int) (B : Int)) (out ++ seenF T B n, true) := by
  intro n
  induction n with
  | zero =>
    intro out _ _
    exact eround (fun k => by rw [impl_SeenIn.l0]) (eneg (by omega) (enow (by simp [seenF])))
  | succ n ih =>
    intro out h1 h2
    rw [show ((n + 1 : Nat) : Int) - 1 = (n : Int) by omega]
    refine eround (fun k => by rw [impl_SeenIn.l0]) (epos (by omega) (epos (by omega) ?_))
    rw [bit_at B n (by omega) (by omega), w64 (x := (n : Int) - 1) (by omega) (by omega), w64 (x := (T : Int) - n) (by omega) (by omega)]
    simp only [seenF]
    cases hb : B.testBit n with
    | true =>
      refine epos rfl (epos (by omega) ?_)
      have := ih (out ++ [(T : Int) - n]) (by omega) (by simp; omega)
      rw [List.append_assoc] at this
      simpa using this
    | false =>
      refine eneg (by decide) ?_
      simpa using ih out (by omega) (by omega)
theorem specSeenR_e (T B : Int) : Ev (fun k => spec_SeenIn.f k T B) (seenR T B) := by
  unfold spec_SeenIn.f seenR
  refine ebind (specGW_e T B) ?_
  cases h : goodW T B with
  | false => exact eneg (by simp) (enow rfl)
  | true =>
    obtain ⟨t, b, rfl, rfl, h1, h2⟩ := goodW_nat h
    refine epos rfl (ebind (a := seenF t b 16) ?_ (enow (by simp)))
    unfold spec_l16Seen.f
    exact specSeen_l t b h1 h2 16 [] (by omega) (by simp)
theorem implSeenR_e (T B : Int) : Ev (fun k => impl_SeenIn.f k T B) (seenR T B) := by
  unfold impl_SeenIn.f seenR
  refine enb (implGW_eq T B) ?_
  cases h : goodW T B with
  | false => exact eneg (by simp) (enow rfl)
  | true =>
    obtain ⟨t, b, rfl, rfl, h1, h2⟩ := goodW_nat h
    refine epos rfl ?_
    rw [if_pos rfl]
    exact implSeen_l t b h1 h2 16 [] (by omega) (by simp)
def lowR (a b : Int) : Int × Bool := if goodW a b = true then (if a < 16 then 1 else a - 15, true) else (0, false)
theorem low_mx (a : Int) (h1 : 0 ≤ a ∧ a ≤ 100000) : mx 1 (wrap64 ((wrap64 (a - 16)) + 1)) = if a < 16 then 1 else a - 15 := by
  rw [w64 (x := a - 16) (by omega) (by omega), w64 (by omega) (by omega)]
  unfold mx
  split <;> split <;> omega
theorem goodW_range {a b : Int} (h : goodW a b = true) : 0 ≤ a ∧ a ≤ 100000 := by
  unfold goodW at h
  simp only [Bool.and_eq_true] at h
  exact inR_iff.1 h.1
theorem specLow_e (a b : Int) : Ev (fun k => spec_LowestOf.f k a b) (lowR a b) := by
  unfold spec_LowestOf.f lowR
  refine ebind (specGW_e a b) ?_
  cases h : goodW a b with
  | false => exact eneg (by simp) (enow (by simp))
  | true =>
    have h1 := goodW_range h
    refine epos rfl ?_
    by_cases h2 : a < 16
    · exact epos h2 (enow (by simp [h2]))
    · exact eneg h2 (enow (by rw [w64 (x := a - 16) (by omega) (by omega), w64 (by omega) (by omega)]; simp [h2]; omega))
theorem implLow_eq (a b : Int) : impl_LowestOf.f a b = some (lowR a b) := by
  unfold impl_LowestOf.f lowR
  rw [implGW_eq, Option.bind_some]
  cases h : goodW a b with
  | false => simp
  | true => rw [low_mx a (goodW_range h)]; simp
/-! the cursor of what is drawn -/
def bytes (s : List Int) : Prop := ∀ x ∈ s, 0 ≤ x ∧ x ≤ 255
theorem bytes_of {s : List Int} (h : ∀ x ∈ s, (Lit.int .u8 x).wf = true) : bytes s := by
  intro x hx
  have := h x hx
  simp [Lit.wf, IntKind.min, IntKind.max, IntKind.bits, IntKind.signed] at this
  omega
theorem u64_range (y : Int) : 0 ≤ IntKind.u64.wrap y ∧ IntKind.u64.wrap y < 18446744073709551616 := by
  simp only [IntKind.wrap, IntKind.bits, IntKind.signed]
  constructor
  · simp; omega
  · simp; omega
theorem wraps_u64 (n : Int) (h0 : 0 ≤ n) (h1 : n < 2 ^ 62) : IntKind.u64.wrap n = n := by
  have : (2 : Int) ^ 62 = 4611686018427387904 := by decide
  exact u64_wrap_small n h0 (by omega)
theorem and255 (x : Int) (h0 : 0 ≤ x) (h1 : x < 4611686018427387904) : 0 ≤ Go.bits .and .u64 x 255 ∧ Go.bits .and .u64 x 255 ≤ 255 := by
  obtain ⟨a, rfl⟩ := Int.eq_ofNat_of_zero_le h0
  have ha : a < 2 ^ 62 := by have : (2 : Nat) ^ 62 = 4611686018427387904 := by decide
                             omega
  have := (bits_nat .u64 62 (by decide) wraps_u64 a 255 ha (by decide)).1
  rw [show ((255 : Nat) : Int) = 255 from rfl] at this
  rw [this]
  have : a &&& 255 ≤ 255 := Nat.and_le_right
  omega
theorem and_u64 (y : Int) : 0 ≤ wrap64 (Go.bits .and .u64 (IntKind.u64.wrap y / 1099511627776) 255) ∧ wrap64 (Go.bits .and .u64 (IntKind.u64.wrap y / 1099511627776) 255) ≤ 255 := by
  have r := u64_range y
  have := and255 (IntKind.u64.wrap y / 1099511627776) (by omega) (by omega)
  rw [w64 (by omega) (by omega)]
  exact this
theorem bytes_rd {s : List Int} (hb : bytes s) (p : Int) (h0 : 0 ≤ p) (h1 : p < s.length) : 0 ≤ rd s p ∧ rd s p ≤ 255 := by
  obtain ⟨i, rfl⟩ := Int.eq_ofNat_of_zero_le h0
  rw [rd_get s i (by omega)]
  exact hb _ (List.getElem_mem _)
theorem next_e (s : List Int) (hb : bytes s) (p x : Int) (h0 : 0 ≤ p) (h1 : p ≤ 1152921504606846976) : ∃ v x', spec_l1Cur_next.f s p x = some (v, p + 1, x') ∧ 0 ≤ v ∧ v ≤ 255 := by
  unfold spec_l1Cur_next.f
  rw [w64 (x := p + 1) (by omega) (by omega)]
  by_cases h : p < (s.length : Int)
  · have := bytes_rd hb p h0 h
    rw [w64 (x := rd s p) (by omega) (by omega), if_pos h, if_pos h0, if_pos (by omega)]
    exact ⟨_, _, rfl, this⟩
  · rw [if_neg h, if_neg (by omega)]
    exact ⟨_, _, rfl, and_u64 _⟩
theorem tmod_range (v n : Int) (h0 : 0 ≤ v) (h : 1 < n) : 0 ≤ Int.tmod v n ∧ Int.tmod v n < n := by
  rw [Int.tmod_eq_emod_of_nonneg h0]
  exact ⟨Int.emod_nonneg _ (by omega), Int.emod_lt_of_pos _ (by omega)⟩
theorem pick_e (s : List Int) (hb : bytes s) (p x n : Int) (h0 : 0 ≤ p) (h1 : p ≤ 1152921504606846900) : ∃ r p' x', spec_l1Cur_pick.f s p x n = some (r, p', x') ∧ (0 ≤ r ∧ (n ≤ 1 → r = 0) ∧ (1 < n → r < n)) ∧ p ≤ p' ∧ p' ≤ p + 2 := by
  unfold spec_l1Cur_pick.f
  by_cases hn : n ≤ 1
  · exact ⟨0, p, x, by rw [if_pos hn], ⟨by omega, fun _ => rfl, fun h => by omega⟩, by omega, by omega⟩
  · rw [if_neg hn]
    obtain ⟨v, x', e, v0, v1⟩ := next_e s hb p x h0 (by omega)
    rw [e, Option.bind_some]
    by_cases h2 : n > 200
    · obtain ⟨u, x'', e', u0, u1⟩ := next_e s hb (p + 1) x' (by omega) (by omega)
      rw [if_pos h2]
      simp only [e', Option.bind_some]
      rw [if_neg (by omega), w64 (x := v * 256) (by omega) (by omega), w64 (by omega) (by omega)]
      have := tmod_range (v * 256 + u) n (by omega) (by omega)
      exact ⟨_, _, _, rfl, ⟨this.1, fun h => by omega, fun _ => this.2⟩, by omega, by omega⟩
    · rw [if_neg h2, if_neg (by omega)]
      have := tmod_range v n v0 (by omega)
      exact ⟨_, p + 1, x', rfl, ⟨this.1, fun h => by omega, fun _ => this.2⟩, by omega, by omega⟩
theorem one_e (s : List Int) (hb : bytes s) (p x n : Int) (h0 : 0 ≤ p) (h1 : p ≤ 1152921504606846900) : ∃ b p' x', spec_l1Cur_one.f s p x n = some (b, p', x') ∧ p ≤ p' ∧ p' ≤ p + 2 := by
  obtain ⟨r, p', x', e, _, h2, h3⟩ := pick_e s hb p x n h0 h1
  exact ⟨r == 0, p', x', by unfold spec_l1Cur_one.f; simp only [e, Option.bind_some], h2, h3⟩
theorem among_e (s : List Int) (hb : bytes s) (p x : Int) (l : List Int) (hl : 1 ≤ l.length) (h0 : 0 ≤ p) (h1 : p ≤ 1152921504606846900) : ∃ v p' x', spec_l1Cur_among.f s p x l = some (v, p', x') ∧ v ∈ l ∧ p ≤ p' ∧ p' ≤ p + 2 := by
  obtain ⟨r, p', x', e, ⟨r0, r1, r2⟩, h2, h3⟩ := pick_e s hb p x (l.length : Int) h0 h1
  have hr : r < (l.length : Int) := by
    by_cases h : 1 < (l.length : Int)
    · exact r2 h
    · have := r1 (by omega); omega
  refine ⟨rd l r, p', x', ?_, ?_, h2, h3⟩
  · unfold spec_l1Cur_among.f
    simp only [e, Option.bind_some]
    rw [if_pos r0, if_pos hr]
  · obtain ⟨i, rfl⟩ := Int.eq_ofNat_of_zero_le r0
    rw [rd_get l i (by omega)]
    exact List.getElem_mem _
theorem l1All_l (xs : List Int) (lo up : Int) (hn : xs.length ≤ 9223372036854775807) : ∀ (d i : Nat), i + d = xs.length → Ev (fun k => spec_l1All.l0 k lo up xs (xs.length : Int) (i : Int)) ((xs.drop i).all (inR lo up)) := by
  intro d
  induction d with
  | zero =>
    intro i hi
    refine eround (fun k => by rw [spec_l1All.l0]) ?_
    refine eneg (by omega) (enow ?_)
    rw [List.drop_eq_nil_of_le (by omega)]; rfl
  | succ d ih =>
    intro i hi
    have hlt : i < xs.length := by omega
    refine eround (fun k => by rw [spec_l1All.l0]) ?_
    refine epos (by omega) (epos (by omega) (epos (by omega) ?_))
    rw [rd_get xs i hlt, List.drop_eq_getElem_cons hlt, List.all_cons]
    refine enb (l1In_eq _ _ _) ?_
    cases h : inR lo up xs[i] with
    | true =>
      refine epos rfl ?_
      rw [w64 (by omega) (by omega)]
      simpa using ih (i + 1) (by omega)
    | false => exact eneg (by simp) (enow (by simp))
theorem l1All_e (xs : List Int) (lo up : Int) (hn : xs.length ≤ 9223372036854775807) : Ev (fun k => spec_l1All.f k xs lo up) (xs.all (inR lo up)) :=
  l1All_l xs lo up hn xs.length 0 (by omega)
theorem nums_j3 (s : List Int) (hb : bytes s) (out : List Int) (p x : Int) (ho : out.length ≤ 1000) (h0 : 0 ≤ p) (h1 : p ≤ 1152921504606840000) : ∃ l p' x', Ev (fun k => spec_l1Cur_numbers.j3 k out s p x) (l, p', x') ∧ l.length = out.length ∧ p ≤ p' ∧ p' ≤ p + 4 := by
  by_cases hl : (out.length : Int) > 0
  · obtain ⟨b, p1, x1, e, g1, g2⟩ := one_e s hb p x 20 h0 (by omega)
    cases b with
    | false =>
      refine ⟨out, p1, x1, ?_, rfl, by omega, by omega⟩
      refine eround (fun k => by rw [spec_l1Cur_numbers.j3]) (epos hl ?_)
      refine enb e ?_
      exact eneg (by simp) (enow rfl)
    | true =>
      obtain ⟨v, p2, x2, e2, m2, g3, g4⟩ := among_e s hb p1 x1 [0, 100000, 100001] (by simp) (by omega) (by omega)
      refine ⟨out.set ((out.length : Int) - 1).toNat v, p2, x2, ?_, List.length_set .., by omega, by omega⟩
      refine eround (fun k => by rw [spec_l1Cur_numbers.j3]) (epos hl ?_)
      refine enb e ?_
      refine epos rfl ?_
      refine enb e2 ?_
      rw [w64 (by omega) (by omega)]
      exact epos (by omega) (epos (by omega) (enow rfl))
  · exact ⟨out, p, x, eround (fun k => by rw [spec_l1Cur_numbers.j3]) (eneg hl (enow rfl)), rfl, by omega, by omega⟩
theorem nums_l (s : List Int) (hb : bytes s) : ∀ (d : Nat) (out : List Int) (t p x : Int), out.length + 2 * d ≤ 900 → 0 ≤ p → p + 10 * d ≤ 1152921504606800000 → ∃ l p' x', Ev (fun k => spec_l1Cur_numbers.l0 k out t (d : Int) s p x) (l, p', x') ∧ l.length ≤ 61 ∧ p ≤ p' ∧ p' ≤ p + 10 * d + 12 := by
  intro d
  induction d with
  | zero =>
    intro out t p x hl h0 h1
    by_cases ho : (out.length : Int) > 60
    · obtain ⟨v, p1, x1, e, ⟨v0, _, v1⟩, g1, g2⟩ := pick_e s hb p x 9 h0 (by omega)
      have hv := v1 (by omega)
      have ht : 0 ≤ Int.tdiv v 8 ∧ Int.tdiv v 8 ≤ 1 := by
        rw [Int.tdiv_eq_ediv_of_nonneg v0]; omega
      obtain ⟨l, p2, x2, E, hl2, g3, g4⟩ := nums_j3 s hb (out.take (60 + Int.tdiv v 8).toNat) p1 x1 (by simp; omega) (by omega) (by omega)
      rw [List.length_take] at hl2
      refine ⟨l, p2, x2, ?_, by omega, by omega, by omega⟩
      refine eround (fun k => by rw [spec_l1Cur_numbers.l0]) (eneg (by omega) (epos ho ?_))
      refine enb e ?_
      rw [w64 (x := Int.tdiv v 8) (by omega) (by omega), w64 (x := 60 + Int.tdiv v 8) (by omega) (by omega)]
      exact epos (by omega) (epos (by omega) E)
    · obtain ⟨l, p2, x2, E, hl2, g3, g4⟩ := nums_j3 s hb out p x (by omega) h0 (by omega)
      exact ⟨l, p2, x2, eround (fun k => by rw [spec_l1Cur_numbers.l0]) (eneg (by omega) (eneg ho E)), by omega, by omega, by omega⟩
  | succ d ih =>
    intro out t p x hl h0 h1
    have J : ∀ (o : List Int) (u q y : Int), o.length ≤ out.length + 1 → p ≤ q → q ≤ p + 6 → ∃ l p' x', Ev (fun k => spec_l1Cur_numbers.j2 k o u ((d + 1 : Nat) : Int) s q y) (l, p', x') ∧ l.length ≤ 61 ∧ p ≤ p' ∧ p' ≤ p + 10 * ((d + 1 : Nat) : Int) + 12 := by
      intro o u q y ho hq hq'
      have e1 : wrap64 (((d + 1 : Nat) : Int) - 1) = (d : Int) := by rw [w64 (by omega) (by omega)]; omega
      by_cases h2 : (o.length : Int) > 1
      · obtain ⟨b, p1, x1, e, g1, g2⟩ := one_e s hb q y 4 (by omega) (by push_cast at h1; omega)
        cases b with
        | true =>
          obtain ⟨v, p2, x2, e2, ⟨v0, _, v1⟩, g3, g4⟩ := pick_e s hb p1 x1 (o.length : Int) (by omega) (by push_cast at h1; omega)
          have hv := v1 (by omega)
          obtain ⟨l, p3, x3, E, hl3, g5, g6⟩ := ih (o ++ [rd o v]) u p2 x2 (by simp; omega) (by omega) (by push_cast at h1; omega)
          refine ⟨l, p3, x3, ?_, hl3, by omega, by push_cast; omega⟩
          refine eround (fun k => by rw [spec_l1Cur_numbers.j2]) (epos h2 ?_)
          refine enb e ?_
          refine epos rfl ?_
          refine enb e2 ?_
          refine epos v0 (epos hv (epos (by omega) ?_))
          rw [e1]
          exact E
        | false =>
          obtain ⟨l, p3, x3, E, hl3, g5, g6⟩ := ih o u p1 x1 (by omega) (by omega) (by push_cast at h1; omega)
          refine ⟨l, p3, x3, ?_, hl3, by omega, by push_cast; omega⟩
          refine eround (fun k => by rw [spec_l1Cur_numbers.j2]) (epos h2 ?_)
          refine enb e ?_
          refine eneg (by simp) ?_
          rw [e1]
          exact E
      · obtain ⟨l, p3, x3, E, hl3, g5, g6⟩ := ih o u q y (by omega) (by omega) (by push_cast at h1; omega)
        refine ⟨l, p3, x3, ?_, hl3, by omega, by push_cast; omega⟩
        refine eround (fun k => by rw [spec_l1Cur_numbers.j2]) (eneg h2 ?_)
        rw [e1]
        exact E
    obtain ⟨v, p1, x1, e, ⟨v0, _, v1⟩, g1, g2⟩ := pick_e s hb p x 5 h0 (by push_cast at h1; omega)
    by_cases c0 : v = 0
    · obtain ⟨u, p2, x2, e2, _, g3, g4⟩ := pick_e s hb p1 x1 20 (by omega) (by push_cast at h1; omega)
      obtain ⟨l, p3, x3, E, r⟩ := J (out ++ [wrap64 (t + u)]) (wrap64 (t + u)) p2 x2 (by simp) (by omega) (by omega)
      refine ⟨l, p3, x3, ?_, r⟩
      refine eround (fun k => by rw [spec_l1Cur_numbers.l0]) (epos (by omega) ?_)
      refine enb e ?_
      refine epos c0 ?_
      refine enb e2 ?_
      exact epos (by omega) E
    · by_cases c1 : v = 1
      · obtain ⟨u, p2, x2, e2, _, g3, g4⟩ := pick_e s hb p1 x1 t (by omega) (by push_cast at h1; omega)
        obtain ⟨l, p3, x3, E, r⟩ := J (out ++ [wrap64 (1 + u)]) t p2 x2 (by simp) (by omega) (by omega)
        refine ⟨l, p3, x3, ?_, r⟩
        refine eround (fun k => by rw [spec_l1Cur_numbers.l0]) (epos (by omega) ?_)
        refine enb e ?_
        refine eneg c0 (epos c1 ?_)
        refine enb e2 ?_
        exact epos (by omega) E
      · obtain ⟨l, p3, x3, E, r⟩ := J (out ++ [wrap64 (t + 1)]) (wrap64 (t + 1)) p1 x1 (by simp) (by omega) (by omega)
        refine ⟨l, p3, x3, ?_, r⟩
        refine eround (fun k => by rw [spec_l1Cur_numbers.l0]) (epos (by omega) ?_)
        refine enb e ?_
        exact eneg c0 (eneg c1 (epos (by omega) E))
theorem nums_e (s : List Int) (hb : bytes s) (p x : Int) (h0 : 0 ≤ p) (h1 : p ≤ 1152921504606000000) : ∃ l p' x', Ev (fun k => spec_l1Cur_numbers.f k s p x) (l, p', x') ∧ l.length ≤ 61 ∧ p ≤ p' ∧ p' ≤ p + 1000 := by
  obtain ⟨t, p1, x1, e1, _, g1, g2⟩ := pick_e s hb p x 5 h0 (by omega)
  obtain ⟨n, p2, x2, e2, ⟨n0, _, n1⟩, g3, g4⟩ := pick_e s hb p1 x1 24 (by omega) (by omega)
  obtain ⟨b, p3, x3, e3, g5, g6⟩ := one_e s hb p2 x2 20 (by omega) (by omega)
  cases b with
  | true =>
    obtain ⟨m, p4, x4, e4, ⟨m0, _, m1⟩, g7, g8⟩ := pick_e s hb p3 x3 2 (by omega) (by omega)
    obtain ⟨l, p5, x5, E, hl, g9, g10⟩ := nums_l s hb (60 + m).toNat [] (wrap64 (1 + t)) p4 x4 (by simp; omega) (by omega) (by omega)
    refine ⟨l, p5, x5, ?_, hl, by omega, by omega⟩
    unfold spec_l1Cur_numbers.f
    refine enb e1 ?_
    refine enb e2 ?_
    refine enb e3 ?_
    refine epos rfl ?_
    refine enb e4 ?_
    refine eround (fun k => by rw [spec_l1Cur_numbers.j0]) ?_
    rw [w64 (x := 60 + m) (by omega) (by omega), show 60 + m = (((60 + m).toNat : Nat) : Int) by omega]
    exact E
  | false =>
    obtain ⟨l, p5, x5, E, hl, g9, g10⟩ := nums_l s hb n.toNat [] (wrap64 (1 + t)) p3 x3 (by simp; omega) (by omega) (by omega)
    refine ⟨l, p5, x5, ?_, hl, by omega, by omega⟩
    unfold spec_l1Cur_numbers.f
    refine enb e1 ?_
    refine enb e2 ?_
    refine enb e3 ?_
    refine eneg (by simp) ?_
    refine eround (fun k => by rw [spec_l1Cur_numbers.j0]) ?_
    rw [show ((n.toNat : Nat) : Int) = n by omega] at E
    exact E
theorem take_j0 (a b : Int) (c : Bool) (T B : Int) : ∃ r, Ev (fun k => spec_l16Take.j0 k a b c T B) r := by
  have u := fun x : Int => (u64_range x).1
  cases c with
  | true => exact ⟨_, eround (fun k => by rw [spec_l16Take.j0]) (epos rfl (enow rfl))⟩
  | false =>
    by_cases h : b ≥ 0
    · exact ⟨_, eround (fun k => by rw [spec_l16Take.j0]) (eneg (by simp) (epos h (epos (u _) (enow rfl))))⟩
    · by_cases h2 : (wrap64 (-b)) ≥ 16
      · exact ⟨_, eround (fun k => by rw [spec_l16Take.j0]) (eneg (by simp) (eneg h (epos h2 (enow rfl))))⟩
      · exact ⟨_, eround (fun k => by rw [spec_l16Take.j0]) (eneg (by simp) (eneg h (eneg h2 (epos (u _) (enow rfl)))))⟩
theorem take_e (T B n : Int) : ∃ r, Ev (fun k => spec_l16Take.f k T B n) r := by
  unfold spec_l16Take.f
  by_cases h : (wrap64 (T - n)) ≥ 16
  · exact ⟨_, epos h (enow rfl)⟩
  · by_cases h2 : (wrap64 (T - n)) ≥ 0
    · obtain ⟨r, e⟩ := take_j0 n (wrap64 (T - n)) ((Go.bits .and .i64 (shr .i64 B (IntKind.u64.wrap (wrap64 (T - n)))) 1) == 1) T B
      exact ⟨r, eneg h (epos h2 (epos (u64_range _).1 e))⟩
    · obtain ⟨r, e⟩ := take_j0 n (wrap64 (T - n)) false T B
      exact ⟨r, eneg h (eneg h2 e)⟩
theorem playN_l (xs : List Int) (hn : xs.length ≤ 1048576) : ∀ (d i : Nat) (out : List Int) (T B : Int), i + d = xs.length → out.length ≤ i → ∃ r, Ev (fun k => spec_PlayNumbers.l0 k out xs (xs.length : Int) (i : Int) T B) r := by
  intro d
  induction d with
  | zero =>
    intro i out T B hi ho
    exact ⟨_, eround (fun k => by rw [spec_PlayNumbers.l0]) (eneg (by omega) (enow rfl))⟩
  | succ d ih =>
    intro i out T B hi ho
    have hlt : i < xs.length := by omega
    obtain ⟨⟨t, b, a⟩, e⟩ := take_e T B (rd xs (i : Int))
    obtain ⟨r, E⟩ := ih (i + 1) (out ++ [a]) t b (by omega) (by simp; omega)
    refine ⟨r, ?_⟩
    refine eround (fun k => by rw [spec_PlayNumbers.l0]) (epos (by omega) (epos (by omega) (epos (by omega) ?_)))
    refine ebind e ?_
    refine epos (by omega) ?_
    rw [w64 (by omega) (by omega)]
    exact E
theorem playN_e (xs : List Int) (hn : xs.length ≤ 1048576) : ∃ r, Ev (fun k => spec_PlayNumbers.f k xs) r := by
  obtain ⟨r, E⟩ := playN_l xs hn xs.length 0 [] 0 0 (by omega) (by simp)
  unfold spec_PlayNumbers.f
  by_cases h : (xs.length : Int) ≤ 60
  · have e : Ev (fun k => spec_l16Numbers.f k xs) (xs.all (inR 1 100000)) := by
      unfold spec_l16Numbers.f
      exact epos h (ebind (l1All_e xs 1 100000 (by omega)) (enow rfl))
    cases hh : xs.all (inR 1 100000) with
    | true => exact ⟨r, ebind (hh ▸ e) (epos rfl E)⟩
    | false => exact ⟨_, ebind (hh ▸ e) (eneg (by simp) (enow rfl))⟩
  · have e : Ev (fun k => spec_l16Numbers.f k xs) false := by
      unfold spec_l16Numbers.f
      exact eneg h (enow rfl)
    exact ⟨_, ebind e (eneg (by simp) (enow rfl))⟩
theorem window_e (s : List Int) (hb : bytes s) (p x : Int) (h0 : 0 ≤ p) (h1 : p ≤ 1152921504605000000) : ∃ T B p' x', Ev (fun k => spec_l1Cur_window.f k s p x) (T, B, p', x') ∧ p ≤ p' ∧ p' ≤ p + 2000 := by
  obtain ⟨l, p1, x1, e1, hl, g1, g2⟩ := nums_e s hb p x h0 (by omega)
  obtain ⟨⟨as_, T, B, ok⟩, e2⟩ := playN_e l (by omega)
  obtain ⟨n, p2, x2, e3, _, g3, g4⟩ := pick_e s hb p1 x1 20 (by omega) (by omega)
  by_cases c0 : n = 0
  · obtain ⟨v, p3, x3, e4, _, g5, g6⟩ := among_e s hb p2 x2 [(-1), 0, 1, 65535, 65536] (by simp) (by omega) (by omega)
    refine ⟨T, v, p3, x3, ?_, by omega, by omega⟩
    unfold spec_l1Cur_window.f
    refine ebind e1 ?_
    refine ebind e2 ?_
    refine enb e3 ?_
    refine epos c0 ?_
    refine enb e4 ?_
    exact enow rfl
  · by_cases c1 : n = 1
    · obtain ⟨v, p3, x3, e4, _, g5, g6⟩ := among_e s hb p2 x2 [(-1), 0, 3, 100000, 100001] (by simp) (by omega) (by omega)
      refine ⟨v, B, p3, x3, ?_, by omega, by omega⟩
      unfold spec_l1Cur_window.f
      refine ebind e1 ?_
      refine ebind e2 ?_
      refine enb e3 ?_
      refine eneg c0 (epos c1 ?_)
      refine enb e4 ?_
      exact enow rfl
    · refine ⟨T, B, p2, x2, ?_, by omega, by omega⟩
      unfold spec_l1Cur_window.f
      refine ebind e1 ?_
      refine ebind e2 ?_
      refine enb e3 ?_
      exact eneg c0 (eneg c1 (enow rfl))
theorem has_l (xs : List Int) (a : Int) (hn : xs.length ≤ 9223372036854775807) : ∀ (d i : Nat), i + d = xs.length → Ev (fun k => laws_has.l0 k a xs (xs.length : Int) (i : Int)) (decide (a ∈ xs.drop i)) := by
  intro d
  induction d with
  | zero =>
    intro i hi
    refine eround (fun k => by rw [laws_has.l0]) (eneg (by omega) (enow ?_))
    rw [List.drop_eq_nil_of_le (by omega)]; simp
  | succ d ih =>
    intro i hi
    have hlt : i < xs.length := by omega
    refine eround (fun k => by rw [laws_has.l0]) (epos (by omega) (epos (by omega) (epos (by omega) ?_)))
    rw [rd_get xs i hlt, List.drop_eq_getElem_cons hlt]
    by_cases e : xs[i] = a
    · exact epos e (enow (by symm; rw [decide_eq_true_eq, e]; exact List.mem_cons_self))
    · refine eneg e ?_
      rw [w64 (by omega) (by omega)]
      have : decide (a ∈ xs[i] :: List.drop (i + 1) xs) = decide (a ∈ List.drop (i + 1) xs) := by
        apply decide_eq_decide.2
        rw [List.mem_cons]
        exact ⟨fun h => h.resolve_left (fun z => e z.symm), Or.inr⟩
      rw [this]
      exact ih (i + 1) (by omega)
theorem has_e (xs : List Int) (a : Int) (hn : xs.length ≤ 9223372036854775807) : Ev (fun k => laws_has.f k xs a) (decide (a ∈ xs)) := has_l xs a hn xs.length 0 (by omega)
theorem sameI_l (xs ys : List Int) (hl : xs.length = ys.length) (hn : xs.length ≤ 9223372036854775807) : ∀ (d i : Nat), i + d = xs.length → Ev (fun k => laws_sameInts.l0 k xs ys (xs.length : Int) (i : Int)) (decide (xs.drop i = ys.drop i)) := by
  intro d
  induction d with
  | zero =>
    intro i hi
    refine eround (fun k => by rw [laws_sameInts.l0]) (eneg (by omega) (enow ?_))
    rw [List.drop_eq_nil_of_le (show xs.length ≤ i by omega), List.drop_eq_nil_of_le (show ys.length ≤ i by omega)]; rfl
  | succ d ih =>
    intro i hi
    have hlt : i < xs.length := by omega
    have hlt' : i < ys.length := by omega
    refine eround (fun k => by rw [laws_sameInts.l0]) (epos (by omega) (epos (by omega) (epos (by omega) (epos (by omega) ?_))))
    rw [rd_get xs i hlt, rd_get ys i hlt', List.drop_eq_getElem_cons hlt, List.drop_eq_getElem_cons hlt']
    by_cases h : xs[i] = ys[i]
    · refine epos h ?_
      rw [w64 (by omega) (by omega)]
      simp only [h, List.cons.injEq, true_and]
      exact ih (i + 1) (by omega)
    · exact eneg h (enow (by simp only [List.cons.injEq, h, false_and, decide_false]))
theorem sameI_e (xs ys : List Int) (hn : xs.length ≤ 9223372036854775807) : Ev (fun k => laws_sameInts.f k xs ys) (decide (xs = ys)) := by
  unfold laws_sameInts.f
  by_cases hl : xs.length = ys.length
  · exact epos (by omega) (sameI_l xs ys hl hn xs.length 0 (by omega))
  · refine eneg (by omega) (enow ?_)
    have : xs ≠ ys := fun h => hl (by rw [h])
    simp [this]
theorem bit0 (B : Nat) (hB : B ≤ 65535) : (Go.bits .and .i64 (B : Int) 1 == 1) = B.testBit 0 := by
  have h := bit_at B 0 (Nat.lt_of_lt_of_le (show B < 2 ^ 16 by omega) (by decide)) (by omega)
  have h0 : shr .i64 (B : Int) ((0 : Nat) : Int) = (B : Int) := by rw [shr_nat B 0 (by omega)]; rfl
  rw [h0] at h
  rw [h]
  cases B.testBit 0 <;> rfl
theorem goodW_iff (T B : Nat) : goodW (T : Int) (B : Int) = true ↔ (T ≤ 100000 ∧ B ≤ 65535 ∧ (B.testBit 0 = true ↔ T ≠ 0) ∧ ∀ j, j < 16 → B.testBit j = true → j < T) := by
  unfold goodW
  by_cases hT : T ≤ 100000
  · by_cases hB : B ≤ 65535
    · rw [bit0 B hB, ← gw_tail T B hB]
      have h1 : inR 0 100000 (T : Int) = true := by rw [inR_iff]; omega
      have h2 : inR 0 65535 (B : Int) = true := by rw [inR_iff]; omega
      rw [h1, h2, Bool.true_and, Bool.true_and, Bool.and_eq_true, allow_iff]
      have h3 : (B.testBit 0 == ((T : Int) != 0)) = true ↔ (B.testBit 0 = true ↔ T ≠ 0) := by
        have : ((T : Int) != 0) = decide (T ≠ 0) := by
          rw [Bool.eq_iff_iff]; simp
        rw [this, beq_iff_eq]
        constructor
        · intro h; rw [h]; simp
        · intro h; rw [Bool.eq_iff_iff, h]; simp
      rw [h3]
      constructor
      · exact fun ⟨a, b⟩ => ⟨hT, hB, a, fun j h => b j h (Nat.zero_le _)⟩
      · exact fun ⟨_, _, a, b⟩ => ⟨a, fun j h _ => b j h⟩
    · have h2 : inR 0 65535 (B : Int) = false := by rw [Bool.eq_false_iff]; intro h; have := inR_iff.1 h; omega
      rw [h2]
      simp [hB]
  · have h1 : inR 0 100000 (T : Int) = false := by rw [Bool.eq_false_iff]; intro h; have := inR_iff.1 h; omega
    rw [h1]
    simp [hT]
theorem joinB_bit (T1 B1 T2 B2 n : Nat) : (joinB T1 B1 T2 B2).testBit n = true ↔ n < 16 ∧ ((max T1 T2 - T1 ≤ n ∧ B1.testBit (n - (max T1 T2 - T1)) = true) ∨ (max T1 T2 - T2 ≤ n ∧ B2.testBit (n - (max T1 T2 - T2)) = true)) := by
  unfold joinB
  rw [Nat.testBit_or, shW_bit, shW_bit]
  simp only [Bool.or_eq_true, Bool.and_eq_true, decide_eq_true_eq]
  constructor
  · rintro (⟨a, b⟩ | ⟨a, b⟩)
    · exact ⟨a, Or.inl b⟩
    · exact ⟨a, Or.inr b⟩
  · rintro ⟨a, b | b⟩
    · exact Or.inl ⟨a, b⟩
    · exact Or.inr ⟨a, b⟩
theorem seenF_mem (T B : Nat) : ∀ k (m : Int), m ∈ seenF T B k ↔ ∃ n, n < k ∧ B.testBit n = true ∧ m = (T : Int) - n
  | 0, m => by simp [seenF]
  | k + 1, m => by
    simp only [seenF, List.mem_append]
    rw [seenF_mem T B k m]
    constructor
    · rintro (h | ⟨n, a, b, c⟩)
      · split at h
        · rename_i hb
          simp at h
          exact ⟨k, by omega, hb, h⟩
        · simp at h
      · exact ⟨n, by omega, b, c⟩
    · rintro ⟨n, a, b, c⟩
      rcases Nat.lt_succ_iff_lt_or_eq.1 a with h | h
      · exact Or.inr ⟨n, h, b, c⟩
      · subst h
        left
        rw [if_pos b, c]
        simp
theorem fj_j4 (t : List Int) (hb : bytes t) : Ev (fun k => laws_FnJoined.j4 k t) true := by
  obtain ⟨T, B, p, x, e, _⟩ := window_e t hb 0 0 (by omega) (by omega)
  have e1 : Ev (fun k => spec_DrawSeenIn.f k t) (T, B) := by
    unfold spec_DrawSeenIn.f spec_DrawGoodWindow.f
    exact ebind (ebind (f := fun _ (bt272 : Int × Int × Int × Int) => some (bt272.1, bt272.2.1)) e (enow rfl)) (enow rfl)
  have hl := seenR_len T B
  refine eround (fun k => by rw [laws_FnJoined.j4]) ?_
  refine ebind e1 ?_
  refine ebind (implSeenR_e T B) ?_
  refine ebind (specSeenR_e T B) ?_
  refine enb (implLow_eq T B) ?_
  refine ebind (specLow_e T B) ?_
  refine epos (by simp) ?_
  refine ebind (sameI_e _ _ (by omega)) ?_
  refine epos (by simp) (epos (by simp) (enow (by simp)))
theorem fj_l1 (t : List Int) (hb : bytes t) (s : List Int) (low : Int) (ms : List Int) (hs : s.length ≤ 100) (hm : ms.length ≤ 100) (H : ∀ m ∈ ms, m ≥ low → m ∈ s) : ∀ (d i : Nat), i + d = ms.length → Ev (fun k => laws_FnJoined.l1 k t s low ms (ms.length : Int) (i : Int)) true := by
  intro d
  induction d with
  | zero =>
    intro i hi
    exact eround (fun k => by rw [laws_FnJoined.l1]) (eneg (by omega) (fj_j4 t hb))
  | succ d ih =>
    intro i hi
    have hlt : i < ms.length := by omega
    refine eround (fun k => by rw [laws_FnJoined.l1]) (epos (by omega) (epos (by omega) (epos (by omega) ?_)))
    rw [rd_get ms i hlt, w64 (by omega) (by omega)]
    by_cases h : ms[i] ≥ low
    · refine epos h ?_
      refine ebind (has_e s _ (by omega)) ?_
      exact epos (by simpa using H _ (List.getElem_mem hlt) h) (ih (i + 1) (by omega))
    · exact eneg h (ih (i + 1) (by omega))
theorem fj_l0 (t : List Int) (hb : bytes t) (s x y : List Int) (low : Int) (hs : s.length ≤ 16) (hx : x.length ≤ 16) (hy : y.length ≤ 16) (H1 : ∀ m ∈ s, (m ∈ x ∨ m ∈ y) ∧ low ≤ m) (H2 : ∀ m ∈ x ++ y, m ≥ low → m ∈ s) : ∀ (d i : Nat), i + d = s.length → Ev (fun k => laws_FnJoined.l0 k t s x y low (s.length : Int) (i : Int)) true := by
  intro d
  induction d with
  | zero =>
    intro i hi
    refine eround (fun k => by rw [laws_FnJoined.l0]) (eneg (by omega) ?_)
    refine enb rfl ?_
    refine epos (by simp; omega) ?_
    refine enb rfl ?_
    refine epos (by simp; omega) ?_
    refine enb rfl ?_
    rw [List.nil_append]
    exact fj_l1 t hb s low (x ++ y) (by omega) (by simp; omega) H2 (x ++ y).length 0 (by omega)
  | succ d ih =>
    intro i hi
    have hlt : i < s.length := by omega
    obtain ⟨h1, h2⟩ := H1 _ (List.getElem_mem hlt)
    refine eround (fun k => by rw [laws_FnJoined.l0]) (epos (by omega) (epos (by omega) (epos (by omega) ?_)))
    rw [rd_get s i hlt, w64 (by omega) (by omega)]
    refine ebind (has_e x _ (by omega)) ?_
    by_cases hh : s[i] ∈ x
    · exact epos (by simp [hh]) (eneg (by omega) (ih (i + 1) (by omega)))
    · refine eneg (by simp [hh]) ?_
      refine ebind (has_e y _ (by omega)) ?_
      exact epos (by simpa using h1.resolve_left hh) (eneg (by omega) (ih (i + 1) (by omega)))
theorem FnJoined : laws_FnJoined.Pure := by
  intro s t _ _ hs _ _ ht
  have hbs := bytes_of hs
  have hbt := bytes_of ht
  apply Ev.rounds
  unfold laws_FnJoined.f
  by_cases hbig : (wrap64 ((s.length : Int) + (t.length : Int))) > 1048576
  · exact epos hbig (enow rfl)
  refine eneg hbig ?_
  obtain ⟨T1, B1, p1, x1, w1, g1, g2⟩ := window_e s hbs 0 0 (by omega) (by omega)
  obtain ⟨T2, B2, p2, x2, w2, g3, g4⟩ := window_e s hbs p1 x1 (by omega) (by omega)
  have e1 : Ev (fun k => spec_DrawJoinWindows.f k s) (T1, B1, T2, B2) := by
    unfold spec_DrawJoinWindows.f
    refine ebind w1 ?_
    refine ebind w2 ?_
    exact enow rfl
  refine ebind e1 ?_
  refine ebind (implJ_e T1 B1 T2 B2) ?_
  refine ebind (specJ_e T1 B1 T2 B2) ?_
  refine eneg (by simp) ?_
  refine eround (fun k => by rw [laws_FnJoined.j0]) ?_
  refine eneg (by simp) ?_
  by_cases hok : goodW T1 B1 = true ∧ goodW T2 B2 = true
  · obtain ⟨a, b, rfl, rfl, q1, q2⟩ := goodW_nat hok.1
    obtain ⟨c, d, rfl, rfl, q3, q4⟩ := goodW_nat hok.2
    obtain ⟨_, _, k1, k2⟩ := (goodW_iff a b).1 hok.1
    obtain ⟨_, _, k3, k4⟩ := (goodW_iff c d).1 hok.2
    have hj : joinR (a : Int) (b : Int) (c : Int) (d : Int) = (((max a c : Nat) : Int), ((joinB a b c d : Nat) : Int), true) := by unfold joinR; rw [if_pos hok]; rfl
    have jle := joinB_le a b c d
    have gj : goodW ((max a c : Nat) : Int) ((joinB a b c d : Nat) : Int) = true := by
      rw [goodW_iff]
      refine ⟨by omega, jle, ?_, ?_⟩
      · rw [joinB_bit]
        constructor
        · rintro ⟨_, ⟨h1, h2⟩ | ⟨h1, h2⟩⟩
          · rw [show 0 - (max a c - a) = 0 by omega] at h2
            have := k1.1 h2; omega
          · rw [show 0 - (max a c - c) = 0 by omega] at h2
            have := k3.1 h2; omega
        · intro h
          refine ⟨by omega, ?_⟩
          by_cases hac : a ≤ c
          · right
            rw [show 0 - (max a c - c) = 0 by omega]
            exact ⟨by omega, k3.2 (by omega)⟩
          · left
            rw [show 0 - (max a c - a) = 0 by omega]
            exact ⟨by omega, k1.2 (by omega)⟩
      · intro j hj16 hbj
        rcases (joinB_bit _ _ _ _ _).1 hbj with ⟨_, ⟨h1, h2⟩ | ⟨h1, h2⟩⟩
        · have := k2 _ (by omega) h2; omega
        · have := k4 _ (by omega) h2; omega
    have hj2 : joinR (c : Int) (d : Int) (a : Int) (b : Int) = (((max a c : Nat) : Int), ((joinB a b c d : Nat) : Int), true) := by
      unfold joinR
      rw [if_pos ⟨hok.2, hok.1⟩]
      simp only [Int.toNat_natCast]
      rw [Nat.max_comm c a]
      have : joinB c d a b = joinB a b c d := by unfold joinB; rw [Nat.max_comm c a, Nat.or_comm]
      rw [this]
    have hj3 : joinR ((max a c : Nat) : Int) ((joinB a b c d : Nat) : Int) (a : Int) (b : Int) = (((max a c : Nat) : Int), ((joinB a b c d : Nat) : Int), true) := by
      unfold joinR
      rw [if_pos ⟨gj, hok.1⟩]
      simp only [Int.toNat_natCast]
      have m1 : max (max a c) a = max a c := by omega
      have : joinB (max a c) (joinB a b c d) a b = joinB a b c d := by
        apply Nat.eq_of_testBit_eq
        intro n
        rw [Bool.eq_iff_iff, joinB_bit, m1]
        simp only [Nat.sub_self, Nat.sub_zero, Nat.zero_le, true_and]
        rw [joinB_bit]
        constructor
        · rintro ⟨h1, h2 | h2⟩
          · exact h2
          · exact ⟨h1, Or.inl h2⟩
        · intro h
          exact ⟨h.1, Or.inl h⟩
      rw [m1, this]
    have f1 := seenF_len (max a c) (joinB a b c d) 16
    have f2 := seenF_len a b 16
    have f3 := seenF_len c d 16
    have s1 := implSeenR_e ((max a c : Nat) : Int) ((joinB a b c d : Nat) : Int)
    have s2 := implSeenR_e (a : Int) (b : Int)
    have s3 := implSeenR_e (c : Int) (d : Int)
    have r1 : seenR ((max a c : Nat) : Int) ((joinB a b c d : Nat) : Int) = (seenF (max a c) (joinB a b c d) 16, true) := by unfold seenR; rw [if_pos gj]; rfl
    have r2 : seenR (a : Int) (b : Int) = (seenF a b 16, true) := by unfold seenR; rw [if_pos hok.1]; rfl
    have r3 : seenR (c : Int) (d : Int) = (seenF c d 16, true) := by unfold seenR; rw [if_pos hok.2]; rfl
    rw [r1] at s1
    rw [r2] at s2
    rw [r3] at s3
    have lw := implLow_eq ((max a c : Nat) : Int) ((joinB a b c d : Nat) : Int)
    have lr : lowR ((max a c : Nat) : Int) ((joinB a b c d : Nat) : Int) = (if ((max a c : Nat) : Int) < 16 then 1 else ((max a c : Nat) : Int) - 15, true) := by unfold lowR; rw [if_pos gj]
    rw [lr] at lw
    have gw := implGW_eq ((max a c : Nat) : Int) ((joinB a b c d : Nat) : Int)
    rw [gj] at gw
    have e2 := implJ_e (c : Int) (d : Int) (a : Int) (b : Int)
    rw [hj2] at e2
    have e3 := implJ_e ((max a c : Nat) : Int) ((joinB a b c d : Nat) : Int) (a : Int) (b : Int)
    rw [hj3] at e3
    rw [hj]
    refine epos rfl ?_
    refine ebind e2 ?_
    refine ebind e3 ?_
    refine ebind s1 ?_
    refine ebind s2 ?_
    refine ebind s3 ?_
    refine enb lw ?_
    refine enb gw ?_
    refine epos rfl (epos rfl ?_)
    refine eneg (by simp) (epos rfl (eneg (by simp) (epos rfl (epos rfl (epos rfl ?_)))))
    refine eround (fun k => by rw [laws_FnJoined.j1]) ?_
    refine eneg (by simp) ?_
    refine fj_l0 t hbt _ _ _ _ f1 f2 f3 ?_ ?_ _ 0 (Nat.zero_add _)
    · intro m hm
      obtain ⟨n, n1, n2, n3⟩ := (seenF_mem _ _ _ _).1 hm
      rcases (joinB_bit _ _ _ _ _).1 n2 with ⟨_, ⟨h1, h2⟩ | ⟨h1, h2⟩⟩
      · have := k2 _ (by omega) h2
        refine ⟨Or.inl ((seenF_mem _ _ _ _).2 ⟨n - (max a c - a), by omega, h2, by omega⟩), ?_⟩
        dsimp only
        split <;> omega
      · have := k4 _ (by omega) h2
        refine ⟨Or.inr ((seenF_mem _ _ _ _).2 ⟨n - (max a c - c), by omega, h2, by omega⟩), ?_⟩
        dsimp only
        split <;> omega
    · intro m hm hl
      dsimp only at hl
      have hl' : m ≥ ((max a c : Nat) : Int) - 15 := by split at hl <;> omega
      rcases List.mem_append.1 hm with h | h
      · obtain ⟨n, n1, n2, n3⟩ := (seenF_mem _ _ _ _).1 h
        refine (seenF_mem _ _ _ _).2 ⟨n + (max a c - a), by omega, ?_, by omega⟩
        rw [joinB_bit]
        refine ⟨by omega, Or.inl ⟨by omega, ?_⟩⟩
        rw [show n + (max a c - a) - (max a c - a) = n by omega]
        exact n2
      · obtain ⟨n, n1, n2, n3⟩ := (seenF_mem _ _ _ _).1 h
        refine (seenF_mem _ _ _ _).2 ⟨n + (max a c - c), by omega, ?_, by omega⟩
        rw [joinB_bit]
        refine ⟨by omega, Or.inr ⟨by omega, ?_⟩⟩
        rw [show n + (max a c - c) - (max a c - c) = n by omega]
        exact n2
  · have hj : joinR T1 B1 T2 B2 = (0, 0, false) := by unfold joinR; rw [if_neg hok]
    rw [hj]
    exact eneg (by simp) (fj_j4 t hbt)

end Go.Proofs.Ytonejnaanklfjaa.Pure
