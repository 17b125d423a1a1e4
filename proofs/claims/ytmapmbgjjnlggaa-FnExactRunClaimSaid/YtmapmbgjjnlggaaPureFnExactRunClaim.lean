/- The law FnExactRunClaim, told over lists: the program's RunClaim and the reference's answer alike; nothing is written into an argument. No condition. -/
import Derived.Test.YtmapmbgjjnlggaaQFnExactRunClaimx4
import Derived.Test.YtmapmbgjjnlggaaPk
namespace Go.Proofs.Ytmapmbgjjnlggaa.Pure
open Go.RowKit Go.Proofs.Ytmapmbgjjnlggaa.QFnExactRunClaim Go.Proofs.YtmapmbgjjnlggaaW.PrintWords Go.Proofs.YtmapmbgjjnlggaaW.PrintLast Go.Proofs.YtmapmbgjjnlggaaW.PrintMore Go.Proofs.Ytmapmbgjjnlggaa
set_option linter.unusedVariables false
set_option linter.unusedSimpArgs false

open Pk
/-! laws_toBoolS -/
theorem laws_toBoolS_l (xs : List Bool) (hs : xs.length ≤ 1048576) : ∀ (d i : Nat) (acc : List Bool), i + d = xs.length → acc.length = xs.length → acc.take i = xs.take i → Ev (fun k => laws_toBoolS.l0 k xs acc (i : Int)) xs := by
  have hn := hs
  intro d
  induction d with
  | zero =>
    intro i acc hi hl ht
    refine eround (fun k => by rw [laws_toBoolS.l0]) (eneg (by omega) (enow ?_))
    rwa [List.take_of_length_le (by omega), List.take_of_length_le (by first | omega | (simp; omega))] at ht
  | succ d ih =>
    intro i acc hi hl ht
    have hlt : i < xs.length := by omega
    refine eround (fun k => by rw [laws_toBoolS.l0]) (epos (by omega) (epos (by omega) ?_))
    refine epos (by omega) ?_
    rw [w64 (by omega) (by omega)]
    refine ih (i + 1) _ (by omega) (by simpa using hl) ?_
    exact take_set_succ _ _ rfl (by first | exact hlt | (simp; omega)) (by first | exact hl | simpa using hl) ht (by first | exact (getD_get xs i _ hlt).symm | (simp only [List.getElem_map]; rw [← getD_get xs i _ hlt]; rfl))
theorem laws_toBoolS_e (xs : List Bool) (hs : xs.length ≤ 1048576) : Ev (fun k => laws_toBoolS.f k xs) xs := by
  have hn := hs
  unfold laws_toBoolS.f
  exact epos (by omega) (epos (by omega) (laws_toBoolS_l xs hs xs.length 0 _ (by omega) (by simp) (by simp)))
/-! laws_toClaim -/
theorem laws_toClaim_e (a0_0 : Int) (a0_1 : Int) (a0_2 : Int) : laws_toClaim.f a0_0 a0_1 a0_2 = some (a0_0, a0_1, a0_2) := rfl
/-! laws_eqClaim -/
theorem laws_eqClaim_r (a0_0 : Int) (a0_1 : Int) (a0_2 : Int) : laws_eqClaim.f a0_0 a0_1 a0_2 a0_0 a0_1 a0_2 = some true := by
  unfold laws_eqClaim.f
  simp
/-! laws_eqStatement -/
theorem laws_eqStatement_r (a0_0 : Int) (a0_1 : Int) (a0_2 : Int) (a0_3 : Int) (a0_4 : Bool) : laws_eqStatement.f a0_0 a0_1 a0_2 a0_3 a0_4 a0_0 a0_1 a0_2 a0_3 a0_4 = some true := by
  unfold laws_eqStatement.f
  simp [laws_eqClaim_r]
/-! laws_eqStatementS -/
theorem laws_eqStatementS_lr (xs : List S94) (hs : xs.length ≤ 1048576) : ∀ (d i : Nat), i + d = xs.length → Ev (fun k => laws_eqStatementS.l0 k xs xs (i : Int)) true := by
  have hn := hs
  intro d
  induction d with
  | zero =>
    intro i hi
    exact eround (fun k => by rw [laws_eqStatementS.l0]) (eneg (by omega) (enow rfl))
  | succ d ih =>
    intro i hi
    have hlt : i < xs.length := by omega
    refine eround (fun k => by rw [laws_eqStatementS.l0]) (epos (by omega) (epos (by omega) (epos (by omega) ?_)))
    refine enb (laws_eqStatement_r _ _ _ _ _) (epos rfl ?_)
    rw [w64 (by omega) (by omega)]
    exact ih (i + 1) (by omega)
theorem laws_eqStatementS_r (xs : List S94) (hs : xs.length ≤ 1048576) : Ev (fun k => laws_eqStatementS.f k xs xs) true := by
  unfold laws_eqStatementS.f
  exact epos rfl (laws_eqStatementS_lr xs hs xs.length 0 (by omega))
/-! laws_eqBoolS -/
theorem laws_eqBoolS_lr (xs : List Bool) (hs : xs.length ≤ 1048576) : ∀ (d i : Nat), i + d = xs.length → Ev (fun k => laws_eqBoolS.l0 k xs xs (i : Int)) true := by
  have hn := hs
  intro d
  induction d with
  | zero =>
    intro i hi
    exact eround (fun k => by rw [laws_eqBoolS.l0]) (eneg (by omega) (enow rfl))
  | succ d ih =>
    intro i hi
    have hlt : i < xs.length := by omega
    refine eround (fun k => by rw [laws_eqBoolS.l0]) (epos (by omega) (epos (by omega) (epos (by omega) ?_)))
    first | refine epos rfl ?_ | (refine eneg ?_ ?_; focus (simp; done))
    rw [w64 (by omega) (by omega)]
    exact ih (i + 1) (by omega)
theorem laws_eqBoolS_r (xs : List Bool) (hs : xs.length ≤ 1048576) : Ev (fun k => laws_eqBoolS.f k xs xs) true := by
  unfold laws_eqBoolS.f
  exact epos rfl (laws_eqBoolS_lr xs hs xs.length 0 (by omega))
/-! laws_markBoolS -/
theorem laws_markBoolS_o : ∀ (d i : Nat) (xs : List Bool) (m : Int), i + d = xs.length → xs.length ≤ 1048576 → 0 ≤ m → m ≤ 4611686018427387904 - 1 * d → ∃ ys : List Bool, Ev (fun k => laws_markBoolS.l0 k xs m (i : Int)) (m + 1 * d, ys) := by
  intro d
  induction d with
  | zero =>
    intro i xs m hi hn h0 h1
    exact ⟨xs, eround (fun k => by rw [laws_markBoolS.l0]) (eneg (by omega) (enow (by simp)))⟩
  | succ d ih =>
    intro i xs m hi hn h0 h1
    have w1 : wrap64 ((i : Int) + 1) = ((i + 1 : Nat) : Int) := by rw [w64 (by omega) (by omega)]; rfl
    have v0 : wrap64 (m + 1) = m + 1 := w64 (by omega) (by omega)
    have hr : ∃ zs : List Bool, zs.length = xs.length ∧ ∀ r, Ev (fun k => laws_markBoolS.l0 k zs (m + 1) ((i + 1 : Nat) : Int)) r → Ev (fun k => laws_markBoolS.l0 k xs m (i : Int)) r := by
      apply Exists.intro
      apply And.intro
      rotate_left
      · intro r hz
        refine eround (fun k => by rw [laws_markBoolS.l0]) (epos (by omega) ?_)
        try simp only [w1, v0]
        refine epos (by omega) ?_
        refine enb rfl ?_
        try simp only [w1, v0]
        exact hz
      · simp
    obtain ⟨zs, hz, hr⟩ := hr
    obtain ⟨ys, hy⟩ := ih (i + 1) zs (m + 1) (by omega) (by omega) (by omega) (by push_cast at h1; omega)
    refine ⟨ys, hr _ ?_⟩
    rw [show m + 1 * ((d + 1 : Nat) : Int) = m + 1 + 1 * (d : Int) by push_cast; omega]
    exact hy
theorem laws_markBoolS_m (xs : List Bool) (m : Int) (hn : xs.length ≤ 1048576) (h0 : 0 ≤ m) (h1 : m ≤ 4611686018427387904 - 1 * xs.length) : ∃ ys : List Bool, Ev (fun k => laws_markBoolS.f k xs m) (m + 1 * xs.length, ys) :=
  laws_markBoolS_o xs.length 0 xs m (by omega) hn h0 h1
/-! laws_markStatementS -/
theorem laws_markStatementS_h : ∀ (d i : Nat) (xs : List S94) (m : Int), i + d = xs.length → xs.length ≤ 1048576 → 0 ≤ m → m ≤ 4611686018427387904 - 5 * d → ∃ ys : List S94, ys.length = xs.length ∧ ys.take i = xs.take i ∧
    Ev (fun k => laws_markStatementS.l0 k xs m (i : Int)) (m + 5 * d, ys) ∧ Ev (fun k => laws_heldStatementS.l0 k ys m (i : Int)) (m + 5 * d) := by
  intro d
  induction d with
  | zero =>
    intro i xs m hi hn h0 h1
    exact ⟨xs, rfl, rfl, eround (fun k => by rw [laws_markStatementS.l0]) (eneg (by omega) (enow (by simp))), eround (fun k => by rw [laws_heldStatementS.l0]) (eneg (by omega) (enow (by simp)))⟩
  | succ d ih =>
    intro i xs m hi hn h0 h1
    have hlt : i < xs.length := by omega
    have w1 : wrap64 ((i : Int) + 1) = ((i + 1 : Nat) : Int) := by rw [w64 (by omega) (by omega)]; rfl
    have v0 : wrap64 (m + 1) = m + 1 := w64 (by omega) (by omega)
    have v1 : wrap64 (m + 1 + 1) = m + 2 := by rw [w64 (by omega) (by omega)]; omega
    have v2 : wrap64 (m + 2 + 1) = m + 3 := by rw [w64 (by omega) (by omega)]; omega
    have v3 : wrap64 (m + 3 + 1) = m + 4 := by rw [w64 (by omega) (by omega)]; omega
    have v4 : wrap64 (m + 4 + 1) = m + 5 := by rw [w64 (by omega) (by omega)]; omega
    obtain ⟨ys, hl, ht, hm, hh⟩ := ih (i + 1) (xs.set ((i : Int)).toNat (⟨m, (⟨m + 1, m + 2, m + 3⟩ : S72), (Int.tmod (m + 4) 3 == 0)⟩ : S94)) (m + 5) (by simp; omega) (by simpa using hn) (by omega) (by push_cast at h1; omega)
    have hlt' : i < ys.length := by rw [hl]; simpa using hlt
    have hy : ys[i] = (⟨m, (⟨m + 1, m + 2, m + 3⟩ : S72), (Int.tmod (m + 4) 3 == 0)⟩ : S94) := by
      have := congrArg (fun l => l[i]?) ht
      simp only [List.getElem?_take_of_lt (Nat.lt_succ_self i), List.getElem?_eq_getElem hlt'] at this
      rw [show ((i : Int)).toNat = i by simp, List.getElem?_set_self (by simpa using hlt)] at this
      exact Option.some.inj this
    refine ⟨ys, by rw [hl]; simp, ?_, ?_, ?_⟩
    · have := congrArg (List.take i) ht
      rw [List.take_take, List.take_take, Nat.min_eq_left (by omega)] at this
      rw [this]
      simp [List.take_set_of_le]
    · refine eround (fun k => by rw [laws_markStatementS.l0]) (epos (by omega) ?_)
      try simp only [w1, v0, v1, v2, v3, v4]
      refine epos (by omega) ?_
      refine enb rfl ?_
      refine enb rfl ?_
      refine enb rfl ?_
      refine enb rfl ?_
      refine enb rfl ?_
      try simp only [w1, v0, v1, v2, v3, v4]
      simp only [rd_T94, getD_get, List.length_set, hlt, set_get, set_set_]
      rw [show m + 5 * ((d + 1 : Nat) : Int) = m + 5 + 5 * (d : Int) by push_cast; omega]
      simpa using hm
    · refine eround (fun k => by rw [laws_heldStatementS.l0]) (epos (by omega) (epos (by omega) ?_))
      have hr : ∀ z, ys.getD ((i : Int)).toNat z = ys[i] := fun z => getD_get ys i z hlt'
      try simp only [w1, v0, v1, v2, v3, v4]
      simp only [rd_T94, hr, hy]
      repeat (first | refine epos trivial ?_ | refine epos rfl ?_ | (refine eneg ?_ ?_; focus (simp; done)))
      rw [show m + 5 * ((d + 1 : Nat) : Int) = m + 5 + 5 * (d : Int) by push_cast; omega]
      exact hh
theorem laws_markStatementS_m (xs : List S94) (m : Int) (hn : xs.length ≤ 1048576) (h0 : 0 ≤ m) (h1 : m ≤ 4611686018427387904 - 5 * xs.length) : ∃ ys : List S94, ys.length = xs.length ∧ Ev (fun k => laws_markStatementS.f k xs m) (m + 5 * xs.length, ys) ∧ Ev (fun k => laws_heldStatementS.f k ys m) (m + 5 * xs.length) := by
  obtain ⟨ys, hl, _, h⟩ := laws_markStatementS_h xs.length 0 xs m (by omega) hn h0 h1
  exact ⟨ys, hl, h⟩
def inR (lo hi x : Int) : Bool := decide (x ≥ lo) && decide (x ≤ hi)
theorem inR_iff {lo hi x : Int} : inR lo hi x = true ↔ lo ≤ x ∧ x ≤ hi := by simp [inR]
theorem l1In_eq (a lo hi : Int) : spec_l1In.f a lo hi = some (inR lo hi a) := by
  unfold spec_l1In.f inR
  by_cases h : a ≥ lo <;> simp [h]
theorem within_eq (a lo hi : Int) : impl_within.f a lo hi = some (inR lo hi a) := by
  unfold impl_within.f inR
  by_cases h : a ≥ lo <;> simp [h]
def goodC (a b c : Int) : Bool := inR 0 20 a && (inR 0 1000 b && inR 0 100 c)
theorem specGC_eq (a b c : Int) : spec_GoodClaim.f a b c = some (goodC a b c) := by
  unfold spec_GoodClaim.f goodC
  rw [l1In_eq, l1In_eq, l1In_eq]
  cases h : inR 0 20 a <;> cases h1 : inR 0 1000 b <;> simp
theorem implGC_eq (a b c : Int) : impl_GoodClaim.f a b c = some (goodC a b c) := by
  unfold impl_GoodClaim.f impl_isLetterNumber.f goodC
  rw [within_eq, within_eq, within_eq]
  cases h : inR 0 20 a <;> cases h1 : inR 0 1000 b <;> simp
def runF (hand : Bool) (a b c : Int) : Nat → List Bool → List S94
  | _, [] => []
  | i, w :: ws => ⟨(i : Int), ⟨a, b, c⟩, hand != w⟩ :: runF hand a b c (i + 1) ws
def runC (hand : Bool) (ws : List Bool) (a b c : Int) : List S94 × Bool := if ws.length ≤ 7 ∧ goodC a b c = true then (runF hand a b c 0 ws, true) else ([], false)
theorem runF_len (hand : Bool) (a b c : Int) : ∀ (ws : List Bool) (i : Nat), (runF hand a b c i ws).length = ws.length
  | [], _ => rfl
  | w :: ws, i => by simp [runF, runF_len hand a b c ws (i + 1)]
theorem runC_len (hand : Bool) (a b c : Int) (ws : List Bool) : (runC hand ws a b c).1.length ≤ ws.length := by
  unfold runC
  split
  · rw [runF_len]; exact Nat.le_refl _
  · simp
theorem specRC_l (hand : Bool) (a b c : Int) (ws : List Bool) (hn : ws.length ≤ 1048576) : ∀ (d i : Nat) (out : List S94), i + d = ws.length → out.length = i → Ev (fun k => spec_RunClaim.l0 k hand out ws (ws.length : Int) (i : Int) a b c) (out ++ runF hand a b c i (ws.drop i), true) := by
  intro d
  induction d with
  | zero =>
    intro i out hi ho
    refine eround (fun k => by rw [spec_RunClaim.l0]) (eneg (by omega) (enow ?_))
    rw [List.drop_eq_nil_of_le (show ws.length ≤ i by omega)]
    simp [runF]
  | succ d ih =>
    intro i out hi ho
    have hlt : i < ws.length := by omega
    refine eround (fun k => by rw [spec_RunClaim.l0]) (epos (by omega) (epos (by omega) (epos (by omega) (epos (by omega) ?_))))
    rw [show rdOf false ws (i : Int) = ws[i] from getD_get ws i _ hlt, List.drop_eq_getElem_cons hlt, w64 (x := (i : Int) + 1) (by omega) (by omega)]
    simp only [runF]
    rw [show (hand != ws[i]) = (hand != ws[i]) from by cases hand <;> cases ws[i] <;> rfl]
    have := ih (i + 1) (out ++ [(⟨(i : Int), ⟨a, b, c⟩, (hand != ws[i])⟩ : S94)]) (by omega) (by simp [ho])
    rw [List.append_assoc, List.singleton_append] at this
    exact this
theorem specRC_e (hand : Bool) (a b c : Int) (ws : List Bool) (hn : ws.length ≤ 1048576) : Ev (fun k => spec_RunClaim.f k hand ws a b c) (runC hand ws a b c) := by
  unfold spec_RunClaim.f runC
  by_cases h : ws.length ≤ 7
  · refine eneg (by omega) (enb (specGC_eq a b c) (eround (fun k => by rw [spec_RunClaim.j0]) ?_))
    cases h2 : goodC a b c with
    | false => exact epos (by simp) (enow (by simp))
    | true =>
      refine eneg (by simp) ?_
      rw [if_pos ⟨h, rfl⟩]
      exact specRC_l hand a b c ws hn ws.length 0 [] (by omega) rfl
  · exact epos (by omega) (eround (fun k => by rw [spec_RunClaim.j0]) (epos rfl (enow (by simp [h]))))
theorem implRC_l (hand : Bool) (a b c : Int) (ws : List Bool) (hn : ws.length ≤ 1048576) : ∀ (d i : Nat) (out : List S94), i + d = ws.length → out.length = i → Ev (fun k => impl_RunClaim.l0 k hand out ws (ws.length : Int) (i : Int) a b c) (out ++ runF hand a b c i (ws.drop i), true) := by
  intro d
  induction d with
  | zero =>
    intro i out hi ho
    refine eround (fun k => by rw [impl_RunClaim.l0]) (eneg (by omega) (enow ?_))
    rw [List.drop_eq_nil_of_le (show ws.length ≤ i by omega)]
    simp [runF]
  | succ d ih =>
    intro i out hi ho
    have hlt : i < ws.length := by omega
    refine eround (fun k => by rw [impl_RunClaim.l0]) (epos (by omega) (epos (by omega) (epos (by omega) (epos (by omega) ?_))))
    rw [show rdOf false ws (i : Int) = ws[i] from getD_get ws i _ hlt, List.drop_eq_getElem_cons hlt, w64 (x := (i : Int) + 1) (by omega) (by omega)]
    simp only [runF]
    rw [show (hand != ws[i]) = (ws[i] != hand) from by cases hand <;> cases ws[i] <;> rfl]
    have := ih (i + 1) (out ++ [(⟨(i : Int), ⟨a, b, c⟩, (ws[i] != hand)⟩ : S94)]) (by omega) (by simp [ho])
    rw [List.append_assoc, List.singleton_append] at this
    exact this
theorem implRC_e (hand : Bool) (a b c : Int) (ws : List Bool) (hn : ws.length ≤ 1048576) : Ev (fun k => impl_RunClaim.f k hand ws a b c) (runC hand ws a b c) := by
  unfold impl_RunClaim.f runC
  by_cases h : ws.length ≤ 7
  · refine eneg (by omega) (enb (implGC_eq a b c) (eround (fun k => by rw [impl_RunClaim.j0]) ?_))
    cases h2 : goodC a b c with
    | false => exact epos (by simp) (enow (by simp))
    | true =>
      refine eneg (by simp) ?_
      rw [if_pos ⟨h, rfl⟩]
      exact implRC_l hand a b c ws hn ws.length 0 [] (by omega) rfl
  · exact epos (by omega) (eround (fun k => by rw [impl_RunClaim.j0]) (epos rfl (enow (by simp [h]))))
theorem FnExactRunClaim : laws_FnExactRunClaim.Pure := by
  intro hand ws a b c h _
  apply Ev.rounds
  unfold laws_FnExactRunClaim.f
  by_cases hl : ws.length ≤ 1048576
  · refine eneg (by omega) ?_
    have hR : (runC hand ws a b c).1.length ≤ 1048576 := Nat.le_trans (runC_len hand a b c ws) hl
    have e1 := laws_toBoolS_e ws hl
    have e2 := specRC_e hand a b c ws hl
    have e3 := implRC_e hand a b c ws hl
    have e4 := laws_eqStatementS_r _ hR
    have e5 := laws_eqBoolS_r ws hl
    obtain ⟨_, q1⟩ := laws_markBoolS_m ws 1 hl (by omega) (by omega)
    obtain ⟨_, _, q3, q4⟩ := laws_markStatementS_m (runC hand ws a b c).1 1 hR (by omega) (by omega)
    repeat' first
      | exact enow rfl
      | (with_reducible refine ebind e1 ?_)
      | (with_reducible refine ebind e2 ?_)
      | (with_reducible refine ebind e3 ?_)
      | (with_reducible refine ebind e4 ?_)
      | (with_reducible refine ebind e5 ?_)
      | (with_reducible refine ebind q1 ?_)
      | (with_reducible refine ebind q3 ?_)
      | (with_reducible refine ebind q4 ?_)
      | (with_reducible refine enb (laws_toClaim_e _ _ _) ?_)
      | (with_reducible refine eround (fun k => laws_FnExactRunClaim.j0.eq_2 _ _ _ _ _ _ _ _ _ _ _ _) ?_)
      | (with_reducible refine eround (fun k => laws_FnExactRunClaim.j1.eq_2 _ _ _ _ _ _ _ _ _ _) ?_)
      | (with_reducible refine eround (fun k => laws_FnExactRunClaim.j2.eq_2 _ _ _ _) ?_)
      | (with_reducible refine enb rfl ?_)
      | (with_reducible refine epos rfl ?_)
      | (refine eneg ?_ ?_; focus (first | omega | (dsimp only; omega) | (simp; done) | (simp; omega)))
  · exact epos (by omega) (enow rfl)

end Go.Proofs.Ytmapmbgjjnlggaa.Pure
