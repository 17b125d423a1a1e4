/- The law FnExactRankHands, told over lists: the program's RankHands and the reference's answer alike; nothing is written into an argument. No condition. -/
import Derived.Test.YtpibdgknmjjolaaQFnExactRankHandsx7
import Derived.Test.YtpibdgknmjjolaaPk
namespace Go.Proofs.Ytpibdgknmjjolaa.Pure
open Go.RowKit Go.Proofs.Ytpibdgknmjjolaa.QFnExactRankHands Go.Proofs.YtpibdgknmjjolaaW.PrintWords Go.Proofs.YtpibdgknmjjolaaW.PrintLast Go.Proofs.YtpibdgknmjjolaaW.PrintMore Go.Proofs.Ytpibdgknmjjolaa
set_option linter.unusedVariables false
set_option linter.unusedSimpArgs false

open Pk
/-! laws_szTallyS -/
theorem laws_szTallyS_z (xs : List S113) (m : Int) (h0 : 0 ≤ m) (h1 : m ≤ 1048576) (hw : xs.length ≤ 9223372036854775807) : ∃ r, r ≤ m ∧ laws_szTallyS.f xs m = some r ∧ (0 ≤ r → xs.length ≤ 1048576) := by
  unfold laws_szTallyS.f
  rw [w64 (by omega) (by omega)]
  by_cases h : m - (xs.length : Int) < 0
  · exact ⟨-1, by omega, if_pos h, fun h => by omega⟩
  · exact ⟨_, by omega, if_neg h, fun _ => by omega⟩
/-! laws_eqIntS -/
theorem laws_eqIntS_lr (xs : List Int) (hs : xs.length ≤ 1048576) : ∀ (d i : Nat), i + d = xs.length → Ev (fun k => laws_eqIntS.l0 k xs xs (i : Int)) true := by
  have hn := hs
  intro d
  induction d with
  | zero =>
    intro i hi
    exact eround (fun k => by rw [laws_eqIntS.l0]) (eneg (by omega) (enow rfl))
  | succ d ih =>
    intro i hi
    have hlt : i < xs.length := by omega
    refine eround (fun k => by rw [laws_eqIntS.l0]) (epos (by omega) (epos (by omega) (epos (by omega) ?_)))
    first | refine epos rfl ?_ | (refine eneg ?_ ?_; focus (simp; done))
    rw [w64 (by omega) (by omega)]
    exact ih (i + 1) (by omega)
theorem laws_eqIntS_r (xs : List Int) (hs : xs.length ≤ 1048576) : Ev (fun k => laws_eqIntS.f k xs xs) true := by
  unfold laws_eqIntS.f
  exact epos rfl (laws_eqIntS_lr xs hs xs.length 0 (by omega))
/-! laws_markIntS -/
theorem laws_markIntS_h : ∀ (d i : Nat) (xs : List Int) (m : Int), i + d = xs.length → xs.length ≤ 1048576 → 0 ≤ m → m ≤ 4611686018427387904 - 1 * d → ∃ ys : List Int, ys.length = xs.length ∧ ys.take i = xs.take i ∧
    Ev (fun k => laws_markIntS.l0 k xs m (i : Int)) (m + 1 * d, ys) ∧ Ev (fun k => laws_heldIntS.l0 k ys m (i : Int)) (m + 1 * d) := by
  intro d
  induction d with
  | zero =>
    intro i xs m hi hn h0 h1
    exact ⟨xs, rfl, rfl, eround (fun k => by rw [laws_markIntS.l0]) (eneg (by omega) (enow (by simp))), eround (fun k => by rw [laws_heldIntS.l0]) (eneg (by omega) (enow (by simp)))⟩
  | succ d ih =>
    intro i xs m hi hn h0 h1
    have hlt : i < xs.length := by omega
    have w1 : wrap64 ((i : Int) + 1) = ((i + 1 : Nat) : Int) := by rw [w64 (by omega) (by omega)]; rfl
    have v0 : wrap64 (m + 1) = m + 1 := w64 (by omega) (by omega)
    obtain ⟨ys, hl, ht, hm, hh⟩ := ih (i + 1) (xs.set ((i : Int)).toNat m) (m + 1) (by simp; omega) (by simpa using hn) (by omega) (by push_cast at h1; omega)
    have hlt' : i < ys.length := by rw [hl]; simpa using hlt
    have hy : ys[i] = m := by
      have := congrArg (fun l => l[i]?) ht
      simp only [List.getElem?_take_of_lt (Nat.lt_succ_self i), List.getElem?_eq_getElem hlt'] at this
      rw [show ((i : Int)).toNat = i by simp, List.getElem?_set_self (by simpa using hlt)] at this
      exact Option.some.inj this
    refine ⟨ys, by rw [hl]; simp, ?_, ?_, ?_⟩
    · have := congrArg (List.take i) ht
      rw [List.take_take, List.take_take, Nat.min_eq_left (by omega)] at this
      rw [this]
      simp [List.take_set_of_le]
    · refine eround (fun k => by rw [laws_markIntS.l0]) (epos (by omega) ?_)
      try simp only [w1, v0]
      refine epos (by omega) ?_
      refine enb rfl ?_
      try simp only [w1, v0]
      skip
      rw [show m + 1 * ((d + 1 : Nat) : Int) = m + 1 + 1 * (d : Int) by push_cast; omega]
      simpa using hm
    · refine eround (fun k => by rw [laws_heldIntS.l0]) (epos (by omega) (epos (by omega) ?_))
      have hr : ∀ z, ys.getD ((i : Int)).toNat z = ys[i] := fun z => getD_get ys i z hlt'
      try simp only [w1, v0]
      simp only [rd, rdOf, hr, hy]
      repeat (first | refine epos trivial ?_ | refine epos rfl ?_ | (refine eneg ?_ ?_; focus (simp; done)))
      rw [show m + 1 * ((d + 1 : Nat) : Int) = m + 1 + 1 * (d : Int) by push_cast; omega]
      exact hh
theorem laws_markIntS_m (xs : List Int) (m : Int) (hn : xs.length ≤ 1048576) (h0 : 0 ≤ m) (h1 : m ≤ 4611686018427387904 - 1 * xs.length) : ∃ ys : List Int, ys.length = xs.length ∧ Ev (fun k => laws_markIntS.f k xs m) (m + 1 * xs.length, ys) ∧ Ev (fun k => laws_heldIntS.f k ys m) (m + 1 * xs.length) := by
  obtain ⟨ys, hl, _, h⟩ := laws_markIntS_h xs.length 0 xs m (by omega) hn h0 h1
  exact ⟨ys, hl, h⟩
/-! laws_toTally -/
theorem laws_toTally_e (a0_0 : Int) (a0_1 : Int) (a0_2 : Int) : laws_toTally.f a0_0 a0_1 a0_2 = some (a0_0, a0_1, a0_2) := rfl
/-! laws_toTallyS -/
theorem laws_toTallyS_l (xs : List S113) (hs : xs.length ≤ 1048576) : ∀ (d i : Nat) (acc : List S68), i + d = xs.length → acc.length = xs.length → acc.take i = (xs.map fun x => (⟨x.f0, x.f1, x.f2⟩ : S68)).take i → Ev (fun k => laws_toTallyS.l0 k xs acc (i : Int)) (xs.map fun x => (⟨x.f0, x.f1, x.f2⟩ : S68)) := by
  have hn := hs
  intro d
  induction d with
  | zero =>
    intro i acc hi hl ht
    refine eround (fun k => by rw [laws_toTallyS.l0]) (eneg (by omega) (enow ?_))
    rwa [List.take_of_length_le (by omega), List.take_of_length_le (by first | omega | (simp; omega))] at ht
  | succ d ih =>
    intro i acc hi hl ht
    have hlt : i < xs.length := by omega
    refine eround (fun k => by rw [laws_toTallyS.l0]) (epos (by omega) (epos (by omega) ?_))
    refine enb rfl (epos (by omega) ?_)
    rw [w64 (by omega) (by omega)]
    refine ih (i + 1) _ (by omega) (by simpa using hl) ?_
    exact take_set_succ _ _ rfl (by first | exact hlt | (simp; omega)) (by first | exact hl | simpa using hl) ht (by first | exact (getD_get xs i _ hlt).symm | (simp only [List.getElem_map]; rw [← getD_get xs i _ hlt]; rfl))
theorem laws_toTallyS_e (xs : List S113) (hs : xs.length ≤ 1048576) : Ev (fun k => laws_toTallyS.f k xs) (xs.map fun x => (⟨x.f0, x.f1, x.f2⟩ : S68)) := by
  have hn := hs
  unfold laws_toTallyS.f
  exact epos (by omega) (epos (by omega) (laws_toTallyS_l xs hs xs.length 0 _ (by omega) (by simp) (by simp)))
/-! laws_eqTally -/
theorem laws_eqTally_r (a0_0 : Int) (a0_1 : Int) (a0_2 : Int) : laws_eqTally.f a0_0 a0_1 a0_2 a0_0 a0_1 a0_2 = some true := by
  unfold laws_eqTally.f
  simp
/-! laws_eqTallyS -/
theorem laws_eqTallyS_lr (xs : List S68) (hs : xs.length ≤ 1048576) : ∀ (d i : Nat), i + d = xs.length → Ev (fun k => laws_eqTallyS.l0 k xs xs (i : Int)) true := by
  have hn := hs
  intro d
  induction d with
  | zero =>
    intro i hi
    exact eround (fun k => by rw [laws_eqTallyS.l0]) (eneg (by omega) (enow rfl))
  | succ d ih =>
    intro i hi
    have hlt : i < xs.length := by omega
    refine eround (fun k => by rw [laws_eqTallyS.l0]) (epos (by omega) (epos (by omega) (epos (by omega) ?_)))
    refine enb (laws_eqTally_r _ _ _) (epos rfl ?_)
    rw [w64 (by omega) (by omega)]
    exact ih (i + 1) (by omega)
theorem laws_eqTallyS_r (xs : List S68) (hs : xs.length ≤ 1048576) : Ev (fun k => laws_eqTallyS.f k xs xs) true := by
  unfold laws_eqTallyS.f
  exact epos rfl (laws_eqTallyS_lr xs hs xs.length 0 (by omega))
/-! laws_markTallyS -/
theorem laws_markTallyS_o : ∀ (d i : Nat) (xs : List S68) (m : Int), i + d = xs.length → xs.length ≤ 1048576 → 0 ≤ m → m ≤ 4611686018427387904 - 3 * d → ∃ ys : List S68, Ev (fun k => laws_markTallyS.l0 k xs m (i : Int)) (m + 3 * d, ys) := by
  intro d
  induction d with
  | zero =>
    intro i xs m hi hn h0 h1
    exact ⟨xs, eround (fun k => by rw [laws_markTallyS.l0]) (eneg (by omega) (enow (by simp)))⟩
  | succ d ih =>
    intro i xs m hi hn h0 h1
    have w1 : wrap64 ((i : Int) + 1) = ((i + 1 : Nat) : Int) := by rw [w64 (by omega) (by omega)]; rfl
    have v0 : wrap64 (m + 1) = m + 1 := w64 (by omega) (by omega)
    have v1 : wrap64 (m + 1 + 1) = m + 2 := by rw [w64 (by omega) (by omega)]; omega
    have v2 : wrap64 (m + 2 + 1) = m + 3 := by rw [w64 (by omega) (by omega)]; omega
    have hr : ∃ zs : List S68, zs.length = xs.length ∧ ∀ r, Ev (fun k => laws_markTallyS.l0 k zs (m + 3) ((i + 1 : Nat) : Int)) r → Ev (fun k => laws_markTallyS.l0 k xs m (i : Int)) r := by
      apply Exists.intro
      apply And.intro
      rotate_left
      · intro r hz
        refine eround (fun k => by rw [laws_markTallyS.l0]) (epos (by omega) ?_)
        try simp only [w1, v0, v1, v2]
        refine epos (by omega) ?_
        refine enb rfl ?_
        refine enb rfl ?_
        refine enb rfl ?_
        try simp only [w1, v0, v1, v2]
        exact hz
      · simp
    obtain ⟨zs, hz, hr⟩ := hr
    obtain ⟨ys, hy⟩ := ih (i + 1) zs (m + 3) (by omega) (by omega) (by omega) (by push_cast at h1; omega)
    refine ⟨ys, hr _ ?_⟩
    rw [show m + 3 * ((d + 1 : Nat) : Int) = m + 3 + 3 * (d : Int) by push_cast; omega]
    exact hy
theorem laws_markTallyS_m (xs : List S68) (m : Int) (hn : xs.length ≤ 1048576) (h0 : 0 ≤ m) (h1 : m ≤ 4611686018427387904 - 3 * xs.length) : ∃ ys : List S68, Ev (fun k => laws_markTallyS.f k xs m) (m + 3 * xs.length, ys) :=
  laws_markTallyS_o xs.length 0 xs m (by omega) hn h0 h1
def inR (lo hi x : Int) : Bool := decide (x ≥ lo) && decide (x ≤ hi)
theorem inR_iff {lo hi x : Int} : inR lo hi x = true ↔ lo ≤ x ∧ x ≤ hi := by simp [inR]
theorem l1In_eq (a lo hi : Int) : spec_l1In.f a lo hi = some (inR lo hi a) := by
  unfold spec_l1In.f inR
  by_cases h : a ≥ lo <;> simp [h]
theorem within_eq (a lo hi : Int) : impl_within.f a lo hi = some (inR lo hi a) := by
  unfold impl_within.f inR
  by_cases h : a ≥ lo <;> simp [h]
/-- all elements, each with its place, from place i on -/
def allI {α : Type} (p : Nat → α → Bool) : Nat → List α → Bool
  | _, [] => true
  | i, x :: xs => p i x && allI p (i + 1) xs
theorem allI_congr {α : Type} {p q : Nat → α → Bool} : ∀ (xs : List α) (i : Nat), (∀ j x, i ≤ j → j < i + xs.length → p j x = q j x) → allI p i xs = allI q i xs
  | [], _, _ => rfl
  | x :: xs, i, h => by
    simp only [allI]
    rw [h i x (Nat.le_refl _) (by simp), allI_congr xs (i + 1) (fun j y h1 h2 => h j y (by omega) (by simp only [List.length_cons]; omega))]
def tallyAt (i : Nat) (x : S68) : Bool := decide (x.f0 = (i : Int)) && (inR 0 100 x.f1 && inR 0 100 x.f2)
def tallyAt' (i : Nat) (x : S68) : Bool := (inR 0 11 x.f0 && (inR 0 100 x.f1 && inR 0 100 x.f2)) && decide (x.f0 = (i : Int))
def goodT (xs : List S68) : Bool := allI tallyAt 0 xs && inR 1 12 (xs.length : Int)
theorem l14Tally_eq (x : S68) (i : Nat) : spec_l14Tally.f x.f0 x.f1 x.f2 (i : Int) = some (tallyAt i x) := by
  unfold spec_l14Tally.f tallyAt
  rw [l1In_eq, l1In_eq]
  by_cases h : x.f0 = (i : Int) <;> cases h1 : inR 0 100 x.f1 <;> simp [h]
theorem isTally_eq (x : S68) : impl_isTally.f x.f0 x.f1 x.f2 = some (inR 0 11 x.f0 && (inR 0 100 x.f1 && inR 0 100 x.f2)) := by
  unfold impl_isTally.f
  rw [within_eq, within_eq, within_eq]
  cases h : inR 0 11 x.f0 <;> cases h1 : inR 0 100 x.f1 <;> simp
theorem specGT_l (xs : List S68) (hn : xs.length ≤ 1048576) : ∀ (d i : Nat), i + d = xs.length → Ev (fun k => spec_GoodTallies.l0 k xs xs (xs.length : Int) (i : Int)) (allI tallyAt i (xs.drop i) && inR 1 12 (xs.length : Int)) := by
  intro d
  induction d with
  | zero =>
    intro i hi
    refine eround (fun k => by rw [spec_GoodTallies.l0]) (eneg (by omega) (enb (l1In_eq _ _ _) (enow ?_)))
    rw [List.drop_eq_nil_of_le (by omega)]; rfl
  | succ d ih =>
    intro i hi
    have hlt : i < xs.length := by omega
    refine eround (fun k => by rw [spec_GoodTallies.l0]) (epos (by omega) (epos (by omega) (epos (by omega) ?_)))
    rw [show rd_T68 xs (i : Int) = xs[i] from getD_get xs i _ hlt, List.drop_eq_getElem_cons hlt]
    refine enb (l14Tally_eq _ _) ?_
    simp only [allI]
    cases h : tallyAt i xs[i] with
    | true =>
      refine epos rfl ?_
      rw [w64 (by omega) (by omega), Bool.true_and]
      exact ih (i + 1) (by omega)
    | false => exact eneg (by simp) (enow (by simp))
theorem implGT_l (xs : List S68) (hn : xs.length ≤ 1048576) : ∀ (d i : Nat), i + d = xs.length → Ev (fun k => impl_GoodTallies.l0 k xs xs (xs.length : Int) (i : Int)) (allI tallyAt' i (xs.drop i) && inR 1 12 (xs.length : Int)) := by
  intro d
  induction d with
  | zero =>
    intro i hi
    refine eround (fun k => by rw [impl_GoodTallies.l0]) (eneg (by omega) (enb (within_eq _ _ _) (enow ?_)))
    rw [List.drop_eq_nil_of_le (by omega)]; rfl
  | succ d ih =>
    intro i hi
    have hlt : i < xs.length := by omega
    refine eround (fun k => by rw [impl_GoodTallies.l0]) (epos (by omega) (epos (by omega) (epos (by omega) ?_)))
    rw [show rd_T68 xs (i : Int) = xs[i] from getD_get xs i _ hlt, List.drop_eq_getElem_cons hlt]
    refine enb (isTally_eq _) ?_
    simp only [allI, tallyAt']
    cases h : inR 0 11 xs[i].f0 && (inR 0 100 xs[i].f1 && inR 0 100 xs[i].f2) with
    | true =>
      refine epos rfl ?_
      by_cases h2 : xs[i].f0 = (i : Int)
      · refine epos h2 ?_
        rw [w64 (by omega) (by omega)]
        simp only [h2, decide_true, Bool.true_and]
        exact ih (i + 1) (by omega)
      · exact eneg h2 (enow (by simp [h2]))
    | false => exact eneg (by simp) (enow (by simp))
theorem specGT_e (xs : List S68) (hn : xs.length ≤ 1048576) : Ev (fun k => spec_GoodTallies.f k xs) (goodT xs) := specGT_l xs hn xs.length 0 (by omega)
theorem implGT_e (xs : List S68) (hn : xs.length ≤ 1048576) : Ev (fun k => impl_GoodTallies.f k xs) (goodT xs) := by
  have h := implGT_l xs hn xs.length 0 (by omega)
  have e : goodT xs = (allI tallyAt' 0 (xs.drop 0) && inR 1 12 (xs.length : Int)) := by
    unfold goodT
    cases hl : inR 1 12 (xs.length : Int) with
    | false => simp
    | true =>
      rw [inR_iff] at hl
      rw [Bool.and_true, Bool.and_true, List.drop_zero]
      refine allI_congr xs 0 (fun j x h1 h2 => ?_)
      unfold tallyAt tallyAt'
      by_cases h3 : x.f0 = (j : Int)
      · have : inR 0 11 x.f0 = true := by rw [inR_iff]; omega
        simp [h3] at this ⊢
        simp [this]
      · simp [h3]
  rw [e]
  exact h
def sc (T : List S68) (a : Int) : Int := (impl_score.f (rd_T68 T a).f0 (rd_T68 T a).f1 (rd_T68 T a).f2).getD 0
def fineT (T : List S68) : Prop := T.length ≤ 12 ∧ ∀ x ∈ T, 0 ≤ x.f1 ∧ x.f1 ≤ 100 ∧ 0 ≤ x.f2 ∧ x.f2 ≤ 100
theorem allI_all {α : Type} {p : Nat → α → Bool} {q : α → Prop} (hq : ∀ i x, p i x = true → q x) : ∀ (xs : List α) (i : Nat), allI p i xs = true → ∀ x ∈ xs, q x
  | [], _, _, x, hx => by simp at hx
  | y :: ys, i, h, x, hx => by
    simp only [allI, Bool.and_eq_true] at h
    rcases List.mem_cons.1 hx with rfl | hx
    · exact hq i _ h.1
    · exact allI_all hq ys (i + 1) h.2 x hx
theorem goodT_fine {T : List S68} (h : goodT T = true) : fineT T ∧ 1 ≤ T.length := by
  unfold goodT at h
  rw [Bool.and_eq_true, inR_iff] at h
  refine ⟨⟨by omega, allI_all (fun i x hp => ?_) T 0 h.1⟩, by omega⟩
  simp only [tallyAt, Bool.and_eq_true, inR_iff] at hp
  omega
theorem rdT_mem (T : List S68) (a : Int) (h0 : 0 ≤ a) (h1 : a < T.length) : rd_T68 T a ∈ T := by
  obtain ⟨i, rfl⟩ := Int.eq_ofNat_of_zero_le h0
  have hlt : i < T.length := by omega
  rw [show rd_T68 T (i : Int) = T[i] from getD_get _ i _ hlt]
  exact List.getElem_mem hlt
theorem score_i {T : List S68} (h : fineT T) (a : Int) (h0 : 0 ≤ a) (h1 : a < T.length) : impl_score.f (rd_T68 T a).f0 (rd_T68 T a).f1 (rd_T68 T a).f2 = some (sc T a) := by
  have := h.2 _ (rdT_mem T a h0 h1)
  unfold sc
  generalize rd_T68 T a = x at this
  have e : wrap64 (wrap64 (x.f1 + x.f2) + 2) ≠ 0 := by rw [w64 (x := x.f1 + x.f2) (by omega) (by omega), w64 (by omega) (by omega)]; omega
  unfold impl_score.f
  rw [if_neg e]; rfl
theorem score_s {T : List S68} (h : fineT T) (a : Int) (h0 : 0 ≤ a) (h1 : a < T.length) : spec_l14Score.f (rd_T68 T a).f0 (rd_T68 T a).f1 (rd_T68 T a).f2 = some (sc T a) := score_i h a h0 h1
/-! a hand is put to its place, from the left -/
def insL (s : Int → Int) (h : Int) : List Int → List Int
  | [] => [h]
  | x :: r => if s x ≥ s h then x :: insL s h r else h :: x :: r
theorem insL_mem (s : Int → Int) (h : Int) : ∀ (l : List Int) (x : Int), x ∈ insL s h l ↔ x = h ∨ x ∈ l
  | [], x => by simp [insL]
  | y :: r, x => by
    unfold insL
    split
    · simp only [List.mem_cons, insL_mem s h r x]
      exact ⟨fun z => by rcases z with z | z | z <;> simp [z], fun z => by rcases z with z | z | z <;> simp [z]⟩
    · simp only [List.mem_cons]
theorem insL_len (s : Int → Int) (h : Int) : ∀ (l : List Int), (insL s h l).length = l.length + 1
  | [] => rfl
  | y :: r => by
    unfold insL
    split
    · simp [insL_len s h r]
    · rfl
theorem insL_pre (s : Int → Int) (h : Int) : ∀ (A B : List Int), (∀ x ∈ A, s x ≥ s h) → insL s h (A ++ B) = A ++ insL s h B
  | [], _, _ => rfl
  | a :: A, B, H => by
    rw [List.cons_append, insL, if_pos (H a (by simp)), insL_pre s h A B (fun x hx => H x (by simp [hx]))]; rfl
def fallsS (s : Int → Int) (l : List Int) : Prop := l.Pairwise (fun a b => s a ≥ s b)
theorem insL_falls (s : Int → Int) (h : Int) : ∀ (l : List Int), fallsS s l → fallsS s (insL s h l)
  | [], _ => by simp [insL, fallsS]
  | y :: r, H => by
    unfold fallsS at H
    rw [List.pairwise_cons] at H
    unfold insL
    split
    · rename_i c
      unfold fallsS
      rw [List.pairwise_cons]
      refine ⟨fun x hx => ?_, insL_falls s h r H.2⟩
      rcases (insL_mem s h r x).1 hx with rfl | hx
      · exact c
      · exact H.1 x hx
    · rename_i c
      unfold fallsS
      rw [List.pairwise_cons, List.pairwise_cons]
      refine ⟨fun x hx => ?_, H⟩
      rcases List.mem_cons.1 hx with rfl | hx
      · omega
      · have := H.1 x hx; omega
def ranks (s : Int → Int) : Nat → List Int
  | 0 => []
  | n + 1 => insL s (n : Int) (ranks s n)
theorem ranks_len (s : Int → Int) : ∀ n, (ranks s n).length = n
  | 0 => rfl
  | n + 1 => by rw [ranks, insL_len, ranks_len s n]
theorem ranks_mem (s : Int → Int) : ∀ n x, x ∈ ranks s n ↔ 0 ≤ x ∧ x < (n : Int)
  | 0, x => ⟨fun h => by simp [ranks] at h, fun h => by omega⟩
  | n + 1, x => by rw [ranks, insL_mem, ranks_mem s n x]; omega
theorem ranks_falls (s : Int → Int) : ∀ n, fallsS s (ranks s n)
  | 0 => List.Pairwise.nil
  | n + 1 => insL_falls s _ _ (ranks_falls s n)
/-! the reference -/
theorem rd_mid (A : List Int) (h : Int) (Y : List Int) : rd (A ++ h :: Y) (A.length : Int) = h := by
  rw [rd_get _ _ (by simp)]; simp
theorem specRk_l1 {T : List S68} (hT : fineT T) (out : List Int) (hr : ∀ x ∈ out, 0 ≤ x ∧ x < (T.length : Int)) (hn : out.length ≤ 12) (h : Nat) (hh : h < T.length) (R : List Int) : ∀ (B A : List Int), out = A ++ B →
    Ev (fun k => spec_l14Rank.l0 k T (A ++ insL (sc T) (h : Int) B) T (T.length : Int) (wrap64 ((h : Int) + 1))) R →
    Ev (fun k => spec_l14Rank.l1 k T out (h : Int) (A.length : Int) T (T.length : Int) (h : Int) (rd_T68 T (h : Int)).f0 (rd_T68 T (h : Int)).f1 (rd_T68 T (h : Int)).f2) R := by
  intro B
  induction B with
  | nil =>
    intro A ho H
    have hA : A.length = out.length := by rw [ho]; simp
    refine eround (fun k => by rw [spec_l14Rank.l1]) (eneg (by omega) ?_)
    refine enb rfl ?_
    refine epos (by omega) (epos (by omega) ?_)
    refine enb rfl ?_
    have e : out.take ((A.length : Int)).toNat = A := by rw [ho]; simp
    have e2 : out.drop ((A.length : Int)).toNat = [] := by rw [ho]; simp
    rw [e]
    refine epos (by simp; omega) ?_
    refine enb rfl ?_
    refine epos (by simp; omega) ?_
    refine enb rfl ?_
    refine enb rfl ?_
    rw [e2]
    refine epos (by simp; omega) ?_
    simpa [insL] using H
  | cons x r ih =>
    intro A ho H
    have hx := hr x (by rw [ho]; simp)
    have hA : A.length + (r.length + 1) = out.length := by rw [ho]; simp
    refine eround (fun k => by rw [spec_l14Rank.l1]) (epos (by omega) (epos (by omega) ?_))
    rw [show rd out (A.length : Int) = x by rw [ho]; exact rd_mid A x r]
    refine epos hx.1 (epos hx.2 ?_)
    refine enb (score_s hT x hx.1 hx.2) ?_
    refine enb (score_s hT (h : Int) (by omega) (by omega)) ?_
    by_cases c : sc T x ≥ sc T (h : Int)
    · refine epos c ?_
      rw [w64 (by omega) (by omega)]
      have := ih (A ++ [x]) (by rw [ho]; simp) (by simpa [insL, c] using H)
      simpa using this
    · have e : out.take ((A.length : Int)).toNat = A := by rw [ho]; simp
      have e2 : out.drop ((A.length : Int)).toNat = x :: r := by rw [ho]; simp
      refine eneg c ?_
      refine enb rfl ?_
      refine epos (by omega) ?_
      refine enb rfl ?_
      rw [e]
      refine epos (by simp; omega) ?_
      refine enb rfl ?_
      refine epos (by simp; omega) ?_
      refine enb rfl ?_
      refine enb rfl ?_
      rw [e2]
      refine epos (by simp; omega) ?_
      simpa [insL, c] using H
theorem specRk_l0 {T : List S68} (hT : fineT T) : ∀ (d i : Nat), i + d = T.length → Ev (fun k => spec_l14Rank.l0 k T (ranks (sc T) i) T (T.length : Int) (i : Int)) (ranks (sc T) T.length) := by
  have h12 := hT.1
  intro d
  induction d with
  | zero =>
    intro i hi
    obtain rfl : i = T.length := by omega
    exact eround (fun k => by rw [spec_l14Rank.l0]) (eneg (by omega) (enow rfl))
  | succ d ih =>
    intro i hi
    refine eround (fun k => by rw [spec_l14Rank.l0]) (epos (by omega) (epos (by omega) (epos (by omega) ?_)))
    refine specRk_l1 hT (ranks (sc T) i) (fun x hx => by have := (ranks_mem (sc T) i x).1 hx; omega) (by rw [ranks_len]; omega) i (by omega) _ (ranks (sc T) i) [] (by simp) ?_
    rw [w64 (by omega) (by omega)]
    exact ih (i + 1) (by omega)
theorem specRk_e {T : List S68} (hT : fineT T) : Ev (fun k => spec_l14Rank.f k T) (ranks (sc T) T.length) := specRk_l0 hT T.length 0 (by omega)
/-! the program: each hand goes down from the right -/
def insR (s : Int → Int) (h : Int) : List Int → List Int → List Int
  | [], B => h :: B
  | a :: r, B => if s a < s h then insR s h r (a :: B) else (a :: r).reverse ++ h :: B
theorem insL_low (s : Int → Int) (h : Int) (B : List Int) (hB : ∀ b ∈ B, s b < s h) : insL s h B = h :: B := by
  cases B with
  | nil => rfl
  | cons b r => rw [insL, if_neg (by have := hB b (by simp); omega)]
theorem insR_insL (s : Int → Int) (h : Int) : ∀ (ra B : List Int), (∀ b ∈ B, s b < s h) → fallsS s (ra.reverse ++ B) → insR s h ra B = insL s h (ra.reverse ++ B)
  | [], B, hB, _ => by simp [insR, insL_low s h B hB]
  | a :: r, B, hB, H => by
    unfold insR
    by_cases c : s a < s h
    · rw [if_pos c, insR_insL s h r (a :: B) (fun b hb => by rcases List.mem_cons.1 hb with rfl | hb; exact c; exact hB b hb) (by simpa using H)]
      simp
    · rw [if_neg c, insL_pre s h _ B (fun x hx => ?_), insL_low s h B hB]
      rw [List.reverse_cons, List.append_assoc] at H
      unfold fallsS at H
      rw [List.pairwise_append] at H
      rcases List.mem_cons.1 (List.mem_reverse.1 hx) with rfl | hx
      · omega
      · have := H.2.2 x (by simpa using hx) a (by simp); omega
theorem swap_mid (A : List Int) (a h : Int) (Y : List Int) : ((A ++ a :: h :: Y).set (A.length + 1) a).set A.length h = A ++ h :: a :: Y := by
  rw [List.set_append_right _ _ (by omega), List.set_append_right _ _ (by omega)]
  simp
theorem cmp_e {T : List S68} (hT : fineT T) (a b : Int) (ha : 0 ≤ a ∧ a < (T.length : Int)) (hb : 0 ≤ b ∧ b < (T.length : Int)) : ∃ c, impl_ranked_1.f a b T = some c ∧ (c < 0 ↔ sc T b < sc T a) := by
  unfold impl_ranked_1.f
  rw [if_pos hb.1, if_pos hb.2, score_i hT b hb.1 hb.2, Option.bind_some, if_pos ha.1, if_pos ha.2, score_i hT a ha.1 ha.2, Option.bind_some]
  simp only [cmp_Compare_int.f, cmp_isNaN_int.f]
  by_cases h1 : sc T b < sc T a
  · exact ⟨-1, by simp [h1], by simp [h1]⟩
  · by_cases h2 : sc T b > sc T a
    · exact ⟨1, by simp [h1, h2], by simp [h1]⟩
    · exact ⟨0, by simp [h1, h2], by simp [h1]⟩
theorem implIn_l1 {T : List S68} (hT : fineT T) (n i h : Int) (hh : 0 ≤ h ∧ h < (T.length : Int)) (C : List Int) (R : List Int) : ∀ (ra B : List Int), (∀ x ∈ ra, 0 ≤ x ∧ x < (T.length : Int)) → ra.length + (B ++ C).length ≤ 12 →
    Ev (fun k => slices_insertionSortCmpFunc_158_at_141_50.l0 k (insR (sc T) h ra B ++ C) 0 n (wrap64 (i + 1)) T) R →
    Ev (fun k => slices_insertionSortCmpFunc_158_at_141_50.l1 k (ra.reverse ++ h :: (B ++ C)) 0 n i (ra.length : Int) T) R := by
  intro ra
  induction ra with
  | nil =>
    intro B _ _ H
    exact eround (fun k => by rw [slices_insertionSortCmpFunc_158_at_141_50.l1]) (eneg (by simp) (by simpa [insR] using H))
  | cons a r ih =>
    intro B hr hl H
    have ha := hr a (by simp)
    simp only [List.length_cons] at hl
    have e1 : wrap64 (((a :: r).length : Int) - 1) = (r.length : Int) := by rw [List.length_cons, w64 (by push_cast; omega) (by push_cast; omega)]; push_cast; omega
    have e2 : (a :: r).reverse ++ h :: (B ++ C) = r.reverse ++ a :: h :: (B ++ C) := by simp
    have r1 : rd (r.reverse ++ a :: h :: (B ++ C)) ((a :: r).length : Int) = h := by
      have := rd_mid (r.reverse ++ [a]) h (B ++ C)
      simpa using this
    have r2 : rd (r.reverse ++ a :: h :: (B ++ C)) (r.length : Int) = a := by
      have := rd_mid r.reverse a (h :: (B ++ C))
      simpa using this
    have hL : (r.reverse ++ a :: h :: (B ++ C)).length = r.length + 2 + (B ++ C).length := by simp; omega
    refine eround (fun k => by rw [slices_insertionSortCmpFunc_158_at_141_50.l1]) ?_
    rw [e1, e2, r1, r2]
    refine epos (by rw [List.length_cons]; omega) (epos (by omega) (epos (by rw [hL, List.length_cons]; omega) (epos (by omega) (epos (by rw [hL]; omega) ?_))))
    obtain ⟨c, c1, c2⟩ := cmp_e hT h a hh ha
    refine enb c1 ?_
    by_cases hc : sc T a < sc T h
    · refine epos (c2.2 hc) ?_
      have e3 : ((r.reverse ++ a :: h :: (B ++ C)).set (((a :: r).length : Int)).toNat a).set ((r.length : Int)).toNat h = r.reverse ++ h :: ((a :: B) ++ C) := by
        have := swap_mid r.reverse a h (B ++ C)
        rw [List.length_reverse] at this
        exact this
      rw [e3]
      refine ih (a :: B) (fun x hx => hr x (by simp [hx])) (by simp at hl ⊢; omega) ?_
      simpa [insR, hc] using H
    · refine eneg (fun z => hc (c2.1 z)) ?_
      rw [← e2]
      simpa [insR, hc] using H
theorem implIn_l0 {T : List S68} (hT : fineT T) : ∀ (d i : Nat), i + d = T.length → Ev (fun k => slices_insertionSortCmpFunc_158_at_141_50.l0 k (ranks (sc T) i ++ ((List.range T.length).drop i).map (fun (x : Nat) => (x : Int))) 0 (T.length : Int) (i : Int) T) (ranks (sc T) T.length) := by
  have h12 := hT.1
  intro d
  induction d with
  | zero =>
    intro i hi
    obtain rfl : i = T.length := by omega
    refine eround (fun k => by rw [slices_insertionSortCmpFunc_158_at_141_50.l0]) (eneg (by omega) (enow ?_))
    rw [List.drop_eq_nil_of_le (by simp)]; simp
  | succ d ih =>
    intro i hi
    have hlt : i < (List.range T.length).length := by simp; omega
    have hI := ih (i + 1) (by omega)
    rw [List.drop_eq_getElem_cons hlt, List.getElem_range, List.map_cons]
    generalize hC : ((List.range T.length).drop (i + 1)).map (fun (x : Nat) => (x : Int)) = C at hI
    have hCl : C.length = T.length - (i + 1) := by rw [← hC]; simp
    refine eround (fun k => by rw [slices_insertionSortCmpFunc_158_at_141_50.l0]) (epos (by omega) ?_)
    have := implIn_l1 hT (T.length : Int) (i : Int) (i : Int) ⟨by omega, by omega⟩ C (ranks (sc T) T.length) (ranks (sc T) i).reverse [] (fun x hx => by have := (ranks_mem (sc T) i x).1 (by simpa using hx); omega) (by simp [ranks_len, hCl]; omega) (by
      rw [insR_insL _ _ _ _ (by simp) (by simpa using ranks_falls (sc T) i), w64 (by omega) (by omega)]
      simpa [ranks] using hI)
    simpa [ranks_len] using this
theorem implSort_e {T : List S68} (hT : fineT T) (h1 : 1 ≤ T.length) : Ev (fun k => slices_SortStableFunc_140_at_141_50.f k ((List.range T.length).map (fun (x : Nat) => (x : Int))) T) (ranks (sc T) T.length) := by
  have h12 := hT.1
  unfold slices_SortStableFunc_140_at_141_50.f slices_stableCmpFunc_152_at_141_50.f
  have hs := implIn_l0 hT (T.length - 1) 1 (by omega)
  rw [show ranks (sc T) 1 ++ ((List.range T.length).drop 1).map (fun (x : Nat) => (x : Int)) = (List.range T.length).map (fun (x : Nat) => (x : Int)) by
    rw [show ranks (sc T) 1 = [0] from rfl]
    obtain ⟨m, hm⟩ : ∃ m, T.length = m + 1 := ⟨T.length - 1, by omega⟩
    rw [hm, List.range_succ_eq_map]; simp] at hs
  refine ebind (f := fun _ t => some t) ?_ (enow rfl)
  simp only [List.length_map, List.length_range]
  refine eround (fun k => by rw [slices_stableCmpFunc_152_at_141_50.l0]) (eneg (by omega) (ebind (a := ranks (sc T) T.length) ?_ ?_))
  · unfold slices_insertionSortCmpFunc_158_at_141_50.f
    rw [w64 (by omega) (by omega)]
    exact hs
  · exact eround (fun k => by rw [slices_stableCmpFunc_152_at_141_50.l1]) (eneg (by omega) (enow rfl))
theorem implRk_l {T : List S68} (hT : fineT T) (h1 : 1 ≤ T.length) : ∀ (d i : Nat), i + d = T.length → Ev (fun k => impl_ranked.l0 k ((List.range i).map (fun (x : Nat) => (x : Int))) (T.length : Int) (i : Int) T) (ranks (sc T) T.length) := by
  have h12 := hT.1
  intro d
  induction d with
  | zero =>
    intro i hi
    obtain rfl : i = T.length := by omega
    exact eround (fun k => by rw [impl_ranked.l0]) (eneg (by omega) (ebind (f := fun _ t => some t) (implSort_e hT h1) (enow rfl)))
  | succ d ih =>
    intro i hi
    refine eround (fun k => by rw [impl_ranked.l0]) (epos (by omega) (epos (by simp; omega) ?_))
    rw [w64 (by omega) (by omega)]
    have := ih (i + 1) (by omega)
    rw [List.range_succ, List.map_append] at this
    exact this
theorem implRk_e {T : List S68} (hT : fineT T) (h1 : 1 ≤ T.length) : Ev (fun k => impl_ranked.f k T) (ranks (sc T) T.length) := implRk_l hT h1 T.length 0 (by omega)
def rankR (T : List S68) : List Int × Bool := if goodT T then (ranks (sc T) T.length, true) else ([], false)
theorem rankR_len (T : List S68) : (rankR T).1.length ≤ 1048576 := by
  unfold rankR
  split
  · rename_i g
    have := (goodT_fine g).1.1
    simp only [ranks_len]; omega
  · simp
theorem specRH_e (T : List S68) (hn : T.length ≤ 1048576) : Ev (fun k => spec_RankHands.f k T) (rankR T) := by
  unfold spec_RankHands.f rankR
  refine ebind (specGT_e T hn) ?_
  cases g : goodT T with
  | false => exact eneg (by decide) (enow (by simp))
  | true => exact epos rfl (ebind (specRk_e (goodT_fine g).1) (enow (by simp)))
theorem implRH_e (T : List S68) (hn : T.length ≤ 1048576) : Ev (fun k => impl_RankHands.f k T) (rankR T) := by
  unfold impl_RankHands.f rankR
  refine ebind (implGT_e T hn) ?_
  cases g : goodT T with
  | false => exact eneg (by decide) (enow (by simp))
  | true => exact epos rfl (ebind (implRk_e (goodT_fine g).1 (goodT_fine g).2) (enow (by simp)))
theorem szTally_e (xs : List S113) (left : Int) (h0 : 0 ≤ left) (h1 : left ≤ 1048576) (hm : xs.length ≤ 9223372036854775807) : laws_szTallyS.f xs left = some (if left < xs.length then -1 else left - xs.length) := by
  unfold laws_szTallyS.f
  rw [w64 (by omega) (by omega)]
  by_cases h : left < (xs.length : Int)
  · rw [if_pos (by omega), if_pos h]
  · rw [if_neg (by omega), if_neg h]
theorem FnExactRankHands : laws_FnExactRankHands.Pure := by
  intro l h
  apply Ev.rounds
  unfold laws_FnExactRankHands.f
  refine enb (szTally_e l 1048576 (by omega) (by omega) h.1) ?_
  by_cases hl : (1048576 : Int) < l.length
  · exact epos (by simp [hl]) (enow rfl)
  · refine eneg (by simp [hl]; omega) ?_
    have hs : l.length ≤ 1048576 := by omega
    have e1 := laws_toTallyS_e l hs
    generalize hx : (l.map fun x => (⟨x.f0, x.f1, x.f2⟩ : S68)) = T at e1
    have hT : T.length ≤ 1048576 := by rw [← hx]; simpa using hs
    have e2 := specRH_e T hT
    have e3 := implRH_e T hT
    have hR := rankR_len T
    have e4 := laws_eqIntS_r _ hR
    have e5 := laws_eqTallyS_r T hT
    obtain ⟨_, q1⟩ := laws_markTallyS_m T 1 hT (by omega) (by omega)
    obtain ⟨_, _, q3, q4⟩ := laws_markIntS_m (rankR T).1 1 hR (by omega) (by omega)
    repeat' first
      | exact enow rfl
      | (with_reducible refine ebind e1 ?_)
      | (with_reducible refine ebind e2 ?_)
      | (with_reducible refine ebind e3 ?_)
      | (with_reducible refine ebind e4 ?_)
      | (with_reducible refine ebind e5 ?_)
      | (with_reducible refine ebind q1 ?_)
      | (with_reducible refine ebind q3 ?_)
      | (with_reducible refine ebind q4 ?_)
      | (with_reducible refine enb (laws_toTally_e _ _ _) ?_)
      | (with_reducible refine eround (fun k => laws_FnExactRankHands.j0.eq_2 _ _ _ _ _ _ _ _) ?_)
      | (with_reducible refine eround (fun k => laws_FnExactRankHands.j1.eq_2 _ _ _ _ _ _) ?_)
      | (with_reducible refine eround (fun k => laws_FnExactRankHands.j2.eq_2 _ _ _ _) ?_)
      | (with_reducible refine enb rfl ?_)
      | (with_reducible refine epos rfl ?_)
      | (refine eneg ?_ ?_; focus (first | omega | (dsimp only; omega) | (simp; done) | (simp; omega)))

end Go.Proofs.Ytpibdgknmjjolaa.Pure
