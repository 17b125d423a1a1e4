/- The law FnExactPlayNumbers, told over lists: the program's PlayNumbers and the reference's answer alike; nothing is written into an argument. No condition. -/
import Derived.Test.YtmapmbgjjnlggaaQFnExactPlayNumbersx4
import Derived.Test.YtmapmbgjjnlggaaPk
namespace Go.Proofs.Ytmapmbgjjnlggaa.Pure
open Go.RowKit Go.Proofs.Ytmapmbgjjnlggaa.QFnExactPlayNumbers Go.Proofs.YtmapmbgjjnlggaaW.PrintWords Go.Proofs.YtmapmbgjjnlggaaW.PrintLast Go.Proofs.YtmapmbgjjnlggaaW.PrintMore Go.Proofs.Ytmapmbgjjnlggaa
set_option linter.unusedVariables false
set_option linter.unusedSimpArgs false

open Pk
/-! laws_toIntS -/
theorem laws_toIntS_l (xs : List Int) (hs : xs.length ≤ 1048576) : ∀ (d i : Nat) (acc : List Int), i + d = xs.length → acc.length = xs.length → acc.take i = xs.take i → Ev (fun k => laws_toIntS.l0 k xs acc (i : Int)) xs := by
  have hn := hs
  intro d
  induction d with
  | zero =>
    intro i acc hi hl ht
    refine eround (fun k => by rw [laws_toIntS.l0]) (eneg (by omega) (enow ?_))
    rwa [List.take_of_length_le (by omega), List.take_of_length_le (by first | omega | (simp; omega))] at ht
  | succ d ih =>
    intro i acc hi hl ht
    have hlt : i < xs.length := by omega
    refine eround (fun k => by rw [laws_toIntS.l0]) (epos (by omega) (epos (by omega) ?_))
    refine epos (by omega) ?_
    rw [w64 (by omega) (by omega)]
    refine ih (i + 1) _ (by omega) (by simpa using hl) ?_
    exact take_set_succ _ _ rfl (by first | exact hlt | (simp; omega)) (by first | exact hl | simpa using hl) ht (by first | exact (getD_get xs i _ hlt).symm | (simp only [List.getElem_map]; rw [← getD_get xs i _ hlt]; rfl))
theorem laws_toIntS_e (xs : List Int) (hs : xs.length ≤ 1048576) : Ev (fun k => laws_toIntS.f k xs) xs := by
  have hn := hs
  unfold laws_toIntS.f
  exact epos (by omega) (epos (by omega) (laws_toIntS_l xs hs xs.length 0 _ (by omega) (by simp) (by simp)))
/-! laws_eqIntS -/
theorem laws_eqIntS_lr (xs : List Int) (hs : xs.length ≤ 1048576) : ∀ (d i : Nat), i + d = xs.length → Ev (fun k => laws_eqIntS.l0 k xs xs (i : Int)) true := by
  have hn := hs
  intro d
  induction d with
  | zero =>
    intro i hi
    exact eround (fun k => by rw [laws_eqIntS.l0]) (eneg (by omega) (enow rfl))
  | succ d ih =>
    intro i hi
    have hlt : i < xs.length := by omega
    refine eround (fun k => by rw [laws_eqIntS.l0]) (epos (by omega) (epos (by omega) (epos (by omega) ?_)))
    first | refine epos rfl ?_ | (refine eneg ?_ ?_; focus (simp; done))
    rw [w64 (by omega) (by omega)]
    exact ih (i + 1) (by omega)
theorem laws_eqIntS_r (xs : List Int) (hs : xs.length ≤ 1048576) : Ev (fun k => laws_eqIntS.f k xs xs) true := by
  unfold laws_eqIntS.f
  exact epos rfl (laws_eqIntS_lr xs hs xs.length 0 (by omega))
/-! laws_eqWindow -/
theorem laws_eqWindow_r (a0_0 : Int) (a0_1 : Int) : laws_eqWindow.f a0_0 a0_1 a0_0 a0_1 = some true := by
  unfold laws_eqWindow.f
  simp
/-! laws_markIntS -/
theorem laws_markIntS_h : ∀ (d i : Nat) (xs : List Int) (m : Int), i + d = xs.length → xs.length ≤ 1048576 → 0 ≤ m → m ≤ 4611686018427387904 - 1 * d → ∃ ys : List Int, ys.length = xs.length ∧ ys.take i = xs.take i ∧
    Ev (fun k => laws_markIntS.l0 k xs m (i : Int)) (m + 1 * d, ys) ∧ Ev (fun k => laws_heldIntS.l0 k ys m (i : Int)) (m + 1 * d) := by
  intro d
  induction d with
  | zero =>
    intro i xs m hi hn h0 h1
    exact ⟨xs, rfl, rfl, eround (fun k => by rw [laws_markIntS.l0]) (eneg (by omega) (enow (by simp))), eround (fun k => by rw [laws_heldIntS.l0]) (eneg (by omega) (enow (by simp)))⟩
  | succ d ih =>
    intro i xs m hi hn h0 h1
    have hlt : i < xs.length := by omega
    have w1 : wrap64 ((i : Int) + 1) = ((i + 1 : Nat) : Int) := by rw [w64 (by omega) (by omega)]; rfl
    have v0 : wrap64 (m + 1) = m + 1 := w64 (by omega) (by omega)
    obtain ⟨ys, hl, ht, hm, hh⟩ := ih (i + 1) (xs.set ((i : Int)).toNat m) (m + 1) (by simp; omega) (by simpa using hn) (by omega) (by push_cast at h1; omega)
    have hlt' : i < ys.length := by rw [hl]; simpa using hlt
    have hy : ys[i] = m := by
      have := congrArg (fun l => l[i]?) ht
      simp only [List.getElem?_take_of_lt (Nat.lt_succ_self i), List.getElem?_eq_getElem hlt'] at this
      rw [show ((i : Int)).toNat = i by simp, List.getElem?_set_self (by simpa using hlt)] at this
      exact Option.some.inj this
    refine ⟨ys, by rw [hl]; simp, ?_, ?_, ?_⟩
    · have := congrArg (List.take i) ht
      rw [List.take_take, List.take_take, Nat.min_eq_left (by omega)] at this
      rw [this]
      simp [List.take_set_of_le]
    · refine eround (fun k => by rw [laws_markIntS.l0]) (epos (by omega) ?_)
      try simp only [w1, v0]
      refine epos (by omega) ?_
      refine enb rfl ?_
      try simp only [w1, v0]
      skip
      rw [show m + 1 * ((d + 1 : Nat) : Int) = m + 1 + 1 * (d : Int) by push_cast; omega]
      simpa using hm
    · refine eround (fun k => by rw [laws_heldIntS.l0]) (epos (by omega) (epos (by omega) ?_))
      have hr : ∀ z, ys.getD ((i : Int)).toNat z = ys[i] := fun z => getD_get ys i z hlt'
      try simp only [w1, v0]
      simp only [rd, rdOf, hr, hy]
      repeat (first | refine epos trivial ?_ | refine epos rfl ?_ | (refine eneg ?_ ?_; focus (simp; done)))
      rw [show m + 1 * ((d + 1 : Nat) : Int) = m + 1 + 1 * (d : Int) by push_cast; omega]
      exact hh
theorem laws_markIntS_m (xs : List Int) (m : Int) (hn : xs.length ≤ 1048576) (h0 : 0 ≤ m) (h1 : m ≤ 4611686018427387904 - 1 * xs.length) : ∃ ys : List Int, ys.length = xs.length ∧ Ev (fun k => laws_markIntS.f k xs m) (m + 1 * xs.length, ys) ∧ Ev (fun k => laws_heldIntS.f k ys m) (m + 1 * xs.length) := by
  obtain ⟨ys, hl, _, h⟩ := laws_markIntS_h xs.length 0 xs m (by omega) hn h0 h1
  exact ⟨ys, hl, h⟩
def inR (lo hi x : Int) : Bool := decide (x ≥ lo) && decide (x ≤ hi)
theorem inR_iff {lo hi x : Int} : inR lo hi x = true ↔ lo ≤ x ∧ x ≤ hi := by simp [inR]
theorem l1In_eq (a lo hi : Int) : spec_l1In.f a lo hi = some (inR lo hi a) := by
  unfold spec_l1In.f inR
  by_cases h : a ≥ lo <;> simp [h]
theorem l1All_l (xs : List Int) (lo up : Int) (hn : xs.length ≤ 9223372036854775807) : ∀ (d i : Nat), i + d = xs.length → Ev (fun k => spec_l1All.l0 k lo up xs (xs.length : Int) (i : Int)) ((xs.drop i).all (inR lo up)) := by
  intro d
  induction d with
  | zero =>
    intro i hi
    refine eround (fun k => by rw [spec_l1All.l0]) ?_
    refine eneg (by omega) (enow ?_)
    rw [List.drop_eq_nil_of_le (by omega)]; rfl
  | succ d ih =>
    intro i hi
    have hlt : i < xs.length := by omega
    refine eround (fun k => by rw [spec_l1All.l0]) ?_
    refine epos (by omega) (epos (by omega) (epos (by omega) ?_))
    rw [rd_get xs i hlt, List.drop_eq_getElem_cons hlt, List.all_cons]
    refine enb (l1In_eq _ _ _) ?_
    cases h : inR lo up xs[i] with
    | true =>
      refine epos rfl ?_
      rw [w64 (by omega) (by omega)]
      simpa using ih (i + 1) (by omega)
    | false => exact eneg (by simp) (enow (by simp))
theorem l1All_e (xs : List Int) (lo up : Int) (hn : xs.length ≤ 9223372036854775807) : Ev (fun k => spec_l1All.f k xs lo up) (xs.all (inR lo up)) :=
  l1All_l xs lo up hn xs.length 0 (by omega)
theorem within_eq (a lo hi : Int) : impl_within.f a lo hi = some (inR lo hi a) := by
  unfold impl_within.f inR
  by_cases h : a ≥ lo <;> simp [h]
theorem allWithin_l (xs : List Int) (lo up : Int) (hn : xs.length ≤ 9223372036854775807) : ∀ (d i : Nat), i + d = xs.length → Ev (fun k => impl_allWithin.l0 k lo up xs (xs.length : Int) (i : Int)) ((xs.drop i).all (inR lo up)) := by
  intro d
  induction d with
  | zero =>
    intro i hi
    refine eround (fun k => by rw [impl_allWithin.l0]) ?_
    refine eneg (by omega) (enow ?_)
    rw [List.drop_eq_nil_of_le (by omega)]; rfl
  | succ d ih =>
    intro i hi
    have hlt : i < xs.length := by omega
    refine eround (fun k => by rw [impl_allWithin.l0]) ?_
    refine epos (by omega) (epos (by omega) (epos (by omega) ?_))
    rw [rd_get xs i hlt, List.drop_eq_getElem_cons hlt, List.all_cons]
    refine enb (within_eq _ _ _) ?_
    cases h : inR lo up xs[i] with
    | true =>
      refine epos rfl ?_
      rw [w64 (by omega) (by omega)]
      simpa using ih (i + 1) (by omega)
    | false => exact eneg (by simp) (enow (by simp))
theorem allWithin_e (xs : List Int) (lo up : Int) (hn : xs.length ≤ 9223372036854775807) : Ev (fun k => impl_allWithin.f k xs lo up) (xs.all (inR lo up)) :=
  allWithin_l xs lo up hn xs.length 0 (by omega)
def takeX (T B n : Int) : Int × Int × Int :=
  if T - n < 0 then (if T - n > -16 then (n, Go.bits .or .i64 (Go.bits .and .i64 (shl .i64 B (-(T - n))) 65535) 1, 0) else (n, 1, 0))
  else if T - n ≥ 16 then (T, B, 2) else if Go.bits .and .i64 (shr .i64 B (T - n)) 1 = 1 then (T, B, 1) else (T, Go.bits .or .i64 B (shl .i64 1 (T - n)), 0)
theorem takeX_top {T B n : Int} (h0 : 0 ≤ T) (h1 : T ≤ 100000) (g0 : 1 ≤ n) (g1 : n ≤ 100000) : 0 ≤ (takeX T B n).1 ∧ (takeX T B n).1 ≤ 100000 := by
  unfold takeX
  split
  · split <;> (dsimp only; omega)
  · split
    · dsimp only; omega
    · split <;> (dsimp only; omega)
theorem implTake_eq {T n : Int} (B : Int) (h0 : 0 ≤ T) (h1 : T ≤ 100000) (g0 : 1 ≤ n) (g1 : n ≤ 100000) : impl_Window_take.f T B n = some ((takeX T B n).2.2, (takeX T B n).1, (takeX T B n).2.1) := by
  unfold impl_Window_take.f takeX
  rw [w64 (x := T - n) (by omega) (by omega)]
  by_cases c : T - n < 0
  · rw [if_pos c, if_pos c]
    by_cases d : T - n > -16
    · rw [if_pos d, if_pos d, w64 (by omega) (by omega), if_pos (by omega)]
    · rw [if_neg d, if_neg d, show Go.bits .or .i64 0 1 = 1 by decide]
  · rw [if_neg c, if_neg c]
    by_cases d : T - n ≥ 16
    · rw [if_pos d, if_pos d]
    · rw [if_neg d, if_neg d, if_pos (by omega)]
      by_cases e : Go.bits .and .i64 (shr .i64 B (T - n)) 1 = 1
      · rw [if_pos e, if_pos e]
      · rw [if_neg e, if_neg e]
theorem specTake_e {T n : Int} (B : Int) (h0 : 0 ≤ T) (h1 : T ≤ 100000) (g0 : 1 ≤ n) (g1 : n ≤ 100000) : Ev (fun k => spec_l16Take.f k T B n) (takeX T B n) := by
  unfold spec_l16Take.f takeX
  rw [w64 (x := T - n) (by omega) (by omega)]
  by_cases d : T - n ≥ 16
  · rw [if_neg (by omega), if_pos d]
    exact epos d (enow rfl)
  · refine eneg d ?_
    by_cases c : T - n < 0
    · rw [if_pos c]
      refine eneg (by omega) (eround (fun k => by rw [spec_l16Take.j0]) (eneg (by decide) (eneg (by omega) ?_)))
      rw [w64 (x := -(T - n)) (by omega) (by omega), u64_wrap_small (-(T - n)) (by omega) (by omega)]
      by_cases e : T - n > -16
      · rw [if_pos e]
        exact eneg (by omega) (epos (by omega) (enow rfl))
      · rw [if_neg e]
        exact epos (by omega) (enow rfl)
    · rw [if_neg c, if_neg d]
      rw [u64_wrap_small (T - n) (by omega) (by omega)]
      refine epos (by omega) (epos (by omega) ?_)
      by_cases e : Go.bits .and .i64 (shr .i64 B (T - n)) 1 = 1
      · rw [if_pos e]
        exact eround (fun k => by rw [spec_l16Take.j0]) (epos (by simp [e]) (enow rfl))
      · rw [if_neg e]
        refine eround (fun k => by rw [spec_l16Take.j0]) (eneg (by simp [e]) (epos (by omega) ?_))
        rw [u64_wrap_small (T - n) (by omega) (by omega)]
        exact epos (by omega) (enow rfl)
def plays (T B : Int) : List Int → List Int × Int × Int
  | [] => ([], T, B)
  | n :: r => ((takeX T B n).2.2 :: (plays (takeX T B n).1 (takeX T B n).2.1 r).1, (plays (takeX T B n).1 (takeX T B n).2.1 r).2)
theorem plays_len : ∀ (l : List Int) (T B : Int), (plays T B l).1.length = l.length
  | [], _, _ => rfl
  | n :: r, T, B => by simp [plays, plays_len r]
def fineN (xs : List Int) : Prop := xs.length ≤ 60 ∧ ∀ x ∈ xs, 1 ≤ x ∧ x ≤ 100000
theorem implPl_l (xs : List Int) (hx : fineN xs) : ∀ (d i : Nat) (out : List Int) (T B : Int), i + d = xs.length → out.length ≤ i → 0 ≤ T → T ≤ 100000 → Ev (fun k => impl_PlayNumbers.l0 k out xs (xs.length : Int) (i : Int) T B) (out ++ (plays T B (xs.drop i)).1, (plays T B (xs.drop i)).2.1, (plays T B (xs.drop i)).2.2, true) := by
  have hn := hx.1
  intro d
  induction d with
  | zero =>
    intro i out T B hi ho _ _
    refine eround (fun k => by rw [impl_PlayNumbers.l0]) (eneg (by omega) (enow ?_))
    rw [List.drop_eq_nil_of_le (by omega)]; simp [plays]
  | succ d ih =>
    intro i out T B hi ho h0 h1
    have hlt : i < xs.length := by omega
    obtain ⟨g0, g1⟩ := hx.2 _ (List.getElem_mem hlt)
    refine eround (fun k => by rw [impl_PlayNumbers.l0]) (epos (by omega) (epos (by omega) (epos (by omega) ?_)))
    rw [rd_get xs i hlt, List.drop_eq_getElem_cons hlt]
    refine enb (implTake_eq B h0 h1 g0 g1) (epos (by omega) ?_)
    dsimp only
    rw [w64 (by omega) (by omega)]
    obtain ⟨t0, t1⟩ := takeX_top (B := B) h0 h1 g0 g1
    have := ih (i + 1) (out ++ [(takeX T B xs[i]).2.2]) (takeX T B xs[i]).1 (takeX T B xs[i]).2.1 (by omega) (by simp; omega) t0 t1
    simpa [plays] using this
theorem specPl_l (xs : List Int) (hx : fineN xs) : ∀ (d i : Nat) (out : List Int) (T B : Int), i + d = xs.length → out.length ≤ i → 0 ≤ T → T ≤ 100000 → Ev (fun k => spec_PlayNumbers.l0 k out xs (xs.length : Int) (i : Int) T B) (out ++ (plays T B (xs.drop i)).1, (plays T B (xs.drop i)).2.1, (plays T B (xs.drop i)).2.2, true) := by
  have hn := hx.1
  intro d
  induction d with
  | zero =>
    intro i out T B hi ho _ _
    refine eround (fun k => by rw [spec_PlayNumbers.l0]) (eneg (by omega) (enow ?_))
    rw [List.drop_eq_nil_of_le (by omega)]; simp [plays]
  | succ d ih =>
    intro i out T B hi ho h0 h1
    have hlt : i < xs.length := by omega
    obtain ⟨g0, g1⟩ := hx.2 _ (List.getElem_mem hlt)
    refine eround (fun k => by rw [spec_PlayNumbers.l0]) (epos (by omega) (epos (by omega) (epos (by omega) ?_)))
    rw [rd_get xs i hlt, List.drop_eq_getElem_cons hlt]
    refine ebind (specTake_e B h0 h1 g0 g1) ?_
    refine epos (by omega) ?_
    rw [w64 (by omega) (by omega)]
    obtain ⟨t0, t1⟩ := takeX_top (B := B) h0 h1 g0 g1
    have := ih (i + 1) (out ++ [(takeX T B xs[i]).2.2]) (takeX T B xs[i]).1 (takeX T B xs[i]).2.1 (by omega) (by simp; omega) t0 t1
    simpa [plays] using this
def areN (xs : List Int) : Bool := decide ((xs.length : Int) ≤ 60) && xs.all (inR 1 100000)
theorem areN_fine {xs : List Int} (h : areN xs = true) : fineN xs := by
  unfold areN at h
  simp only [Bool.and_eq_true, decide_eq_true_eq, List.all_eq_true] at h
  exact ⟨by omega, fun x hx => inR_iff.1 (h.2 x hx)⟩
def playR (xs : List Int) : List Int × Int × Int × Bool := if areN xs then ((plays 0 0 xs).1, (plays 0 0 xs).2.1, (plays 0 0 xs).2.2, true) else ([], 0, 0, false)
theorem implAre_e (xs : List Int) (hn : xs.length ≤ 1048576) : Ev (fun k => impl_areTaken.f k xs) (areN xs) := by
  unfold impl_areTaken.f areN
  by_cases h : (xs.length : Int) ≤ 60
  · exact epos h (ebind (allWithin_e xs 1 100000 (by omega)) (enow (by simp [h])))
  · exact eneg h (enow (by simp [h]))
theorem specAre_e (xs : List Int) (hn : xs.length ≤ 1048576) : Ev (fun k => spec_l16Numbers.f k xs) (areN xs) := by
  unfold spec_l16Numbers.f areN
  by_cases h : (xs.length : Int) ≤ 60
  · exact epos h (ebind (l1All_e xs 1 100000 (by omega)) (enow (by simp [h])))
  · exact eneg h (enow (by simp [h]))
theorem implPN_e (xs : List Int) (hn : xs.length ≤ 1048576) : Ev (fun k => impl_PlayNumbers.f k xs) (playR xs) := by
  unfold impl_PlayNumbers.f playR
  refine ebind (implAre_e xs hn) ?_
  cases g : areN xs with
  | false => exact eneg (by decide) (enow (by simp))
  | true =>
    have := implPl_l xs (areN_fine g) xs.length 0 [] 0 0 (by omega) (by simp) (by omega) (by omega)
    exact epos rfl (by simpa using this)
theorem specPN_e (xs : List Int) (hn : xs.length ≤ 1048576) : Ev (fun k => spec_PlayNumbers.f k xs) (playR xs) := by
  unfold spec_PlayNumbers.f playR
  refine ebind (specAre_e xs hn) ?_
  cases g : areN xs with
  | false => exact eneg (by decide) (enow (by simp))
  | true =>
    have := specPl_l xs (areN_fine g) xs.length 0 [] 0 0 (by omega) (by simp) (by omega) (by omega)
    exact epos rfl (by simpa using this)
theorem playR_len (xs : List Int) : (playR xs).1.length ≤ 1048576 := by
  unfold playR
  split
  · rename_i g
    have := (areN_fine g).1
    simp only [plays_len]; omega
  · simp
theorem FnExactPlayNumbers : laws_FnExactPlayNumbers.Pure := by
  intro xs _ _ _
  apply Ev.rounds
  unfold laws_FnExactPlayNumbers.f
  by_cases hb : (xs.length : Int) > 1048576
  · exact epos hb (enow rfl)
  refine eneg hb ?_
  have hn : xs.length ≤ 1048576 := by omega
  have e1 := laws_toIntS_e xs hn
  have e2 := specPN_e xs hn
  have e3 := implPN_e xs hn
  have hR := playR_len xs
  have e4 := laws_eqIntS_r _ hR
  have e5 := laws_eqIntS_r xs hn
  have e6 := laws_eqWindow_r (playR xs).2.1 (playR xs).2.2.1
  obtain ⟨_, _, q2, q3⟩ := laws_markIntS_m xs 1 hn (by omega) (by omega)
  obtain ⟨_, _, q4, q5⟩ := laws_markIntS_m (playR xs).1 1 hR (by omega) (by omega)
  repeat' first
    | exact enow rfl
    | (with_reducible refine ebind e1 ?_)
    | (with_reducible refine ebind e2 ?_)
    | (with_reducible refine ebind e3 ?_)
    | (with_reducible refine ebind e4 ?_)
    | (with_reducible refine ebind e5 ?_)
    | (with_reducible refine enb e6 ?_)
    | (with_reducible refine ebind q2 ?_)
    | (with_reducible refine ebind q4 ?_)
    | (with_reducible refine ebind q5 ?_)
    | (with_reducible refine eround (fun k => laws_FnExactPlayNumbers.j0.eq_2 _ _ _ _ _ _ _ _ _ _ _ _) ?_)
    | (with_reducible refine eround (fun k => laws_FnExactPlayNumbers.j1.eq_2 _ _ _ _ _ _ _ _) ?_)
    | (with_reducible refine eround (fun k => laws_FnExactPlayNumbers.j2.eq_2 _ _ _ _) ?_)
    | (with_reducible refine enb rfl ?_)
    | (with_reducible refine epos rfl ?_)
    | (refine eneg ?_ ?_; focus (first | omega | (dsimp only; omega) | (simp; done) | (simp; omega)))

end Go.Proofs.Ytmapmbgjjnlggaa.Pure
