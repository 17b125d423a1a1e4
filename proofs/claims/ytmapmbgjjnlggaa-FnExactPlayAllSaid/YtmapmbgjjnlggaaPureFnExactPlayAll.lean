/- The law FnExactPlayAll, told over lists: the program's PlayAll and the reference's answer alike; nothing is written into an argument. No condition. -/
import Derived.Test.YtmapmbgjjnlggaaQFnExactPlayAllx2
import Derived.Test.YtmapmbgjjnlggaaPk
namespace Go.Proofs.Ytmapmbgjjnlggaa.Pure
open Go.RowKit Go.Proofs.Ytmapmbgjjnlggaa.QFnExactPlayAll Go.Proofs.YtmapmbgjjnlggaaW.PrintWords Go.Proofs.YtmapmbgjjnlggaaW.PrintLast Go.Proofs.YtmapmbgjjnlggaaW.PrintMore Go.Proofs.Ytmapmbgjjnlggaa
set_option linter.unusedVariables false
set_option linter.unusedSimpArgs false

open Pk
/-! laws_toIntS -/
theorem laws_toIntS_l (xs : List Int) (hs : xs.length ≤ 1048576) : ∀ (d i : Nat) (acc : List Int), i + d = xs.length → acc.length = xs.length → acc.take i = xs.take i → Ev (fun k => laws_toIntS.l0 k xs acc (i : Int)) xs := by
  have hn := hs
  intro d
  induction d with
  | zero =>
    intro i acc hi hl ht
    refine eround (fun k => by rw [laws_toIntS.l0]) (eneg (by omega) (enow ?_))
    rwa [List.take_of_length_le (by omega), List.take_of_length_le (by first | omega | (simp; omega))] at ht
  | succ d ih =>
    intro i acc hi hl ht
    have hlt : i < xs.length := by omega
    refine eround (fun k => by rw [laws_toIntS.l0]) (epos (by omega) (epos (by omega) ?_))
    refine epos (by omega) ?_
    rw [w64 (by omega) (by omega)]
    refine ih (i + 1) _ (by omega) (by simpa using hl) ?_
    exact take_set_succ _ _ rfl (by first | exact hlt | (simp; omega)) (by first | exact hl | simpa using hl) ht (by first | exact (getD_get xs i _ hlt).symm | (simp only [List.getElem_map]; rw [← getD_get xs i _ hlt]; rfl))
theorem laws_toIntS_e (xs : List Int) (hs : xs.length ≤ 1048576) : Ev (fun k => laws_toIntS.f k xs) xs := by
  have hn := hs
  unfold laws_toIntS.f
  exact epos (by omega) (epos (by omega) (laws_toIntS_l xs hs xs.length 0 _ (by omega) (by simp) (by simp)))
/-! laws_eqIntS -/
theorem laws_eqIntS_lr (xs : List Int) (hs : xs.length ≤ 1048576) : ∀ (d i : Nat), i + d = xs.length → Ev (fun k => laws_eqIntS.l0 k xs xs (i : Int)) true := by
  have hn := hs
  intro d
  induction d with
  | zero =>
    intro i hi
    exact eround (fun k => by rw [laws_eqIntS.l0]) (eneg (by omega) (enow rfl))
  | succ d ih =>
    intro i hi
    have hlt : i < xs.length := by omega
    refine eround (fun k => by rw [laws_eqIntS.l0]) (epos (by omega) (epos (by omega) (epos (by omega) ?_)))
    first | refine epos rfl ?_ | (refine eneg ?_ ?_; focus (simp; done))
    rw [w64 (by omega) (by omega)]
    exact ih (i + 1) (by omega)
theorem laws_eqIntS_r (xs : List Int) (hs : xs.length ≤ 1048576) : Ev (fun k => laws_eqIntS.f k xs xs) true := by
  unfold laws_eqIntS.f
  exact epos rfl (laws_eqIntS_lr xs hs xs.length 0 (by omega))
/-! laws_markIntS -/
theorem laws_markIntS_h : ∀ (d i : Nat) (xs : List Int) (m : Int), i + d = xs.length → xs.length ≤ 1048576 → 0 ≤ m → m ≤ 4611686018427387904 - 1 * d → ∃ ys : List Int, ys.length = xs.length ∧ ys.take i = xs.take i ∧
    Ev (fun k => laws_markIntS.l0 k xs m (i : Int)) (m + 1 * d, ys) ∧ Ev (fun k => laws_heldIntS.l0 k ys m (i : Int)) (m + 1 * d) := by
  intro d
  induction d with
  | zero =>
    intro i xs m hi hn h0 h1
    exact ⟨xs, rfl, rfl, eround (fun k => by rw [laws_markIntS.l0]) (eneg (by omega) (enow (by simp))), eround (fun k => by rw [laws_heldIntS.l0]) (eneg (by omega) (enow (by simp)))⟩
  | succ d ih =>
    intro i xs m hi hn h0 h1
    have hlt : i < xs.length := by omega
    have w1 : wrap64 ((i : Int) + 1) = ((i + 1 : Nat) : Int) := by rw [w64 (by omega) (by omega)]; rfl
    have v0 : wrap64 (m + 1) = m + 1 := w64 (by omega) (by omega)
    obtain ⟨ys, hl, ht, hm, hh⟩ := ih (i + 1) (xs.set ((i : Int)).toNat m) (m + 1) (by simp; omega) (by simpa using hn) (by omega) (by push_cast at h1; omega)
    have hlt' : i < ys.length := by rw [hl]; simpa using hlt
    have hy : ys[i] = m := by
      have := congrArg (fun l => l[i]?) ht
      simp only [List.getElem?_take_of_lt (Nat.lt_succ_self i), List.getElem?_eq_getElem hlt'] at this
      rw [show ((i : Int)).toNat = i by simp, List.getElem?_set_self (by simpa using hlt)] at this
      exact Option.some.inj this
    refine ⟨ys, by rw [hl]; simp, ?_, ?_, ?_⟩
    · have := congrArg (List.take i) ht
      rw [List.take_take, List.take_take, Nat.min_eq_left (by omega)] at this
      rw [this]
      simp [List.take_set_of_le]
    · refine eround (fun k => by rw [laws_markIntS.l0]) (epos (by omega) ?_)
      try simp only [w1, v0]
      refine epos (by omega) ?_
      refine enb rfl ?_
      try simp only [w1, v0]
      skip
      rw [show m + 1 * ((d + 1 : Nat) : Int) = m + 1 + 1 * (d : Int) by push_cast; omega]
      simpa using hm
    · refine eround (fun k => by rw [laws_heldIntS.l0]) (epos (by omega) (epos (by omega) ?_))
      have hr : ∀ z, ys.getD ((i : Int)).toNat z = ys[i] := fun z => getD_get ys i z hlt'
      try simp only [w1, v0]
      simp only [rd, rdOf, hr, hy]
      repeat (first | refine epos trivial ?_ | refine epos rfl ?_ | (refine eneg ?_ ?_; focus (simp; done)))
      rw [show m + 1 * ((d + 1 : Nat) : Int) = m + 1 + 1 * (d : Int) by push_cast; omega]
      exact hh
theorem laws_markIntS_m (xs : List Int) (m : Int) (hn : xs.length ≤ 1048576) (h0 : 0 ≤ m) (h1 : m ≤ 4611686018427387904 - 1 * xs.length) : ∃ ys : List Int, ys.length = xs.length ∧ Ev (fun k => laws_markIntS.f k xs m) (m + 1 * xs.length, ys) ∧ Ev (fun k => laws_heldIntS.f k ys m) (m + 1 * xs.length) := by
  obtain ⟨ys, hl, _, h⟩ := laws_markIntS_h xs.length 0 xs m (by omega) hn h0 h1
  exact ⟨ys, hl, h⟩
def inR (lo hi x : Int) : Bool := decide (x ≥ lo) && decide (x ≤ hi)
theorem inR_iff {lo hi x : Int} : inR lo hi x = true ↔ lo ≤ x ∧ x ≤ hi := by simp [inR]
theorem l1In_eq (a lo hi : Int) : spec_l1In.f a lo hi = some (inR lo hi a) := by
  unfold spec_l1In.f inR
  by_cases h : a ≥ lo <;> simp [h]
theorem l1All_l (xs : List Int) (lo up : Int) (hn : xs.length ≤ 9223372036854775807) : ∀ (d i : Nat), i + d = xs.length → Ev (fun k => spec_l1All.l0 k lo up xs (xs.length : Int) (i : Int)) ((xs.drop i).all (inR lo up)) := by
  intro d
  induction d with
  | zero =>
    intro i hi
    refine eround (fun k => by rw [spec_l1All.l0]) ?_
    refine eneg (by omega) (enow ?_)
    rw [List.drop_eq_nil_of_le (by omega)]; rfl
  | succ d ih =>
    intro i hi
    have hlt : i < xs.length := by omega
    refine eround (fun k => by rw [spec_l1All.l0]) ?_
    refine epos (by omega) (epos (by omega) (epos (by omega) ?_))
    rw [rd_get xs i hlt, List.drop_eq_getElem_cons hlt, List.all_cons]
    refine enb (l1In_eq _ _ _) ?_
    cases h : inR lo up xs[i] with
    | true =>
      refine epos rfl ?_
      rw [w64 (by omega) (by omega)]
      simpa using ih (i + 1) (by omega)
    | false => exact eneg (by simp) (enow (by simp))
theorem l1All_e (xs : List Int) (lo up : Int) (hn : xs.length ≤ 9223372036854775807) : Ev (fun k => spec_l1All.f k xs lo up) (xs.all (inR lo up)) :=
  l1All_l xs lo up hn xs.length 0 (by omega)
theorem within_eq (a lo hi : Int) : impl_within.f a lo hi = some (inR lo hi a) := by
  unfold impl_within.f inR
  by_cases h : a ≥ lo <;> simp [h]
theorem allWithin_l (xs : List Int) (lo up : Int) (hn : xs.length ≤ 9223372036854775807) : ∀ (d i : Nat), i + d = xs.length → Ev (fun k => impl_allWithin.l0 k lo up xs (xs.length : Int) (i : Int)) ((xs.drop i).all (inR lo up)) := by
  intro d
  induction d with
  | zero =>
    intro i hi
    refine eround (fun k => by rw [impl_allWithin.l0]) ?_
    refine eneg (by omega) (enow ?_)
    rw [List.drop_eq_nil_of_le (by omega)]; rfl
  | succ d ih =>
    intro i hi
    have hlt : i < xs.length := by omega
    refine eround (fun k => by rw [impl_allWithin.l0]) ?_
    refine epos (by omega) (epos (by omega) (epos (by omega) ?_))
    rw [rd_get xs i hlt, List.drop_eq_getElem_cons hlt, List.all_cons]
    refine enb (within_eq _ _ _) ?_
    cases h : inR lo up xs[i] with
    | true =>
      refine epos rfl ?_
      rw [w64 (by omega) (by omega)]
      simpa using ih (i + 1) (by omega)
    | false => exact eneg (by simp) (enow (by simp))
theorem allWithin_e (xs : List Int) (lo up : Int) (hn : xs.length ≤ 9223372036854775807) : Ev (fun k => impl_allWithin.f k xs lo up) (xs.all (inR lo up)) :=
  allWithin_l xs lo up hn xs.length 0 (by omega)
def fineN (xs : List Int) : Prop := xs.length ≤ 60 ∧ ∀ x ∈ xs, 1 ≤ x ∧ x ≤ 100000
def areN (xs : List Int) : Bool := decide ((xs.length : Int) ≤ 60) && xs.all (inR 1 100000)
theorem areN_fine {xs : List Int} (h : areN xs = true) : fineN xs := by
  unfold areN at h
  simp only [Bool.and_eq_true, decide_eq_true_eq, List.all_eq_true] at h
  exact ⟨by omega, fun x hx => inR_iff.1 (h.2 x hx)⟩
theorem implAre_e (xs : List Int) (hn : xs.length ≤ 1048576) : Ev (fun k => impl_areTaken.f k xs) (areN xs) := by
  unfold impl_areTaken.f areN
  by_cases h : (xs.length : Int) ≤ 60
  · exact epos h (ebind (allWithin_e xs 1 100000 (by omega)) (enow (by simp [h])))
  · exact eneg h (enow (by simp [h]))
theorem specAre_e (xs : List Int) (hn : xs.length ≤ 1048576) : Ev (fun k => spec_l16Numbers.f k xs) (areN xs) := by
  unfold spec_l16Numbers.f areN
  by_cases h : (xs.length : Int) ≤ 60
  · exact epos h (ebind (l1All_e xs 1 100000 (by omega)) (enow (by simp [h])))
  · exact eneg h (enow (by simp [h]))
/-! one who remembers all -/
theorem l1Has_l (xs : List Int) (a : Int) (hn : xs.length ≤ 9223372036854775807) : ∀ (d i : Nat), i + d = xs.length → Ev (fun k => spec_l1Has.l0 k a xs (xs.length : Int) (i : Int)) (decide (a ∈ xs.drop i)) := by
  intro d
  induction d with
  | zero =>
    intro i hi
    refine eround (fun k => by rw [spec_l1Has.l0]) (eneg (by omega) (enow ?_))
    rw [List.drop_eq_nil_of_le (by omega)]; simp
  | succ d ih =>
    intro i hi
    have hlt : i < xs.length := by omega
    refine eround (fun k => by rw [spec_l1Has.l0]) (epos (by omega) (epos (by omega) (epos (by omega) ?_)))
    rw [rd_get xs i hlt, List.drop_eq_getElem_cons hlt]
    by_cases e : xs[i] = a
    · exact epos e (enow (by simp [e]))
    · refine eneg e ?_
      rw [w64 (by omega) (by omega)]
      have : decide (a ∈ xs[i] :: List.drop (i + 1) xs) = decide (a ∈ List.drop (i + 1) xs) := by
        apply decide_eq_decide.2
        rw [List.mem_cons]
        exact ⟨fun h => h.resolve_left (fun z => e z.symm), Or.inr⟩
      rw [this]
      exact ih (i + 1) (by omega)
theorem l1Has_e (xs : List Int) (a : Int) (hn : xs.length ≤ 9223372036854775807) : Ev (fun k => spec_l1Has.f k xs a) (decide (a ∈ xs)) := l1Has_l xs a hn xs.length 0 (by omega)
def allG : List Int → List Int → Int → List Int → List Int
  | [], _, _, out => out
  | n :: ns, xt, top, out => if n ∈ xt then allG ns xt top (out ++ [1]) else (if 16 ≤ top - n then allG ns xt top (out ++ [2]) else allG ns (xt ++ [n]) (if top < n then n else top) (out ++ [0]))
theorem allG_len : ∀ (ns xt : List Int) (top : Int) (out : List Int), (allG ns xt top out).length = out.length + ns.length
  | [], _, _, _ => rfl
  | n :: ns, xt, top, out => by
    unfold allG
    split
    · rw [allG_len]; simp; omega
    · split
      · rw [allG_len]; simp; omega
      · rw [allG_len]; simp; omega
theorem implG_eq : ∀ (ns xt : List Int) (top : Int) (out : List Int), (∀ n ∈ ns, 1 ≤ n ∧ n ≤ 100000) → 0 ≤ top → top ≤ 100000 → impl_PlayAll.g ns xt top out = some (allG ns xt top out)
  | [], _, _, _, _, _, _ => rfl
  | n :: ns, xt, top, out, h, h0, h1 => by
    have hn := h n (by simp)
    have hr : ∀ m ∈ ns, 1 ≤ m ∧ m ≤ 100000 := fun m hm => h m (by simp [hm])
    unfold impl_PlayAll.g allG
    rw [if_pos hn]
    by_cases c : n ∈ xt
    · rw [if_pos (by simpa using c), if_pos c]
      exact implG_eq ns xt top _ hr h0 h1
    · rw [if_neg (by simpa using c), if_neg c, w64 (by omega) (by omega)]
      by_cases c2 : 16 ≤ top - n
      · rw [if_pos c2, if_pos c2]
        exact implG_eq ns xt top _ hr h0 h1
      · rw [if_neg c2, if_neg c2]
        exact implG_eq ns _ _ _ hr (by split <;> omega) (by split <;> omega)
theorem specG_l (xs : List Int) (hl : xs.length ≤ 60) (hx : ∀ n ∈ xs, 1 ≤ n ∧ n ≤ 100000) : ∀ (d i : Nat) (xt out : List Int) (top : Int), i + d = xs.length → xt.length ≤ i → out.length ≤ i → 0 ≤ top → top ≤ 100000 → Ev (fun k => spec_PlayAll.l0 k xt out top xs (xs.length : Int) (i : Int)) (allG (xs.drop i) xt top out, true) := by
  intro d
  induction d with
  | zero =>
    intro i xt out top hi h1 h2 h3 h4
    refine eround (fun k => by rw [spec_PlayAll.l0]) (eneg (by omega) (enow ?_))
    rw [List.drop_eq_nil_of_le (by omega), allG]
  | succ d ih =>
    intro i xt out top hi h1 h2 h3 h4
    have hlt : i < xs.length := by omega
    have hn := hx _ (List.getElem_mem hlt)
    refine eround (fun k => by rw [spec_PlayAll.l0]) (epos (by omega) (epos (by omega) (epos (by omega) ?_)))
    rw [rd_get xs i hlt, List.drop_eq_getElem_cons hlt, allG, w64 (x := (i : Int) + 1) (by omega) (by omega), w64 (x := top - xs[i]) (by omega) (by omega)]
    refine ebind (l1Has_e xt xs[i] (by omega)) ?_
    by_cases c : xs[i] ∈ xt
    · rw [if_pos c]
      refine epos (decide_eq_true c) (epos (by omega) ?_)
      exact ih (i + 1) xt _ top (by omega) (by omega) (by simp; omega) h3 h4
    · rw [if_neg c]
      refine eneg (by simpa using c) ?_
      by_cases c2 : 16 ≤ top - xs[i]
      · rw [if_pos c2]
        refine epos c2 (epos (by omega) ?_)
        exact ih (i + 1) xt _ top (by omega) (by omega) (by simp; omega) h3 h4
      · rw [if_neg c2]
        refine eneg c2 (epos (by omega) (enb rfl (epos (by omega) (enb rfl ?_))))
        by_cases c3 : top < xs[i]
        · rw [if_pos c3]
          refine epos c3 ?_
          exact ih (i + 1) _ _ xs[i] (by omega) (by simp; omega) (by simp; omega) (by omega) hn.2
        · rw [if_neg c3]
          refine eneg c3 ?_
          exact ih (i + 1) _ _ top (by omega) (by simp; omega) (by simp; omega) h3 h4
def allP (xs : List Int) : List Int × Bool := if areN xs = true then (allG xs [] 0 [], true) else ([], false)
theorem allP_len (xs : List Int) (h : xs.length ≤ 1048576) : (allP xs).1.length ≤ 1048576 := by
  unfold allP
  split
  · rw [allG_len]; simpa using h
  · simp
theorem specPA_e (xs : List Int) (hn : xs.length ≤ 1048576) : Ev (fun k => spec_PlayAll.f k xs) (allP xs) := by
  unfold spec_PlayAll.f allP
  refine ebind (specAre_e xs hn) ?_
  cases g : areN xs with
  | false => exact eneg (by decide) (enow (by simp))
  | true =>
    have f := areN_fine g
    have := specG_l xs f.1 f.2 xs.length 0 [] [] 0 (by omega) (by simp) (by simp) (by omega) (by omega)
    exact epos rfl (by simpa using this)
theorem implPA_e (xs : List Int) (hn : xs.length ≤ 1048576) : Ev (fun k => impl_PlayAll.f k xs) (allP xs) := by
  unfold impl_PlayAll.f allP
  refine ebind (implAre_e xs hn) ?_
  cases g : areN xs with
  | false => exact eneg (by decide) (enow (by simp))
  | true =>
    have f := areN_fine g
    refine epos rfl (epos (by have := f.1; omega) ?_)
    rw [implG_eq xs [] 0 [] f.2 (by omega) (by omega)]
    exact enow (by simp)
theorem FnExactPlayAll : laws_FnExactPlayAll.Pure := by
  intro xs _ _ _
  apply Ev.rounds
  unfold laws_FnExactPlayAll.f
  by_cases hb : (xs.length : Int) > 1048576
  · exact epos hb (enow rfl)
  refine eneg hb ?_
  have hn : xs.length ≤ 1048576 := by omega
  have e1 := laws_toIntS_e xs hn
  have e2 := specPA_e xs hn
  have e3 := implPA_e xs hn
  have hR := allP_len xs hn
  have e4 := laws_eqIntS_r _ hR
  have e5 := laws_eqIntS_r xs hn
  obtain ⟨_, _, q2, q3⟩ := laws_markIntS_m xs 1 hn (by omega) (by omega)
  obtain ⟨_, _, q4, q5⟩ := laws_markIntS_m (allP xs).1 1 hR (by omega) (by omega)
  repeat' first
    | exact enow rfl
    | (with_reducible refine ebind e1 ?_)
    | (with_reducible refine ebind e2 ?_)
    | (with_reducible refine ebind e3 ?_)
    | (with_reducible refine ebind e4 ?_)
    | (with_reducible refine ebind e5 ?_)
    | (with_reducible refine ebind q2 ?_)
    | (with_reducible refine ebind q4 ?_)
    | (with_reducible refine ebind q5 ?_)
    | (with_reducible refine eround (fun k => laws_FnExactPlayAll.j0.eq_2 _ _ _ _ _ _ _ _) ?_)
    | (with_reducible refine eround (fun k => laws_FnExactPlayAll.j1.eq_2 _ _ _ _ _ _) ?_)
    | (with_reducible refine eround (fun k => laws_FnExactPlayAll.j2.eq_2 _ _ _ _) ?_)
    | (with_reducible refine enb rfl ?_)
    | (with_reducible refine epos rfl ?_)
    | (refine eneg ?_ ?_; focus (first | omega | (dsimp only; omega) | (simp; done) | (simp; omega)))

end Go.Proofs.Ytmapmbgjjnlggaa.Pure
