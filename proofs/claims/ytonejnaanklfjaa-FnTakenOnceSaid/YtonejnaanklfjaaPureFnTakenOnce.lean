/- The law FnTakenOnce, told over numbers and lists: the few bits tell what one who remembers all would. No condition. -/
import Derived.Test.YtonejnaanklfjaaQFnTakenOncex6
import Derived.Test.YtonejnaanklfjaaPk
namespace Go.Proofs.Ytonejnaanklfjaa.Pure
open Go.RowKit Go.Proofs.Ytonejnaanklfjaa.QFnTakenOnce Go.Proofs.YtonejnaanklfjaaW.PrintWords Go.Proofs.YtonejnaanklfjaaW.PrintLast Go.Proofs.YtonejnaanklfjaaW.PrintMore Go.Proofs.Ytonejnaanklfjaa
set_option linter.unusedVariables false
set_option linter.unusedSimpArgs false

open Pk
def inR (lo hi x : Int) : Bool := decide (x ≥ lo) && decide (x ≤ hi)
theorem inR_iff {lo hi x : Int} : inR lo hi x = true ↔ lo ≤ x ∧ x ≤ hi := by simp [inR]
theorem l1In_eq (a lo hi : Int) : spec_l1In.f a lo hi = some (inR lo hi a) := by
  unfold spec_l1In.f inR
  by_cases h : a ≥ lo <;> simp [h]
theorem l1All_l (xs : List Int) (lo up : Int) (hn : xs.length ≤ 9223372036854775807) : ∀ (d i : Nat), i + d = xs.length → Ev (fun k => spec_l1All.l0 k lo up xs (xs.length : Int) (i : Int)) ((xs.drop i).all (inR lo up)) := by
  intro d
  induction d with
  | zero =>
    intro i hi
    refine eround (fun k => by rw [spec_l1All.l0]) ?_
    refine eneg (by omega) (enow ?_)
    rw [List.drop_eq_nil_of_le (by omega)]; rfl
  | succ d ih =>
    intro i hi
    have hlt : i < xs.length := by omega
    refine eround (fun k => by rw [spec_l1All.l0]) ?_
    refine epos (by omega) (epos (by omega) (epos (by omega) ?_))
    rw [rd_get xs i hlt, List.drop_eq_getElem_cons hlt, List.all_cons]
    refine enb (l1In_eq _ _ _) ?_
    cases h : inR lo up xs[i] with
    | true =>
      refine epos rfl ?_
      rw [w64 (by omega) (by omega)]
      simpa using ih (i + 1) (by omega)
    | false => exact eneg (by simp) (enow (by simp))
theorem l1All_e (xs : List Int) (lo up : Int) (hn : xs.length ≤ 9223372036854775807) : Ev (fun k => spec_l1All.f k xs lo up) (xs.all (inR lo up)) :=
  l1All_l xs lo up hn xs.length 0 (by omega)
theorem within_eq (a lo hi : Int) : impl_within.f a lo hi = some (inR lo hi a) := by
  unfold impl_within.f inR
  by_cases h : a ≥ lo <;> simp [h]
theorem allWithin_l (xs : List Int) (lo up : Int) (hn : xs.length ≤ 9223372036854775807) : ∀ (d i : Nat), i + d = xs.length → Ev (fun k => impl_allWithin.l0 k lo up xs (xs.length : Int) (i : Int)) ((xs.drop i).all (inR lo up)) := by
  intro d
  induction d with
  | zero =>
    intro i hi
    refine eround (fun k => by rw [impl_allWithin.l0]) ?_
    refine eneg (by omega) (enow ?_)
    rw [List.drop_eq_nil_of_le (by omega)]; rfl
  | succ d ih =>
    intro i hi
    have hlt : i < xs.length := by omega
    refine eround (fun k => by rw [impl_allWithin.l0]) ?_
    refine epos (by omega) (epos (by omega) (epos (by omega) ?_))
    rw [rd_get xs i hlt, List.drop_eq_getElem_cons hlt, List.all_cons]
    refine enb (within_eq _ _ _) ?_
    cases h : inR lo up xs[i] with
    | true =>
      refine epos rfl ?_
      rw [w64 (by omega) (by omega)]
      simpa using ih (i + 1) (by omega)
    | false => exact eneg (by simp) (enow (by simp))
theorem allWithin_e (xs : List Int) (lo up : Int) (hn : xs.length ≤ 9223372036854775807) : Ev (fun k => impl_allWithin.f k xs lo up) (xs.all (inR lo up)) :=
  allWithin_l xs lo up hn xs.length 0 (by omega)
def fineN (xs : List Int) : Prop := xs.length ≤ 60 ∧ ∀ x ∈ xs, 1 ≤ x ∧ x ≤ 100000
def areN (xs : List Int) : Bool := decide ((xs.length : Int) ≤ 60) && xs.all (inR 1 100000)
theorem areN_fine {xs : List Int} (h : areN xs = true) : fineN xs := by
  unfold areN at h
  simp only [Bool.and_eq_true, decide_eq_true_eq, List.all_eq_true] at h
  exact ⟨by omega, fun x hx => inR_iff.1 (h.2 x hx)⟩
theorem implAre_e (xs : List Int) (hn : xs.length ≤ 1048576) : Ev (fun k => impl_areTaken.f k xs) (areN xs) := by
  unfold impl_areTaken.f areN
  by_cases h : (xs.length : Int) ≤ 60
  · exact epos h (ebind (allWithin_e xs 1 100000 (by omega)) (enow (by simp [h])))
  · exact eneg h (enow (by simp [h]))
theorem specAre_e (xs : List Int) (hn : xs.length ≤ 1048576) : Ev (fun k => spec_l16Numbers.f k xs) (areN xs) := by
  unfold spec_l16Numbers.f areN
  by_cases h : (xs.length : Int) ≤ 60
  · exact epos h (ebind (l1All_e xs 1 100000 (by omega)) (enow (by simp [h])))
  · exact eneg h (enow (by simp [h]))
def takeX (T B n : Int) : Int × Int × Int :=
  if T - n < 0 then (if T - n > -16 then (n, Go.bits .or .i64 (Go.bits .and .i64 (shl .i64 B (-(T - n))) 65535) 1, 0) else (n, 1, 0))
  else if T - n ≥ 16 then (T, B, 2) else if Go.bits .and .i64 (shr .i64 B (T - n)) 1 = 1 then (T, B, 1) else (T, Go.bits .or .i64 B (shl .i64 1 (T - n)), 0)
theorem takeX_top {T B n : Int} (h0 : 0 ≤ T) (h1 : T ≤ 100000) (g0 : 1 ≤ n) (g1 : n ≤ 100000) : 0 ≤ (takeX T B n).1 ∧ (takeX T B n).1 ≤ 100000 := by
  unfold takeX
  split
  · split <;> (dsimp only; omega)
  · split
    · dsimp only; omega
    · split <;> (dsimp only; omega)
theorem implTake_eq {T n : Int} (B : Int) (h0 : 0 ≤ T) (h1 : T ≤ 100000) (g0 : 1 ≤ n) (g1 : n ≤ 100000) : impl_Window_take.f T B n = some ((takeX T B n).2.2, (takeX T B n).1, (takeX T B n).2.1) := by
  unfold impl_Window_take.f takeX
  rw [w64 (x := T - n) (by omega) (by omega)]
  by_cases c : T - n < 0
  · rw [if_pos c, if_pos c]
    by_cases d : T - n > -16
    · rw [if_pos d, if_pos d, w64 (by omega) (by omega), if_pos (by omega)]
    · rw [if_neg d, if_neg d, show Go.bits .or .i64 0 1 = 1 by decide]
  · rw [if_neg c, if_neg c]
    by_cases d : T - n ≥ 16
    · rw [if_pos d, if_pos d]
    · rw [if_neg d, if_neg d, if_pos (by omega)]
      by_cases e : Go.bits .and .i64 (shr .i64 B (T - n)) 1 = 1
      · rw [if_pos e, if_pos e]
      · rw [if_neg e, if_neg e]
theorem specTake_e {T n : Int} (B : Int) (h0 : 0 ≤ T) (h1 : T ≤ 100000) (g0 : 1 ≤ n) (g1 : n ≤ 100000) : Ev (fun k => spec_l16Take.f k T B n) (takeX T B n) := by
  unfold spec_l16Take.f takeX
  rw [w64 (x := T - n) (by omega) (by omega)]
  by_cases d : T - n ≥ 16
  · rw [if_neg (by omega), if_pos d]
    exact epos d (enow rfl)
  · refine eneg d ?_
    by_cases c : T - n < 0
    · rw [if_pos c]
      refine eneg (by omega) (eround (fun k => by rw [spec_l16Take.j0]) (eneg (by decide) (eneg (by omega) ?_)))
      rw [w64 (x := -(T - n)) (by omega) (by omega), u64_wrap_small (-(T - n)) (by omega) (by omega)]
      by_cases e : T - n > -16
      · rw [if_pos e]
        exact eneg (by omega) (epos (by omega) (enow rfl))
      · rw [if_neg e]
        exact epos (by omega) (enow rfl)
    · rw [if_neg c, if_neg d]
      rw [u64_wrap_small (T - n) (by omega) (by omega)]
      refine epos (by omega) (epos (by omega) ?_)
      by_cases e : Go.bits .and .i64 (shr .i64 B (T - n)) 1 = 1
      · rw [if_pos e]
        exact eround (fun k => by rw [spec_l16Take.j0]) (epos (by simp [e]) (enow rfl))
      · rw [if_neg e]
        refine eround (fun k => by rw [spec_l16Take.j0]) (eneg (by simp [e]) (epos (by omega) ?_))
        rw [u64_wrap_small (T - n) (by omega) (by omega)]
        exact epos (by omega) (enow rfl)
def plays (T B : Int) : List Int → List Int × Int × Int
  | [] => ([], T, B)
  | n :: r => ((takeX T B n).2.2 :: (plays (takeX T B n).1 (takeX T B n).2.1 r).1, (plays (takeX T B n).1 (takeX T B n).2.1 r).2)
theorem plays_len : ∀ (l : List Int) (T B : Int), (plays T B l).1.length = l.length
  | [], _, _ => rfl
  | n :: r, T, B => by simp [plays, plays_len r]
theorem implPl_l (xs : List Int) (hx : fineN xs) : ∀ (d i : Nat) (out : List Int) (T B : Int), i + d = xs.length → out.length ≤ i → 0 ≤ T → T ≤ 100000 → Ev (fun k => impl_PlayNumbers.l0 k out xs (xs.length : Int) (i : Int) T B) (out ++ (plays T B (xs.drop i)).1, (plays T B (xs.drop i)).2.1, (plays T B (xs.drop i)).2.2, true) := by
  have hn := hx.1
  intro d
  induction d with
  | zero =>
    intro i out T B hi ho _ _
    refine eround (fun k => by rw [impl_PlayNumbers.l0]) (eneg (by omega) (enow ?_))
    rw [List.drop_eq_nil_of_le (by omega)]; simp [plays]
  | succ d ih =>
    intro i out T B hi ho h0 h1
    have hlt : i < xs.length := by omega
    obtain ⟨g0, g1⟩ := hx.2 _ (List.getElem_mem hlt)
    refine eround (fun k => by rw [impl_PlayNumbers.l0]) (epos (by omega) (epos (by omega) (epos (by omega) ?_)))
    rw [rd_get xs i hlt, List.drop_eq_getElem_cons hlt]
    refine enb (implTake_eq B h0 h1 g0 g1) (epos (by omega) ?_)
    dsimp only
    rw [w64 (by omega) (by omega)]
    obtain ⟨t0, t1⟩ := takeX_top (B := B) h0 h1 g0 g1
    have := ih (i + 1) (out ++ [(takeX T B xs[i]).2.2]) (takeX T B xs[i]).1 (takeX T B xs[i]).2.1 (by omega) (by simp; omega) t0 t1
    simpa [plays] using this
theorem specPl_l (xs : List Int) (hx : fineN xs) : ∀ (d i : Nat) (out : List Int) (T B : Int), i + d = xs.length → out.length ≤ i → 0 ≤ T → T ≤ 100000 → Ev (fun k => spec_PlayNumbers.l0 k out xs (xs.length : Int) (i : Int) T B) (out ++ (plays T B (xs.drop i)).1, (plays T B (xs.drop i)).2.1, (plays T B (xs.drop i)).2.2, true) := by
  have hn := hx.1
  intro d
  induction d with
  | zero =>
    intro i out T B hi ho _ _
    refine eround (fun k => by rw [spec_PlayNumbers.l0]) (eneg (by omega) (enow ?_))
    rw [List.drop_eq_nil_of_le (by omega)]; simp [plays]
  | succ d ih =>
    intro i out T B hi ho h0 h1
    have hlt : i < xs.length := by omega
    obtain ⟨g0, g1⟩ := hx.2 _ (List.getElem_mem hlt)
    refine eround (fun k => by rw [spec_PlayNumbers.l0]) (epos (by omega) (epos (by omega) (epos (by omega) ?_)))
    rw [rd_get xs i hlt, List.drop_eq_getElem_cons hlt]
    refine ebind (specTake_e B h0 h1 g0 g1) ?_
    refine epos (by omega) ?_
    rw [w64 (by omega) (by omega)]
    obtain ⟨t0, t1⟩ := takeX_top (B := B) h0 h1 g0 g1
    have := ih (i + 1) (out ++ [(takeX T B xs[i]).2.2]) (takeX T B xs[i]).1 (takeX T B xs[i]).2.1 (by omega) (by simp; omega) t0 t1
    simpa [plays] using this
def playR (xs : List Int) : List Int × Int × Int × Bool := if areN xs then ((plays 0 0 xs).1, (plays 0 0 xs).2.1, (plays 0 0 xs).2.2, true) else ([], 0, 0, false)
theorem implPN_e (xs : List Int) (hn : xs.length ≤ 1048576) : Ev (fun k => impl_PlayNumbers.f k xs) (playR xs) := by
  unfold impl_PlayNumbers.f playR
  refine ebind (implAre_e xs hn) ?_
  cases g : areN xs with
  | false => exact eneg (by decide) (enow (by simp))
  | true =>
    have := implPl_l xs (areN_fine g) xs.length 0 [] 0 0 (by omega) (by simp) (by omega) (by omega)
    exact epos rfl (by simpa using this)
theorem specPN_e (xs : List Int) (hn : xs.length ≤ 1048576) : Ev (fun k => spec_PlayNumbers.f k xs) (playR xs) := by
  unfold spec_PlayNumbers.f playR
  refine ebind (specAre_e xs hn) ?_
  cases g : areN xs with
  | false => exact eneg (by decide) (enow (by simp))
  | true =>
    have := specPl_l xs (areN_fine g) xs.length 0 [] 0 0 (by omega) (by simp) (by omega) (by omega)
    exact epos rfl (by simpa using this)
theorem playR_len (xs : List Int) : (playR xs).1.length ≤ 1048576 := by
  unfold playR
  split
  · rename_i g
    have := (areN_fine g).1
    simp only [plays_len]; omega
  · simp
/-! one who remembers all -/
theorem l1Has_l (xs : List Int) (a : Int) (hn : xs.length ≤ 9223372036854775807) : ∀ (d i : Nat), i + d = xs.length → Ev (fun k => spec_l1Has.l0 k a xs (xs.length : Int) (i : Int)) (decide (a ∈ xs.drop i)) := by
  intro d
  induction d with
  | zero =>
    intro i hi
    refine eround (fun k => by rw [spec_l1Has.l0]) (eneg (by omega) (enow ?_))
    rw [List.drop_eq_nil_of_le (by omega)]; simp
  | succ d ih =>
    intro i hi
    have hlt : i < xs.length := by omega
    refine eround (fun k => by rw [spec_l1Has.l0]) (epos (by omega) (epos (by omega) (epos (by omega) ?_)))
    rw [rd_get xs i hlt, List.drop_eq_getElem_cons hlt]
    by_cases e : xs[i] = a
    · exact epos e (enow (by simp [e]))
    · refine eneg e ?_
      rw [w64 (by omega) (by omega)]
      have : decide (a ∈ xs[i] :: List.drop (i + 1) xs) = decide (a ∈ List.drop (i + 1) xs) := by
        apply decide_eq_decide.2
        rw [List.mem_cons]
        exact ⟨fun h => h.resolve_left (fun z => e z.symm), Or.inr⟩
      rw [this]
      exact ih (i + 1) (by omega)
theorem l1Has_e (xs : List Int) (a : Int) (hn : xs.length ≤ 9223372036854775807) : Ev (fun k => spec_l1Has.f k xs a) (decide (a ∈ xs)) := l1Has_l xs a hn xs.length 0 (by omega)
def allG : List Int → List Int → Int → List Int → List Int
  | [], _, _, out => out
  | n :: ns, xt, top, out => if n ∈ xt then allG ns xt top (out ++ [1]) else (if 16 ≤ top - n then allG ns xt top (out ++ [2]) else allG ns (xt ++ [n]) (if top < n then n else top) (out ++ [0]))
theorem allG_len : ∀ (ns xt : List Int) (top : Int) (out : List Int), (allG ns xt top out).length = out.length + ns.length
  | [], _, _, _ => rfl
  | n :: ns, xt, top, out => by
    unfold allG
    split
    · rw [allG_len]; simp; omega
    · split
      · rw [allG_len]; simp; omega
      · rw [allG_len]; simp; omega
theorem implG_eq : ∀ (ns xt : List Int) (top : Int) (out : List Int), (∀ n ∈ ns, 1 ≤ n ∧ n ≤ 100000) → 0 ≤ top → top ≤ 100000 → impl_PlayAll.g ns xt top out = some (allG ns xt top out)
  | [], _, _, _, _, _, _ => rfl
  | n :: ns, xt, top, out, h, h0, h1 => by
    have hn := h n (by simp)
    have hr : ∀ m ∈ ns, 1 ≤ m ∧ m ≤ 100000 := fun m hm => h m (by simp [hm])
    unfold impl_PlayAll.g allG
    rw [if_pos hn]
    by_cases c : n ∈ xt
    · rw [if_pos (by simpa using c), if_pos c]
      exact implG_eq ns xt top _ hr h0 h1
    · rw [if_neg (by simpa using c), if_neg c, w64 (by omega) (by omega)]
      by_cases c2 : 16 ≤ top - n
      · rw [if_pos c2, if_pos c2]
        exact implG_eq ns xt top _ hr h0 h1
      · rw [if_neg c2, if_neg c2]
        exact implG_eq ns _ _ _ hr (by split <;> omega) (by split <;> omega)
theorem specG_l (xs : List Int) (hl : xs.length ≤ 60) (hx : ∀ n ∈ xs, 1 ≤ n ∧ n ≤ 100000) : ∀ (d i : Nat) (xt out : List Int) (top : Int), i + d = xs.length → xt.length ≤ i → out.length ≤ i → 0 ≤ top → top ≤ 100000 → Ev (fun k => spec_PlayAll.l0 k xt out top xs (xs.length : Int) (i : Int)) (allG (xs.drop i) xt top out, true) := by
  intro d
  induction d with
  | zero =>
    intro i xt out top hi h1 h2 h3 h4
    refine eround (fun k => by rw [spec_PlayAll.l0]) (eneg (by omega) (enow ?_))
    rw [List.drop_eq_nil_of_le (by omega), allG]
  | succ d ih =>
    intro i xt out top hi h1 h2 h3 h4
    have hlt : i < xs.length := by omega
    have hn := hx _ (List.getElem_mem hlt)
    refine eround (fun k => by rw [spec_PlayAll.l0]) (epos (by omega) (epos (by omega) (epos (by omega) ?_)))
    rw [rd_get xs i hlt, List.drop_eq_getElem_cons hlt, allG, w64 (x := (i : Int) + 1) (by omega) (by omega), w64 (x := top - xs[i]) (by omega) (by omega)]
    refine ebind (l1Has_e xt xs[i] (by omega)) ?_
    by_cases c : xs[i] ∈ xt
    · rw [if_pos c]
      refine epos (decide_eq_true c) (epos (by omega) ?_)
      exact ih (i + 1) xt _ top (by omega) (by omega) (by simp; omega) h3 h4
    · rw [if_neg c]
      refine eneg (by simpa using c) ?_
      by_cases c2 : 16 ≤ top - xs[i]
      · rw [if_pos c2]
        refine epos c2 (epos (by omega) ?_)
        exact ih (i + 1) xt _ top (by omega) (by omega) (by simp; omega) h3 h4
      · rw [if_neg c2]
        refine eneg c2 (epos (by omega) (enb rfl (epos (by omega) (enb rfl ?_))))
        by_cases c3 : top < xs[i]
        · rw [if_pos c3]
          refine epos c3 ?_
          exact ih (i + 1) _ _ xs[i] (by omega) (by simp; omega) (by simp; omega) (by omega) hn.2
        · rw [if_neg c3]
          refine eneg c3 ?_
          exact ih (i + 1) _ _ top (by omega) (by simp; omega) (by simp; omega) h3 h4
def allP (xs : List Int) : List Int × Bool := if areN xs = true then (allG xs [] 0 [], true) else ([], false)
theorem allP_len (xs : List Int) (h : xs.length ≤ 1048576) : (allP xs).1.length ≤ 1048576 := by
  unfold allP
  split
  · rw [allG_len]; simpa using h
  · simp
theorem specPA_e (xs : List Int) (hn : xs.length ≤ 1048576) : Ev (fun k => spec_PlayAll.f k xs) (allP xs) := by
  unfold spec_PlayAll.f allP
  refine ebind (specAre_e xs hn) ?_
  cases g : areN xs with
  | false => exact eneg (by decide) (enow (by simp))
  | true =>
    have f := areN_fine g
    have := specG_l xs f.1 f.2 xs.length 0 [] [] 0 (by omega) (by simp) (by simp) (by omega) (by omega)
    exact epos rfl (by simpa using this)
theorem implPA_e (xs : List Int) (hn : xs.length ≤ 1048576) : Ev (fun k => impl_PlayAll.f k xs) (allP xs) := by
  unfold impl_PlayAll.f allP
  refine ebind (implAre_e xs hn) ?_
  cases g : areN xs with
  | false => exact eneg (by decide) (enow (by simp))
  | true =>
    have f := areN_fine g
    refine epos rfl (epos (by have := f.1; omega) ?_)
    rw [implG_eq xs [] 0 [] f.2 (by omega) (by omega)]
    exact enow (by simp)
def goodW (T B : Int) : Bool := inR 0 100000 T && (inR 0 65535 B && (((Go.bits .and .i64 B 1) == 1) == (T != 0) && (decide (T ≥ 16) || (shr .i64 B T == 0))))
noncomputable def allow (i T B : Nat) : Bool := @decide (∀ j, j < 16 → i ≤ j → B.testBit j = true → j < T) (Classical.propDecidable _)
theorem allow_iff {i T B : Nat} : allow i T B = true ↔ ∀ j, j < 16 → i ≤ j → B.testBit j = true → j < T := by unfold allow; exact @decide_eq_true_iff _ (Classical.propDecidable _)
theorem gw_l (T B : Nat) (hT : T ≤ 100000) (hB : B ≤ 65535) : ∀ (d i : Nat), i + d = 16 → Ev (fun k => spec_GoodWindow.l0 k (i : Int) (T : Int) (B : Int)) (allow i T B) := by
  intro d
  induction d with
  | zero =>
    intro i hi
    refine eround (fun k => by rw [spec_GoodWindow.l0]) (eneg (by omega) (enow ?_))
    symm
    rw [allow_iff]
    intro j h1 h2
    omega
  | succ d ih =>
    intro i hi
    refine eround (fun k => by rw [spec_GoodWindow.l0]) (epos (by omega) ?_)
    rw [u64_wrap_small (i : Int) (by omega) (by omega)]
    refine epos (by omega) ?_
    rw [bit_at B i (by omega) (by omega), w64 (x := (i : Int) + 1) (by omega) (by omega), w64 (x := (T : Int) - i) (by omega) (by omega)]
    cases hb : B.testBit i with
    | true =>
      refine epos rfl ?_
      by_cases h : T ≤ i
      · refine epos (by omega) (enow ?_)
        symm
        rw [Bool.eq_false_iff]
        intro hh
        have := allow_iff.1 hh i (by omega) (Nat.le_refl i) hb
        omega
      · refine eneg (by omega) ?_
        rw [show allow i T B = allow (i + 1) T B from by
          rw [Bool.eq_iff_iff, allow_iff, allow_iff]
          constructor
          · exact fun hh j h2 h1 => hh j h2 (by omega)
          · intro hh j h2 h1 h3
            rcases Nat.eq_or_lt_of_le h1 with rfl | h4
            · omega
            · exact hh j h2 h4 h3]
        exact ih (i + 1) (by omega)
    | false =>
      refine eneg (by decide) ?_
      rw [show allow i T B = allow (i + 1) T B from by
        rw [Bool.eq_iff_iff, allow_iff, allow_iff]
        constructor
        · exact fun hh j h2 h1 => hh j h2 (by omega)
        · intro hh j h2 h1 h3
          rcases Nat.eq_or_lt_of_le h1 with rfl | h4
          · rw [hb] at h3; cases h3
          · exact hh j h2 h4 h3]
      exact ih (i + 1) (by omega)
theorem gw_tail (T B : Nat) (hB : B ≤ 65535) : allow 0 T B = (decide ((T : Int) ≥ 16) || (shr .i64 (B : Int) (T : Int) == 0)) := by
  by_cases h : T ≥ 16
  · rw [show decide ((T : Int) ≥ 16) = true from by simp; omega, Bool.true_or]
    rw [allow_iff]
    intro j h2 _ _
    omega
  · rw [show decide ((T : Int) ≥ 16) = false from by simp; omega, Bool.false_or, shr_nat B T (by omega)]
    rw [Bool.eq_iff_iff, allow_iff]
    simp only [beq_iff_eq]
    constructor
    · intro hh
      have : B >>> T = 0 := by
        apply Nat.eq_of_testBit_eq
        intro i
        rw [Nat.testBit_shiftRight, Nat.zero_testBit]
        cases hb : B.testBit (T + i) with
        | false => rfl
        | true =>
          rcases Nat.lt_or_ge (T + i) 16 with h1 | h1
          · have := hh (T + i) h1 (Nat.zero_le _) hb
            omega
          · have h2 : B < 2 ^ (T + i) := Nat.lt_of_lt_of_le (show B < 2 ^ 16 by omega) (Nat.pow_le_pow_right (by decide) h1)
            rw [Nat.testBit_lt_two_pow h2] at hb
            cases hb
      omega
    · intro hh j h2 _ h3
      have hz : B >>> T = 0 := by omega
      rcases Nat.lt_or_ge j T with h1 | h1
      · exact h1
      · have : (B >>> T).testBit (j - T) = true := by
          rw [Nat.testBit_shiftRight, show T + (j - T) = j by omega]
          exact h3
        rw [hz, Nat.zero_testBit] at this
        cases this
theorem specGW_e (T B : Int) : Ev (fun k => spec_GoodWindow.f k T B) (goodW T B) := by
  unfold spec_GoodWindow.f goodW
  refine enb (l1In_eq _ _ _) ?_
  cases h1 : inR 0 100000 T with
  | false => exact eneg (by simp) (eround (fun k => by rw [spec_GoodWindow.j0]) (epos rfl (enow (by simp))))
  | true =>
    refine epos rfl (enb (l1In_eq _ _ _) ?_)
    cases h2 : inR 0 65535 B with
    | false => exact eneg (by simp) (eround (fun k => by rw [spec_GoodWindow.j0]) (epos rfl (enow (by simp))))
    | true =>
      refine epos rfl (eround (fun k => by rw [spec_GoodWindow.j0]) ?_)
      rw [inR_iff] at h1 h2
      have e : (decide (T > 0)) = (T != 0) := by
        rw [Bool.eq_iff_iff]; simp; omega
      rw [e]
      cases h3 : (((Go.bits .and .i64 B 1) == 1) != (T != 0)) with
      | true => exact epos rfl (enow (by simp only [bne, Bool.not_eq_true'] at h3; simp [bne, h3]))
      | false =>
        refine eneg (by simp) ?_
        have h3' : (((Go.bits .and .i64 B 1) == 1) == (T != 0)) = true := by simp only [bne, Bool.not_eq_false'] at h3 ⊢; exact h3
        rw [h3', Bool.true_and, Bool.true_and, Bool.true_and]
        obtain ⟨t, rfl⟩ := Int.eq_ofNat_of_zero_le h1.1
        obtain ⟨b, rfl⟩ := Int.eq_ofNat_of_zero_le h2.1
        rw [← gw_tail t b (by omega)]
        exact gw_l t b (by omega) (by omega) 16 0 rfl
theorem implGW_eq (T B : Int) : impl_GoodWindow.f T B = some (goodW T B) := by
  unfold impl_GoodWindow.f goodW
  rw [within_eq, Option.bind_some]
  cases h1 : inR 0 100000 T with
  | false => simp
  | true =>
    rw [if_pos rfl, within_eq, Option.bind_some]
    cases h2 : inR 0 65535 B with
    | false => simp
    | true =>
      rw [if_pos rfl]
      rw [inR_iff] at h1
      cases h3 : (((Go.bits .and .i64 B 1) == 1) != (T != 0)) with
      | true => simp only [bne, Bool.not_eq_true'] at h3; simp [bne, h3]
      | false =>
        have h3' : (((Go.bits .and .i64 B 1) == 1) == (T != 0)) = true := by simp only [bne, Bool.not_eq_false'] at h3 ⊢; exact h3
        rw [h3', Bool.true_and, Bool.true_and, Bool.true_and, if_neg (by simp)]
        by_cases h : T ≥ 16
        · simp [h]
        · simp [h, h1.1]
def seenF (T B : Nat) : Nat → List Int
  | 0 => []
  | n + 1 => (if B.testBit n then [(T : Int) - n] else []) ++ seenF T B n
theorem goodW_nat {T B : Int} (h : goodW T B = true) : ∃ t b : Nat, T = t ∧ B = b ∧ t ≤ 100000 ∧ b ≤ 65535 := by
  unfold goodW at h
  simp only [Bool.and_eq_true] at h
  have h1 := inR_iff.1 h.1
  have h2 := inR_iff.1 h.2.1
  exact ⟨T.toNat, B.toNat, by omega, by omega, by omega, by omega⟩
theorem shl_nat (a i : Nat) (hi : i ≤ 16) (ha : a < 2 ^ 40) : shl .i64 (a : Int) (i : Int) = ((a <<< i : Nat) : Int) := by
  unfold shl
  have h1 : min ((i : Int)).toNat IntKind.i64.bits = i := by simp [IntKind.bits]; omega
  rw [h1, Nat.shiftLeft_eq]
  have h2 : 2 ^ i ≤ 2 ^ 16 := Nat.pow_le_pow_right (by decide) hi
  have h3 : a * 2 ^ i < 2 ^ 40 * 2 ^ 16 + 1 := by
    have := Nat.mul_le_mul (Nat.le_of_lt ha) h2
    omega
  have h4 : (2 : Nat) ^ 40 * 2 ^ 16 + 1 < 2 ^ 62 := by decide
  have := wraps_i64 ((a * 2 ^ i : Nat) : Int) (by omega) (by exact_mod_cast Nat.lt_trans h3 h4)
  rw [← this]
  push_cast
  rfl
def shW (U T B : Nat) : Nat := if U - T < 16 then (B <<< (U - T)) &&& 65535 else 0
theorem bit65535 (n : Nat) : Nat.testBit 65535 n = decide (n < 16) := by
  have := Nat.testBit_two_pow_sub_one 16 n
  simpa using this
theorem shW_bit (U T B n : Nat) : (shW U T B).testBit n = (decide (n < 16) && (decide (U - T ≤ n) && B.testBit (n - (U - T)))) := by
  unfold shW
  by_cases h : U - T < 16
  · rw [if_pos h, Nat.testBit_and, Nat.testBit_shiftLeft, bit65535, Bool.and_comm]
  · rw [if_neg h, Nat.zero_testBit]
    by_cases h2 : n < 16
    · have : ¬ U - T ≤ n := by omega
      simp [this]
    · simp [h2]
theorem shW_le (U T B : Nat) : shW U T B ≤ 65535 := by
  unfold shW
  split
  · exact Nat.and_le_right
  · omega
theorem bit_high {B n : Nat} (hB : B ≤ 65535) (hn : 16 ≤ n) : B.testBit n = false :=
  Nat.testBit_lt_two_pow (Nat.lt_of_lt_of_le (show B < 2 ^ 16 by omega) (Nat.pow_le_pow_right (by decide) hn))
theorem bit0 (B : Nat) (hB : B ≤ 65535) : (Go.bits .and .i64 (B : Int) 1 == 1) = B.testBit 0 := by
  have h := bit_at B 0 (Nat.lt_of_lt_of_le (show B < 2 ^ 16 by omega) (by decide)) (by omega)
  have h0 : shr .i64 (B : Int) ((0 : Nat) : Int) = (B : Int) := by rw [shr_nat B 0 (by omega)]; rfl
  rw [h0] at h
  rw [h]
  cases B.testBit 0 <;> rfl
theorem goodW_iff (T B : Nat) : goodW (T : Int) (B : Int) = true ↔ (T ≤ 100000 ∧ B ≤ 65535 ∧ (B.testBit 0 = true ↔ T ≠ 0) ∧ ∀ j, j < 16 → B.testBit j = true → j < T) := by
  unfold goodW
  by_cases hT : T ≤ 100000
  · by_cases hB : B ≤ 65535
    · rw [bit0 B hB, ← gw_tail T B hB]
      have h1 : inR 0 100000 (T : Int) = true := by rw [inR_iff]; omega
      have h2 : inR 0 65535 (B : Int) = true := by rw [inR_iff]; omega
      rw [h1, h2, Bool.true_and, Bool.true_and, Bool.and_eq_true, allow_iff]
      have h3 : (B.testBit 0 == ((T : Int) != 0)) = true ↔ (B.testBit 0 = true ↔ T ≠ 0) := by
        have : ((T : Int) != 0) = decide (T ≠ 0) := by
          rw [Bool.eq_iff_iff]; simp
        rw [this, beq_iff_eq]
        constructor
        · intro h; rw [h]; simp
        · intro h; rw [Bool.eq_iff_iff, h]; simp
      rw [h3]
      constructor
      · exact fun ⟨a, b⟩ => ⟨hT, hB, a, fun j h => b j h (Nat.zero_le _)⟩
      · exact fun ⟨_, _, a, b⟩ => ⟨a, fun j h _ => b j h⟩
    · have h2 : inR 0 65535 (B : Int) = false := by rw [Bool.eq_false_iff]; intro h; have := inR_iff.1 h; omega
      rw [h2]
      simp [hB]
  · have h1 : inR 0 100000 (T : Int) = false := by rw [Bool.eq_false_iff]; intro h; have := inR_iff.1 h; omega
    rw [h1]
    simp [hT]
theorem seenF_mem (T B : Nat) : ∀ k (m : Int), m ∈ seenF T B k ↔ ∃ n, n < k ∧ B.testBit n = true ∧ m = (T : Int) - n
  | 0, m => by simp [seenF]
  | k + 1, m => by
    simp only [seenF, List.mem_append]
    rw [seenF_mem T B k m]
    constructor
    · rintro (h | ⟨n, a, b, c⟩)
      · split at h
        · rename_i hb
          simp at h
          exact ⟨k, by omega, hb, h⟩
        · simp at h
      · exact ⟨n, by omega, b, c⟩
    · rintro ⟨n, a, b, c⟩
      rcases Nat.lt_succ_iff_lt_or_eq.1 a with h | h
      · exact Or.inr ⟨n, h, b, c⟩
      · subst h
        left
        rw [if_pos b, c]
        simp
/-! the window and the numbers that were taken -/
def inv (T B : Nat) (xt : List Int) : Prop := T ≤ 100000 ∧ B ≤ 65535 ∧ (∀ m ∈ xt, 1 ≤ m ∧ m ≤ (T : Int)) ∧ (∀ j, j < 16 → (B.testBit j = true ↔ (T : Int) - (j : Int) ∈ xt)) ∧ (T ≠ 0 → (T : Int) ∈ xt)
theorem inv_good {T B : Nat} {xt : List Int} (h : inv T B xt) : goodW (T : Int) (B : Int) = true := by
  obtain ⟨h1, h2, h3, h4, h5⟩ := h
  refine (goodW_iff T B).2 ⟨h1, h2, ⟨fun b => ?_, fun t => ?_⟩, fun j hj hb => ?_⟩
  · have := h3 _ ((h4 0 (by omega)).1 b)
    omega
  · exact (h4 0 (by omega)).2 (by simpa using h5 t)
  · have := h3 _ ((h4 j hj).1 hb)
    omega
theorem inv_zero : inv 0 0 [] := ⟨by omega, by omega, by simp, fun j _ => by simp, by simp⟩
theorem bit_one (j : Nat) : (1 : Nat).testBit j = decide (j = 0) := by
  have := Nat.testBit_two_pow (n := 0) (m := j)
  simp only [Nat.pow_zero] at this
  rw [this]
  apply decide_eq_decide.2
  omega
theorem inv_take {T B : Nat} {xt : List Int} (h : inv T B xt) {n : Int} (g0 : 1 ≤ n) (g1 : n ≤ 100000) :
    (n ∈ xt → takeX T B n = ((T : Int), (B : Int), 1) ∨ takeX T B n = ((T : Int), (B : Int), 2)) ∧
    (n ∉ xt → 16 ≤ (T : Int) - n → takeX T B n = ((T : Int), (B : Int), 2)) ∧
    (n ∉ xt → ¬ 16 ≤ (T : Int) - n → ∃ T' B' : Nat, takeX T B n = ((T' : Int), (B' : Int), 0) ∧ inv T' B' (xt ++ [n]) ∧ (T' : Int) = (if (T : Int) < n then n else (T : Int))) := by
  obtain ⟨h1, h2, h3, h4, h5⟩ := h
  obtain ⟨m, rfl⟩ := Int.eq_ofNat_of_zero_le (show 0 ≤ n by omega)
  refine ⟨fun hm => ?_, fun hm hl => ?_, fun hm hl => ?_⟩
  · have := h3 _ hm
    unfold takeX
    rw [if_neg (by omega)]
    by_cases c : (T : Int) - m ≥ 16
    · rw [if_pos c]
      exact Or.inr rfl
    · rw [if_neg c]
      left
      have hb : B.testBit (T - m) = true := (h4 (T - m) (by omega)).2 (by rwa [show (T : Int) - ((T - m : Nat) : Int) = (m : Int) by omega])
      have e : (T : Int) - (m : Int) = ((T - m : Nat) : Int) := by omega
      rw [e, bit_at B (T - m) (Nat.lt_of_lt_of_le (show B < 2 ^ 16 by omega) (by decide)) (by omega), hb]
      rfl
  · unfold takeX
    rw [if_neg (by omega), if_pos (by omega)]
  · by_cases c : (T : Int) - m < 0
    · have hB' : (takeX T B m) = ((m : Int), ((shW m T B ||| 1 : Nat) : Int), 0) := by
        unfold takeX
        rw [if_pos c]
        by_cases d : (T : Int) - m > -16
        · rw [if_pos d, show -((T : Int) - m) = ((m - T : Nat) : Int) by omega, shl_nat B (m - T) (by omega) (Nat.lt_of_lt_of_le (show B < 2 ^ 16 by omega) (by decide))]
          have hs : B <<< (m - T) < 2 ^ 62 := by
            rw [Nat.shiftLeft_eq]
            have h2b := h2
            have h2 : 2 ^ (m - T) ≤ 2 ^ 16 := Nat.pow_le_pow_right (by decide) (by omega)
            have := Nat.mul_le_mul h2b h2
            exact Nat.lt_of_le_of_lt this (by decide)
          have e1 := band (B <<< (m - T)) 65535 hs (by decide)
          rw [show ((65535 : Nat) : Int) = 65535 from rfl] at e1
          have e2 : shW m T B = (B <<< (m - T)) &&& 65535 := by unfold shW; rw [if_pos (by omega)]
          rw [e1, ← e2]
          have e3 := bor (shW m T B) 1 (Nat.lt_of_le_of_lt (shW_le m T B) (by decide)) (by decide)
          rw [show ((1 : Nat) : Int) = 1 from rfl] at e3
          rw [e3]
        · rw [if_neg d]
          have e2 : shW m T B = 0 := by unfold shW; rw [if_neg (by omega)]
          rw [e2]
          rfl
      refine ⟨m, _, hB', ⟨by omega, ?_, ?_, ?_, ?_⟩, ?_⟩
      · have := Nat.or_lt_two_pow (n := 16) (show shW m T B < 2 ^ 16 by have := shW_le m T B; omega) (show 1 < 2 ^ 16 by decide)
        omega
      · intro x hx
        rcases List.mem_append.1 hx with hx | hx
        · have := h3 x hx; omega
        · simp at hx; omega
      · intro j hj
        rw [Nat.testBit_or, shW_bit, bit_one]
        simp only [Bool.or_eq_true, Bool.and_eq_true, decide_eq_true_eq, List.mem_append, List.mem_singleton]
        constructor
        · rintro (⟨_, hq, hb⟩ | hz)
          · left
            have := (h4 (j - (m - T)) (by omega)).1 hb
            rwa [show (T : Int) - ((j - (m - T) : Nat) : Int) = (m : Int) - j by omega] at this
          · right; omega
        · rintro (hx | hx)
          · left
            have := h3 _ hx
            refine ⟨hj, by omega, (h4 (j - (m - T)) (by omega)).2 ?_⟩
            rwa [show (T : Int) - ((j - (m - T) : Nat) : Int) = (m : Int) - j by omega]
          · right; omega
      · intro _
        simp
      · rw [if_pos (by omega)]
    · have hb : B.testBit (T - m) = false := by
        rw [Bool.eq_false_iff]
        intro hb
        have := (h4 (T - m) (by omega)).1 hb
        rw [show (T : Int) - ((T - m : Nat) : Int) = (m : Int) by omega] at this
        exact hm this
      have hp : 2 ^ (T - m) < 2 ^ 16 := Nat.pow_lt_pow_right (by decide) (by omega)
      have hB' : (takeX T B m) = ((T : Int), ((B ||| 2 ^ (T - m) : Nat) : Int), 0) := by
        unfold takeX
        rw [if_neg c, if_neg (by omega), show (T : Int) - m = ((T - m : Nat) : Int) by omega, bit_at B (T - m) (Nat.lt_of_lt_of_le (show B < 2 ^ 16 by omega) (by decide)) (by omega), hb]
        rw [if_neg (by simp)]
        have e1 := shl_nat 1 (T - m) (by omega) (by decide)
        rw [show ((1 : Nat) : Int) = 1 from rfl, Nat.shiftLeft_eq, Nat.one_mul] at e1
        rw [e1]
        have e3 := bor B (2 ^ (T - m)) (Nat.lt_of_lt_of_le (show B < 2 ^ 16 by omega) (by decide)) (Nat.lt_of_lt_of_le hp (by decide))
        rw [e3]
      refine ⟨T, _, hB', ⟨by omega, ?_, ?_, ?_, ?_⟩, ?_⟩
      · have := Nat.or_lt_two_pow (n := 16) (show B < 2 ^ 16 by omega) hp
        omega
      · intro x hx
        rcases List.mem_append.1 hx with hx | hx
        · exact h3 x hx
        · simp at hx; omega
      · intro j hj
        rw [Nat.testBit_or, Nat.testBit_two_pow]
        simp only [Bool.or_eq_true, decide_eq_true_eq, List.mem_append, List.mem_singleton]
        rw [h4 j hj]
        constructor
        · rintro (hx | hx)
          · exact Or.inl hx
          · right; omega
        · rintro (hx | hx)
          · exact Or.inl hx
          · right; omega
      · intro ht
        exact List.mem_append.2 (Or.inl (h5 ht))
      · rw [if_neg (by omega)]
theorem inv_good_back {T B : Nat} (h : goodW (T : Int) (B : Int) = true) : inv T B (seenF T B 16) := by
  obtain ⟨h1, h2, h3, h4⟩ := (goodW_iff T B).1 h
  refine ⟨h1, h2, ?_, ?_, ?_⟩
  · intro m hm
    obtain ⟨n, n1, n2, n3⟩ := (seenF_mem _ _ _ _).1 hm
    have := h4 n n1 n2
    omega
  · intro j hj
    rw [seenF_mem]
    constructor
    · exact fun hb => ⟨j, hj, hb, rfl⟩
    · rintro ⟨n, n1, n2, n3⟩
      have : j = n := by omega
      rwa [this]
  · intro ht
    exact (seenF_mem _ _ _ _).2 ⟨0, by omega, h3.2 ht, by simp⟩
/-- The two runs side by side. -/
theorem run_rel : ∀ (ns : List Int) (T B : Nat) (xt out : List Int), inv T B xt → (∀ n ∈ ns, 1 ≤ n ∧ n ≤ 100000) → ∃ az : List Int, allG ns xt T out = out ++ az ∧ az.length = ns.length ∧
    (∀ i, i < ns.length → (plays T B ns).1.getD i 0 = az.getD i 0 ∨ (az.getD i 0 = 1 ∧ (plays T B ns).1.getD i 0 = 2)) ∧
    (∀ i, i < ns.length → (plays T B ns).1.getD i 0 = 0 → ns.getD i 0 ∉ xt ∧ ∀ k, k < i → ns.getD k 0 = ns.getD i 0 → (plays T B ns).1.getD k 0 ≠ 0) ∧
    ∃ (T' B' : Nat) (xt' : List Int), (plays T B ns).2 = ((T' : Int), (B' : Int)) ∧ inv T' B' xt'
  | [], T, B, xt, out, h, _ => ⟨[], by simp [allG], rfl, by simp, by simp, T, B, xt, rfl, h⟩
  | n :: ns, T, B, xt, out, h, hx => by
    obtain ⟨g0, g1⟩ := hx n (by simp)
    have hx' : ∀ m ∈ ns, 1 ≤ m ∧ m ≤ 100000 := fun m hm => hx m (by simp [hm])
    obtain ⟨t1, t2, t3⟩ := inv_take h g0 g1
    -- a step that leaves the window as it is
    have same : ∀ (c a : Int), c ≠ 0 → (c = a ∨ (a = 1 ∧ c = 2)) → takeX T B n = ((T : Int), (B : Int), c) → allG (n :: ns) xt T out = allG ns xt T (out ++ [a]) → ∃ az : List Int, allG (n :: ns) xt T out = out ++ az ∧ az.length = (n :: ns).length ∧
        (∀ i, i < (n :: ns).length → (plays T B (n :: ns)).1.getD i 0 = az.getD i 0 ∨ (az.getD i 0 = 1 ∧ (plays T B (n :: ns)).1.getD i 0 = 2)) ∧
        (∀ i, i < (n :: ns).length → (plays T B (n :: ns)).1.getD i 0 = 0 → (n :: ns).getD i 0 ∉ xt ∧ ∀ k, k < i → (n :: ns).getD k 0 = (n :: ns).getD i 0 → (plays T B (n :: ns)).1.getD k 0 ≠ 0) ∧
        ∃ (T' B' : Nat) (xt' : List Int), (plays T B (n :: ns)).2 = ((T' : Int), (B' : Int)) ∧ inv T' B' xt' := by
      intro c a hc hca ht ha
      obtain ⟨az, q1, q2, q3, q4, q5⟩ := run_rel ns T B xt (out ++ [a]) h hx'
      have hp : plays T B (n :: ns) = (c :: (plays T B ns).1, (plays T B ns).2) := by simp only [plays]; rw [ht]
      rw [hp, ha]
      refine ⟨a :: az, by rw [q1]; simp, by simp [q2], ?_, ?_, q5⟩
      · intro i hi
        cases i with
        | zero => simpa using hca
        | succ i => simpa using q3 i (by simpa using hi)
      · intro i hi h0
        cases i with
        | zero => exact absurd (by simpa using h0) hc
        | succ i =>
          obtain ⟨r1, r2⟩ := q4 i (by simpa using hi) (by simpa using h0)
          refine ⟨by simpa using r1, fun k hk he => ?_⟩
          cases k with
          | zero => simpa using hc
          | succ k => simpa using r2 k (by omega) (by simpa using he)
    by_cases c1 : n ∈ xt
    · have ha : allG (n :: ns) xt T out = allG ns xt T (out ++ [1]) := by rw [allG, if_pos c1]
      rcases t1 c1 with t | t
      · exact same 1 1 (by omega) (Or.inl rfl) t ha
      · exact same 2 1 (by omega) (Or.inr ⟨rfl, rfl⟩) t ha
    · by_cases c2 : 16 ≤ (T : Int) - n
      · have ha : allG (n :: ns) xt T out = allG ns xt T (out ++ [2]) := by rw [allG, if_neg c1, if_pos c2]
        exact same 2 2 (by omega) (Or.inl rfl) (t2 c1 c2) ha
      · obtain ⟨T', B', e, hi', et⟩ := t3 c1 c2
        obtain ⟨az, q1, q2, q3, q4, q5⟩ := run_rel ns T' B' (xt ++ [n]) (out ++ [0]) hi' hx'
        have hp : plays T B (n :: ns) = (0 :: (plays T' B' ns).1, (plays T' B' ns).2) := by simp only [plays]; rw [e]
        rw [hp, allG, if_neg c1, if_neg c2, ← et]
        refine ⟨0 :: az, by rw [q1]; simp, by simp [q2], ?_, ?_, q5⟩
        · intro i hi
          cases i with
          | zero => simp
          | succ i => simpa using q3 i (by simpa using hi)
        · intro i hi h0
          cases i with
          | zero => exact ⟨by simpa using c1, fun k hk => absurd hk (by omega)⟩
          | succ i =>
            obtain ⟨r1, r2⟩ := q4 i (by simpa using hi) (by simpa using h0)
            simp only [List.mem_append, List.mem_singleton, not_or] at r1
            refine ⟨by simpa using r1.1, fun k hk he => ?_⟩
            cases k with
            | zero => exact absurd (by simpa using he.symm) (by simpa using r1.2)
            | succ k => simpa using r2 k (by omega) (by simpa using he)
/-! the cursor of what is drawn -/
def bytes (s : List Int) : Prop := ∀ x ∈ s, 0 ≤ x ∧ x ≤ 255
theorem bytes_of {s : List Int} (h : ∀ x ∈ s, (Lit.int .u8 x).wf = true) : bytes s := by
  intro x hx
  have := h x hx
  simp [Lit.wf, IntKind.min, IntKind.max, IntKind.bits, IntKind.signed] at this
  omega
theorem u64_range (y : Int) : 0 ≤ IntKind.u64.wrap y ∧ IntKind.u64.wrap y < 18446744073709551616 := by
  simp only [IntKind.wrap, IntKind.bits, IntKind.signed]
  constructor
  · simp; omega
  · simp; omega
theorem wraps_u64 (n : Int) (h0 : 0 ≤ n) (h1 : n < 2 ^ 62) : IntKind.u64.wrap n = n := by
  have : (2 : Int) ^ 62 = 4611686018427387904 := by decide
  exact u64_wrap_small n h0 (by omega)
theorem and255 (x : Int) (h0 : 0 ≤ x) (h1 : x < 4611686018427387904) : 0 ≤ Go.bits .and .u64 x 255 ∧ Go.bits .and .u64 x 255 ≤ 255 := by
  obtain ⟨a, rfl⟩ := Int.eq_ofNat_of_zero_le h0
  have ha : a < 2 ^ 62 := by have : (2 : Nat) ^ 62 = 4611686018427387904 := by decide
                             omega
  have := (bits_nat .u64 62 (by decide) wraps_u64 a 255 ha (by decide)).1
  rw [show ((255 : Nat) : Int) = 255 from rfl] at this
  rw [this]
  have : a &&& 255 ≤ 255 := Nat.and_le_right
  omega
theorem and_u64 (y : Int) : 0 ≤ wrap64 (Go.bits .and .u64 (IntKind.u64.wrap y / 1099511627776) 255) ∧ wrap64 (Go.bits .and .u64 (IntKind.u64.wrap y / 1099511627776) 255) ≤ 255 := by
  have r := u64_range y
  have := and255 (IntKind.u64.wrap y / 1099511627776) (by omega) (by omega)
  rw [w64 (by omega) (by omega)]
  exact this
theorem bytes_rd {s : List Int} (hb : bytes s) (p : Int) (h0 : 0 ≤ p) (h1 : p < s.length) : 0 ≤ rd s p ∧ rd s p ≤ 255 := by
  obtain ⟨i, rfl⟩ := Int.eq_ofNat_of_zero_le h0
  rw [rd_get s i (by omega)]
  exact hb _ (List.getElem_mem _)
theorem next_e (s : List Int) (hb : bytes s) (p x : Int) (h0 : 0 ≤ p) (h1 : p ≤ 1152921504606846976) : ∃ v x', spec_l1Cur_next.f s p x = some (v, p + 1, x') ∧ 0 ≤ v ∧ v ≤ 255 := by
  unfold spec_l1Cur_next.f
  rw [w64 (x := p + 1) (by omega) (by omega)]
  by_cases h : p < (s.length : Int)
  · have := bytes_rd hb p h0 h
    rw [w64 (x := rd s p) (by omega) (by omega), if_pos h, if_pos h0, if_pos (by omega)]
    exact ⟨_, _, rfl, this⟩
  · rw [if_neg h, if_neg (by omega)]
    exact ⟨_, _, rfl, and_u64 _⟩
theorem tmod_range (v n : Int) (h0 : 0 ≤ v) (h : 1 < n) : 0 ≤ Int.tmod v n ∧ Int.tmod v n < n := by
  rw [Int.tmod_eq_emod_of_nonneg h0]
  exact ⟨Int.emod_nonneg _ (by omega), Int.emod_lt_of_pos _ (by omega)⟩
theorem pick_e (s : List Int) (hb : bytes s) (p x n : Int) (h0 : 0 ≤ p) (h1 : p ≤ 1152921504606846900) : ∃ r p' x', spec_l1Cur_pick.f s p x n = some (r, p', x') ∧ (0 ≤ r ∧ (n ≤ 1 → r = 0) ∧ (1 < n → r < n)) ∧ p ≤ p' ∧ p' ≤ p + 2 := by
  unfold spec_l1Cur_pick.f
  by_cases hn : n ≤ 1
  · exact ⟨0, p, x, by rw [if_pos hn], ⟨by omega, fun _ => rfl, fun h => by omega⟩, by omega, by omega⟩
  · rw [if_neg hn]
    obtain ⟨v, x', e, v0, v1⟩ := next_e s hb p x h0 (by omega)
    rw [e, Option.bind_some]
    by_cases h2 : n > 200
    · obtain ⟨u, x'', e', u0, u1⟩ := next_e s hb (p + 1) x' (by omega) (by omega)
      rw [if_pos h2]
      simp only [e', Option.bind_some]
      rw [if_neg (by omega), w64 (x := v * 256) (by omega) (by omega), w64 (by omega) (by omega)]
      have := tmod_range (v * 256 + u) n (by omega) (by omega)
      exact ⟨_, _, _, rfl, ⟨this.1, fun h => by omega, fun _ => this.2⟩, by omega, by omega⟩
    · rw [if_neg h2, if_neg (by omega)]
      have := tmod_range v n v0 (by omega)
      exact ⟨_, p + 1, x', rfl, ⟨this.1, fun h => by omega, fun _ => this.2⟩, by omega, by omega⟩
theorem one_e (s : List Int) (hb : bytes s) (p x n : Int) (h0 : 0 ≤ p) (h1 : p ≤ 1152921504606846900) : ∃ b p' x', spec_l1Cur_one.f s p x n = some (b, p', x') ∧ p ≤ p' ∧ p' ≤ p + 2 := by
  obtain ⟨r, p', x', e, _, h2, h3⟩ := pick_e s hb p x n h0 h1
  exact ⟨r == 0, p', x', by unfold spec_l1Cur_one.f; simp only [e, Option.bind_some], h2, h3⟩
theorem among_e (s : List Int) (hb : bytes s) (p x : Int) (l : List Int) (hl : 1 ≤ l.length) (h0 : 0 ≤ p) (h1 : p ≤ 1152921504606846900) : ∃ v p' x', spec_l1Cur_among.f s p x l = some (v, p', x') ∧ v ∈ l ∧ p ≤ p' ∧ p' ≤ p + 2 := by
  obtain ⟨r, p', x', e, ⟨r0, r1, r2⟩, h2, h3⟩ := pick_e s hb p x (l.length : Int) h0 h1
  have hr : r < (l.length : Int) := by
    by_cases h : 1 < (l.length : Int)
    · exact r2 h
    · have := r1 (by omega); omega
  refine ⟨rd l r, p', x', ?_, ?_, h2, h3⟩
  · unfold spec_l1Cur_among.f
    simp only [e, Option.bind_some]
    rw [if_pos r0, if_pos hr]
  · obtain ⟨i, rfl⟩ := Int.eq_ofNat_of_zero_le r0
    rw [rd_get l i (by omega)]
    exact List.getElem_mem _
theorem nums_j3 (s : List Int) (hb : bytes s) (out : List Int) (p x : Int) (ho : out.length ≤ 1000) (h0 : 0 ≤ p) (h1 : p ≤ 1152921504606840000) : ∃ l p' x', Ev (fun k => spec_l1Cur_numbers.j3 k out s p x) (l, p', x') ∧ l.length = out.length ∧ p ≤ p' ∧ p' ≤ p + 4 := by
  by_cases hl : (out.length : Int) > 0
  · obtain ⟨b, p1, x1, e, g1, g2⟩ := one_e s hb p x 20 h0 (by omega)
    cases b with
    | false =>
      refine ⟨out, p1, x1, ?_, rfl, by omega, by omega⟩
      refine eround (fun k => by rw [spec_l1Cur_numbers.j3]) (epos hl ?_)
      refine enb e ?_
      exact eneg (by simp) (enow rfl)
    | true =>
      obtain ⟨v, p2, x2, e2, m2, g3, g4⟩ := among_e s hb p1 x1 [0, 100000, 100001] (by simp) (by omega) (by omega)
      refine ⟨out.set ((out.length : Int) - 1).toNat v, p2, x2, ?_, List.length_set .., by omega, by omega⟩
      refine eround (fun k => by rw [spec_l1Cur_numbers.j3]) (epos hl ?_)
      refine enb e ?_
      refine epos rfl ?_
      refine enb e2 ?_
      rw [w64 (by omega) (by omega)]
      exact epos (by omega) (epos (by omega) (enow rfl))
  · exact ⟨out, p, x, eround (fun k => by rw [spec_l1Cur_numbers.j3]) (eneg hl (enow rfl)), rfl, by omega, by omega⟩
theorem nums_l (s : List Int) (hb : bytes s) : ∀ (d : Nat) (out : List Int) (t p x : Int), out.length + 2 * d ≤ 900 → 0 ≤ p → p + 10 * d ≤ 1152921504606800000 → ∃ l p' x', Ev (fun k => spec_l1Cur_numbers.l0 k out t (d : Int) s p x) (l, p', x') ∧ l.length ≤ 61 ∧ p ≤ p' ∧ p' ≤ p + 10 * d + 12 := by
  intro d
  induction d with
  | zero =>
    intro out t p x hl h0 h1
    by_cases ho : (out.length : Int) > 60
    · obtain ⟨v, p1, x1, e, ⟨v0, _, v1⟩, g1, g2⟩ := pick_e s hb p x 9 h0 (by omega)
      have hv := v1 (by omega)
      have ht : 0 ≤ Int.tdiv v 8 ∧ Int.tdiv v 8 ≤ 1 := by
        rw [Int.tdiv_eq_ediv_of_nonneg v0]; omega
      obtain ⟨l, p2, x2, E, hl2, g3, g4⟩ := nums_j3 s hb (out.take (60 + Int.tdiv v 8).toNat) p1 x1 (by simp; omega) (by omega) (by omega)
      rw [List.length_take] at hl2
      refine ⟨l, p2, x2, ?_, by omega, by omega, by omega⟩
      refine eround (fun k => by rw [spec_l1Cur_numbers.l0]) (eneg (by omega) (epos ho ?_))
      refine enb e ?_
      rw [w64 (x := Int.tdiv v 8) (by omega) (by omega), w64 (x := 60 + Int.tdiv v 8) (by omega) (by omega)]
      exact epos (by omega) (epos (by omega) E)
    · obtain ⟨l, p2, x2, E, hl2, g3, g4⟩ := nums_j3 s hb out p x (by omega) h0 (by omega)
      exact ⟨l, p2, x2, eround (fun k => by rw [spec_l1Cur_numbers.l0]) (eneg (by omega) (eneg ho E)), by omega, by omega, by omega⟩
  | succ d ih =>
    intro out t p x hl h0 h1
    have J : ∀ (o : List Int) (u q y : Int), o.length ≤ out.length + 1 → p ≤ q → q ≤ p + 6 → ∃ l p' x', Ev (fun k => spec_l1Cur_numbers.j2 k o u ((d + 1 : Nat) : Int) s q y) (l, p', x') ∧ l.length ≤ 61 ∧ p ≤ p' ∧ p' ≤ p + 10 * ((d + 1 : Nat) : Int) + 12 := by
      intro o u q y ho hq hq'
      have e1 : wrap64 (((d + 1 : Nat) : Int) - 1) = (d : Int) := by rw [w64 (by omega) (by omega)]; omega
      by_cases h2 : (o.length : Int) > 1
      · obtain ⟨b, p1, x1, e, g1, g2⟩ := one_e s hb q y 4 (by omega) (by push_cast at h1; omega)
        cases b with
        | true =>
          obtain ⟨v, p2, x2, e2, ⟨v0, _, v1⟩, g3, g4⟩ := pick_e s hb p1 x1 (o.length : Int) (by omega) (by push_cast at h1; omega)
          have hv := v1 (by omega)
          obtain ⟨l, p3, x3, E, hl3, g5, g6⟩ := ih (o ++ [rd o v]) u p2 x2 (by simp; omega) (by omega) (by push_cast at h1; omega)
          refine ⟨l, p3, x3, ?_, hl3, by omega, by push_cast; omega⟩
          refine eround (fun k => by rw [spec_l1Cur_numbers.j2]) (epos h2 ?_)
          refine enb e ?_
          refine epos rfl ?_
          refine enb e2 ?_
          refine epos v0 (epos hv (epos (by omega) ?_))
          rw [e1]
          exact E
        | false =>
          obtain ⟨l, p3, x3, E, hl3, g5, g6⟩ := ih o u p1 x1 (by omega) (by omega) (by push_cast at h1; omega)
          refine ⟨l, p3, x3, ?_, hl3, by omega, by push_cast; omega⟩
          refine eround (fun k => by rw [spec_l1Cur_numbers.j2]) (epos h2 ?_)
          refine enb e ?_
          refine eneg (by simp) ?_
          rw [e1]
          exact E
      · obtain ⟨l, p3, x3, E, hl3, g5, g6⟩ := ih o u q y (by omega) (by omega) (by push_cast at h1; omega)
        refine ⟨l, p3, x3, ?_, hl3, by omega, by push_cast; omega⟩
        refine eround (fun k => by rw [spec_l1Cur_numbers.j2]) (eneg h2 ?_)
        rw [e1]
        exact E
    obtain ⟨v, p1, x1, e, ⟨v0, _, v1⟩, g1, g2⟩ := pick_e s hb p x 5 h0 (by push_cast at h1; omega)
    by_cases c0 : v = 0
    · obtain ⟨u, p2, x2, e2, _, g3, g4⟩ := pick_e s hb p1 x1 20 (by omega) (by push_cast at h1; omega)
      obtain ⟨l, p3, x3, E, r⟩ := J (out ++ [wrap64 (t + u)]) (wrap64 (t + u)) p2 x2 (by simp) (by omega) (by omega)
      refine ⟨l, p3, x3, ?_, r⟩
      refine eround (fun k => by rw [spec_l1Cur_numbers.l0]) (epos (by omega) ?_)
      refine enb e ?_
      refine epos c0 ?_
      refine enb e2 ?_
      exact epos (by omega) E
    · by_cases c1 : v = 1
      · obtain ⟨u, p2, x2, e2, _, g3, g4⟩ := pick_e s hb p1 x1 t (by omega) (by push_cast at h1; omega)
        obtain ⟨l, p3, x3, E, r⟩ := J (out ++ [wrap64 (1 + u)]) t p2 x2 (by simp) (by omega) (by omega)
        refine ⟨l, p3, x3, ?_, r⟩
        refine eround (fun k => by rw [spec_l1Cur_numbers.l0]) (epos (by omega) ?_)
        refine enb e ?_
        refine eneg c0 (epos c1 ?_)
        refine enb e2 ?_
        exact epos (by omega) E
      · obtain ⟨l, p3, x3, E, r⟩ := J (out ++ [wrap64 (t + 1)]) (wrap64 (t + 1)) p1 x1 (by simp) (by omega) (by omega)
        refine ⟨l, p3, x3, ?_, r⟩
        refine eround (fun k => by rw [spec_l1Cur_numbers.l0]) (epos (by omega) ?_)
        refine enb e ?_
        exact eneg c0 (eneg c1 (epos (by omega) E))
theorem nums_e (s : List Int) (hb : bytes s) (p x : Int) (h0 : 0 ≤ p) (h1 : p ≤ 1152921504606000000) : ∃ l p' x', Ev (fun k => spec_l1Cur_numbers.f k s p x) (l, p', x') ∧ l.length ≤ 61 ∧ p ≤ p' ∧ p' ≤ p + 1000 := by
  obtain ⟨t, p1, x1, e1, _, g1, g2⟩ := pick_e s hb p x 5 h0 (by omega)
  obtain ⟨n, p2, x2, e2, ⟨n0, _, n1⟩, g3, g4⟩ := pick_e s hb p1 x1 24 (by omega) (by omega)
  obtain ⟨b, p3, x3, e3, g5, g6⟩ := one_e s hb p2 x2 20 (by omega) (by omega)
  cases b with
  | true =>
    obtain ⟨m, p4, x4, e4, ⟨m0, _, m1⟩, g7, g8⟩ := pick_e s hb p3 x3 2 (by omega) (by omega)
    obtain ⟨l, p5, x5, E, hl, g9, g10⟩ := nums_l s hb (60 + m).toNat [] (wrap64 (1 + t)) p4 x4 (by simp; omega) (by omega) (by omega)
    refine ⟨l, p5, x5, ?_, hl, by omega, by omega⟩
    unfold spec_l1Cur_numbers.f
    refine enb e1 ?_
    refine enb e2 ?_
    refine enb e3 ?_
    refine epos rfl ?_
    refine enb e4 ?_
    refine eround (fun k => by rw [spec_l1Cur_numbers.j0]) ?_
    rw [w64 (x := 60 + m) (by omega) (by omega), show 60 + m = (((60 + m).toNat : Nat) : Int) by omega]
    exact E
  | false =>
    obtain ⟨l, p5, x5, E, hl, g9, g10⟩ := nums_l s hb n.toNat [] (wrap64 (1 + t)) p3 x3 (by simp; omega) (by omega) (by omega)
    refine ⟨l, p5, x5, ?_, hl, by omega, by omega⟩
    unfold spec_l1Cur_numbers.f
    refine enb e1 ?_
    refine enb e2 ?_
    refine enb e3 ?_
    refine eneg (by simp) ?_
    refine eround (fun k => by rw [spec_l1Cur_numbers.j0]) ?_
    rw [show ((n.toNat : Nat) : Int) = n by omega] at E
    exact E
theorem take_j0 (a b : Int) (c : Bool) (T B : Int) : ∃ r, Ev (fun k => spec_l16Take.j0 k a b c T B) r := by
  have u := fun x : Int => (u64_range x).1
  cases c with
  | true => exact ⟨_, eround (fun k => by rw [spec_l16Take.j0]) (epos rfl (enow rfl))⟩
  | false =>
    by_cases h : b ≥ 0
    · exact ⟨_, eround (fun k => by rw [spec_l16Take.j0]) (eneg (by simp) (epos h (epos (u _) (enow rfl))))⟩
    · by_cases h2 : (wrap64 (-b)) ≥ 16
      · exact ⟨_, eround (fun k => by rw [spec_l16Take.j0]) (eneg (by simp) (eneg h (epos h2 (enow rfl))))⟩
      · exact ⟨_, eround (fun k => by rw [spec_l16Take.j0]) (eneg (by simp) (eneg h (eneg h2 (epos (u _) (enow rfl)))))⟩
theorem take_e (T B n : Int) : ∃ r, Ev (fun k => spec_l16Take.f k T B n) r := by
  unfold spec_l16Take.f
  by_cases h : (wrap64 (T - n)) ≥ 16
  · exact ⟨_, epos h (enow rfl)⟩
  · by_cases h2 : (wrap64 (T - n)) ≥ 0
    · obtain ⟨r, e⟩ := take_j0 n (wrap64 (T - n)) ((Go.bits .and .i64 (shr .i64 B (IntKind.u64.wrap (wrap64 (T - n)))) 1) == 1) T B
      exact ⟨r, eneg h (epos h2 (epos (u64_range _).1 e))⟩
    · obtain ⟨r, e⟩ := take_j0 n (wrap64 (T - n)) false T B
      exact ⟨r, eneg h (eneg h2 e)⟩
theorem playN_l (xs : List Int) (hn : xs.length ≤ 1048576) : ∀ (d i : Nat) (out : List Int) (T B : Int), i + d = xs.length → out.length ≤ i → ∃ r, Ev (fun k => spec_PlayNumbers.l0 k out xs (xs.length : Int) (i : Int) T B) r := by
  intro d
  induction d with
  | zero =>
    intro i out T B hi ho
    exact ⟨_, eround (fun k => by rw [spec_PlayNumbers.l0]) (eneg (by omega) (enow rfl))⟩
  | succ d ih =>
    intro i out T B hi ho
    have hlt : i < xs.length := by omega
    obtain ⟨⟨t, b, a⟩, e⟩ := take_e T B (rd xs (i : Int))
    obtain ⟨r, E⟩ := ih (i + 1) (out ++ [a]) t b (by omega) (by simp; omega)
    refine ⟨r, ?_⟩
    refine eround (fun k => by rw [spec_PlayNumbers.l0]) (epos (by omega) (epos (by omega) (epos (by omega) ?_)))
    refine ebind e ?_
    refine epos (by omega) ?_
    rw [w64 (by omega) (by omega)]
    exact E
theorem playN_e (xs : List Int) (hn : xs.length ≤ 1048576) : ∃ r, Ev (fun k => spec_PlayNumbers.f k xs) r := by
  obtain ⟨r, E⟩ := playN_l xs hn xs.length 0 [] 0 0 (by omega) (by simp)
  unfold spec_PlayNumbers.f
  by_cases h : (xs.length : Int) ≤ 60
  · have e : Ev (fun k => spec_l16Numbers.f k xs) (xs.all (inR 1 100000)) := by
      unfold spec_l16Numbers.f
      exact epos h (ebind (l1All_e xs 1 100000 (by omega)) (enow rfl))
    cases hh : xs.all (inR 1 100000) with
    | true => exact ⟨r, ebind (hh ▸ e) (epos rfl E)⟩
    | false => exact ⟨_, ebind (hh ▸ e) (eneg (by simp) (enow rfl))⟩
  · have e : Ev (fun k => spec_l16Numbers.f k xs) false := by
      unfold spec_l16Numbers.f
      exact eneg h (enow rfl)
    exact ⟨_, ebind e (eneg (by simp) (enow rfl))⟩
theorem window_e (s : List Int) (hb : bytes s) (p x : Int) (h0 : 0 ≤ p) (h1 : p ≤ 1152921504605000000) : ∃ T B p' x', Ev (fun k => spec_l1Cur_window.f k s p x) (T, B, p', x') ∧ p ≤ p' ∧ p' ≤ p + 2000 := by
  obtain ⟨l, p1, x1, e1, hl, g1, g2⟩ := nums_e s hb p x h0 (by omega)
  obtain ⟨⟨as_, T, B, ok⟩, e2⟩ := playN_e l (by omega)
  obtain ⟨n, p2, x2, e3, _, g3, g4⟩ := pick_e s hb p1 x1 20 (by omega) (by omega)
  by_cases c0 : n = 0
  · obtain ⟨v, p3, x3, e4, _, g5, g6⟩ := among_e s hb p2 x2 [(-1), 0, 1, 65535, 65536] (by simp) (by omega) (by omega)
    refine ⟨T, v, p3, x3, ?_, by omega, by omega⟩
    unfold spec_l1Cur_window.f
    refine ebind e1 ?_
    refine ebind e2 ?_
    refine enb e3 ?_
    refine epos c0 ?_
    refine enb e4 ?_
    exact enow rfl
  · by_cases c1 : n = 1
    · obtain ⟨v, p3, x3, e4, _, g5, g6⟩ := among_e s hb p2 x2 [(-1), 0, 3, 100000, 100001] (by simp) (by omega) (by omega)
      refine ⟨v, B, p3, x3, ?_, by omega, by omega⟩
      unfold spec_l1Cur_window.f
      refine ebind e1 ?_
      refine ebind e2 ?_
      refine enb e3 ?_
      refine eneg c0 (epos c1 ?_)
      refine enb e4 ?_
      exact enow rfl
    · refine ⟨T, B, p2, x2, ?_, by omega, by omega⟩
      unfold spec_l1Cur_window.f
      refine ebind e1 ?_
      refine ebind e2 ?_
      refine enb e3 ?_
      exact eneg c0 (eneg c1 (enow rfl))
theorem sameI_l (xs ys : List Int) (hl : xs.length = ys.length) (hn : xs.length ≤ 9223372036854775807) : ∀ (d i : Nat), i + d = xs.length → Ev (fun k => laws_sameInts.l0 k xs ys (xs.length : Int) (i : Int)) (decide (xs.drop i = ys.drop i)) := by
  intro d
  induction d with
  | zero =>
    intro i hi
    refine eround (fun k => by rw [laws_sameInts.l0]) (eneg (by omega) (enow ?_))
    rw [List.drop_eq_nil_of_le (show xs.length ≤ i by omega), List.drop_eq_nil_of_le (show ys.length ≤ i by omega)]; rfl
  | succ d ih =>
    intro i hi
    have hlt : i < xs.length := by omega
    have hlt' : i < ys.length := by omega
    refine eround (fun k => by rw [laws_sameInts.l0]) (epos (by omega) (epos (by omega) (epos (by omega) (epos (by omega) ?_))))
    rw [rd_get xs i hlt, rd_get ys i hlt', List.drop_eq_getElem_cons hlt, List.drop_eq_getElem_cons hlt']
    by_cases h : xs[i] = ys[i]
    · refine epos h ?_
      rw [w64 (by omega) (by omega)]
      simp only [h, List.cons.injEq, true_and]
      exact ih (i + 1) (by omega)
    · exact eneg h (enow (by simp only [List.cons.injEq, h, false_and, decide_false]))
theorem sameI_e (xs ys : List Int) (hn : xs.length ≤ 9223372036854775807) : Ev (fun k => laws_sameInts.f k xs ys) (decide (xs = ys)) := by
  unfold laws_sameInts.f
  by_cases hl : xs.length = ys.length
  · exact epos (by omega) (sameI_l xs ys hl hn xs.length 0 (by omega))
  · refine eneg (by omega) (enow ?_)
    have : xs ≠ ys := fun h => hl (by rw [h])
    simp [this]
def tnR (T B n : Int) : Int × Int × Int × Bool := if goodW T B = true then (if inR 1 100000 n = true then ((takeX T B n).1, (takeX T B n).2.1, (takeX T B n).2.2, true) else (0, 0, 0, false)) else (0, 0, 0, false)
theorem implTN_eq (T B n : Int) : impl_TakeNumber.f T B n = some (tnR T B n) := by
  unfold impl_TakeNumber.f tnR
  rw [implGW_eq, Option.bind_some]
  by_cases g : goodW T B = true
  · rw [if_pos g, if_pos g]
    unfold impl_isTaken.f
    rw [within_eq, Option.bind_some]
    rw [show ((some (inR 1 100000 n) : Option Bool).bind fun t275 => if t275 = true then (impl_Window_take.f T B n).bind fun bt276 => some (bt276.2.1, bt276.2.2, bt276.1, true) else some (0, 0, 0, false)) = if inR 1 100000 n = true then (impl_Window_take.f T B n).bind fun bt276 => some (bt276.2.1, bt276.2.2, bt276.1, true) else some (0, 0, 0, false) from rfl]
    by_cases h : inR 1 100000 n = true
    · rw [if_pos h, if_pos h]
      obtain ⟨a, b, rfl, rfl, q1, q2⟩ := goodW_nat g
      have hn := inR_iff.1 h
      rw [implTake_eq (b : Int) (by omega) (by omega) hn.1 hn.2]
      rfl
    · rw [if_neg h, if_neg h]
  · rw [if_neg g, if_neg g]
theorem specTN_e (T B n : Int) : Ev (fun k => spec_TakeNumber.f k T B n) (tnR T B n) := by
  unfold spec_TakeNumber.f tnR
  refine ebind (specGW_e T B) ?_
  by_cases g : goodW T B = true
  · rw [if_pos g]
    refine epos g ?_
    have e : spec_l16Number.f n = some (inR 1 100000 n) := by unfold spec_l16Number.f; rw [l1In_eq]; rfl
    refine enb e ?_
    by_cases h : inR 1 100000 n = true
    · rw [if_pos h]
      obtain ⟨a, b, rfl, rfl, q1, q2⟩ := goodW_nat g
      have hn := inR_iff.1 h
      refine epos h (ebind (specTake_e (b : Int) (by omega) (by omega) hn.1 hn.2) (enow rfl))
    · rw [if_neg h]
      exact eneg h (enow rfl)
  · rw [if_neg g]
    exact eneg g (enow rfl)
theorem take_twice {T B : Nat} {xt : List Int} (h : inv T B xt) {n : Int} (g0 : 1 ≤ n) (g1 : n ≤ 100000) : ∃ (T' B' : Nat) (c e : Int), takeX T B n = ((T' : Int), (B' : Int), c) ∧ goodW (T' : Int) (B' : Int) = true ∧ takeX T' B' n = ((T' : Int), (B' : Int), e) ∧ 0 < e ∧ (T : Int) ≤ T' := by
  obtain ⟨t1, t2, t3⟩ := inv_take h g0 g1
  by_cases c1 : n ∈ xt
  · rcases t1 c1 with t | t
    · exact ⟨T, B, 1, 1, t, inv_good h, t, by omega, by omega⟩
    · exact ⟨T, B, 2, 2, t, inv_good h, t, by omega, by omega⟩
  · by_cases c2 : 16 ≤ (T : Int) - n
    · exact ⟨T, B, 2, 2, t2 c1 c2, inv_good h, t2 c1 c2, by omega, by omega⟩
    · obtain ⟨T', B', e, hi, et⟩ := t3 c1 c2
      have hT : (T : Int) ≤ T' := by rw [et]; split <;> omega
      rcases (inv_take hi g0 g1).1 (by simp) with t | t
      · exact ⟨T', B', 0, 1, e, inv_good hi, t, by omega, hT⟩
      · exact ⟨T', B', 0, 2, e, inv_good hi, t, by omega, hT⟩
theorem fto_j5 (t : List Int) (hb : bytes t) : Ev (fun k => laws_FnTakenOnce.j5 k t) true := by
  obtain ⟨T, B, p, x, e, p0, p1⟩ := window_e t hb 0 0 (by omega) (by omega)
  obtain ⟨n, p', x', e2, _⟩ := among_e t hb p x (([0, 1, T, wrap64 (T + 1), wrap64 (T - 3), wrap64 (T - 16), wrap64 (T - 15), wrap64 (T + 16), 100000, 100001] : List Int)) (by simp) (by omega) (by omega)
  have e1 : Ev (fun k => spec_DrawTakeNumber.f k t) (T, B, n) := by
    unfold spec_DrawTakeNumber.f
    exact ebind e (enb e2 (enow rfl))
  refine eround (fun k => by rw [laws_FnTakenOnce.j5]) ?_
  refine ebind e1 ?_
  refine enb (implTN_eq T B n) ?_
  refine ebind (specTN_e T B n) ?_
  refine eneg (by simp) (epos rfl (eneg (by simp) ?_))
  refine enb (implGW_eq T B) (ebind (specGW_e T B) ?_)
  refine eround (fun k => by rw [laws_FnTakenOnce.j6]) ?_
  refine eneg (by simp) ?_
  unfold tnR
  by_cases g : goodW T B = true
  · by_cases h : inR 1 100000 n = true
    · rw [if_pos g, if_pos h]
      obtain ⟨a, b, rfl, rfl, q1, q2⟩ := goodW_nat g
      have hn := inR_iff.1 h
      obtain ⟨T', B', c, e', z1, z2, z3, z4, z5⟩ := take_twice (inv_good_back g) hn.1 hn.2
      rw [z1]
      have z6 : tnR (T' : Int) (B' : Int) n = ((T' : Int), (B' : Int), e', true) := by
        unfold tnR
        rw [if_pos z2, if_pos h, z3]
      have z7 := implTN_eq (T' : Int) (B' : Int) n
      rw [z6] at z7
      refine epos rfl (enb z7 (enb (implGW_eq _ _) ?_))
      refine epos z2 (epos rfl (epos (by simpa using z4) (epos (by simp) (enow ?_))))
      simpa using z5
    · rw [if_pos g, if_neg h]
      exact eneg (by simp) (enow rfl)
  · rw [if_neg g]
    exact eneg (by simp) (enow rfl)
theorem rdD (xs : List Int) (i : Nat) : rd xs (i : Int) = xs.getD i 0 := by simp [rd]
theorem fto_l1 (t xs c a : List Int) (n : Int) (i : Nat) (hi : i < xs.length) (hx : xs.length ≤ 100) (hc : c.length = xs.length) (H : c.getD i 0 = 0 → ∀ k, k < i → xs.getD k 0 = xs.getD i 0 → c.getD k 0 ≠ 0)
    (N : Ev (fun k => laws_FnTakenOnce.l0 k t xs c a n (wrap64 ((i : Int) + 1))) true) : ∀ (d k : Nat), k + d = i → Ev (fun q => laws_FnTakenOnce.l1 q t xs c a (i : Int) (rd xs (i : Int)) (k : Int) n (i : Int)) true := by
  intro d
  induction d with
  | zero =>
    intro k hk
    exact eround (fun k => by rw [laws_FnTakenOnce.l1]) (eneg (by omega) N)
  | succ d ih =>
    intro k hk
    have nx : wrap64 ((k : Int) + 1) = ((k + 1 : Nat) : Int) := by rw [w64 (by omega) (by omega)]; omega
    refine eround (fun k => by rw [laws_FnTakenOnce.l1]) (epos (by omega) (epos (by omega) (epos (by omega) ?_)))
    rw [nx]
    by_cases e : rd xs (k : Int) = rd xs (i : Int)
    · refine epos e (epos (by omega) ?_)
      by_cases z : rd c (k : Int) = 0
      · refine epos z (epos (by omega) (epos (by omega) ?_))
        refine eneg ?_ (ih (k + 1) (by omega))
        intro z2
        rw [rdD] at e z z2
        rw [rdD] at e
        exact H z2 k (by omega) e z
      · exact eneg z (ih (k + 1) (by omega))
    · exact eneg e (ih (k + 1) (by omega))
theorem fto_l0 (t : List Int) (hb : bytes t) (xs c a : List Int) (hx : xs.length ≤ 100) (hc : c.length = xs.length) (ha : a.length = xs.length)
    (H1 : ∀ i, i < xs.length → c.getD i 0 = a.getD i 0 ∨ (a.getD i 0 = 1 ∧ c.getD i 0 = 2))
    (H2 : ∀ i, i < xs.length → c.getD i 0 = 0 → ∀ k, k < i → xs.getD k 0 = xs.getD i 0 → c.getD k 0 ≠ 0) :
    ∀ (d i : Nat), i + d = xs.length → Ev (fun k => laws_FnTakenOnce.l0 k t xs c a (xs.length : Int) (i : Int)) true := by
  intro d
  induction d with
  | zero =>
    intro i hi
    exact eround (fun k => by rw [laws_FnTakenOnce.l0]) (eneg (by omega) (fto_j5 t hb))
  | succ d ih =>
    intro i hi
    have hlt : i < xs.length := by omega
    have N := ih (i + 1) (by omega)
    have nx : wrap64 ((i : Int) + 1) = ((i + 1 : Nat) : Int) := by rw [w64 (by omega) (by omega)]; omega
    rw [← nx] at N
    have M := fto_l1 t xs c a (xs.length : Int) i hlt hx hc (fun z => H2 i hlt z) N i 0 (by omega)
    have M3 : Ev (fun k => laws_FnTakenOnce.j3 k t xs c a (i : Int) (rd xs (i : Int)) (xs.length : Int) (i : Int) false) true :=
      eround (fun k => by rw [laws_FnTakenOnce.j3]) (f := fun k => if false = true then some false else laws_FnTakenOnce.l1 k t xs c a (i : Int) (rd xs (i : Int)) 0 (xs.length : Int) (i : Int)) (eneg Bool.false_ne_true M)
    refine eround (fun k => by rw [laws_FnTakenOnce.l0]) (epos (by omega) (epos (by omega) (epos (by omega) (epos (by omega) (epos (by omega) ?_)))))
    by_cases e : rd c (i : Int) = rd a (i : Int)
    · exact epos e M3
    · refine eneg e ?_
      rw [rdD, rdD] at e
      obtain ⟨h1, h2⟩ := (H1 i hlt).resolve_left e
      refine epos (by rw [rdD]; exact h1) ?_
      have : (!(rd c (i : Int) == 2)) = false := by rw [rdD, h2]; rfl
      rw [this]
      exact M3
theorem FnTakenOnce : laws_FnTakenOnce.Pure := by
  intro s t _ _ hs _ _ ht
  have hbs := bytes_of hs
  have hbt := bytes_of ht
  apply Ev.rounds
  unfold laws_FnTakenOnce.f
  by_cases hbig : (wrap64 ((s.length : Int) + (t.length : Int))) > 1048576
  · exact epos hbig (enow rfl)
  refine eneg hbig ?_
  obtain ⟨xs, p', x', e, hl, _⟩ := nums_e s hbs 0 0 (by omega) (by omega)
  have e0 : Ev (fun k => spec_DrawPlayNumbers.f k s) xs := by
    unfold spec_DrawPlayNumbers.f
    exact ebind e (enow rfl)
  have hn : xs.length ≤ 1048576 := by omega
  refine ebind e0 ?_
  refine ebind (implPN_e xs hn) (ebind (specPN_e xs hn) (ebind (implPA_e xs hn) (ebind (specPA_e xs hn) ?_)))
  have s1 := sameI_e (playR xs).1 (playR xs).1 (by have := playR_len xs; omega)
  have s2 := sameI_e (allP xs).1 (allP xs).1 (by have := allP_len xs hn; omega)
  refine eneg (by simp) (ebind s1 (epos (by simp) (eneg (by simp) (eneg (by simp) (ebind s2 ?_)))))
  rw [show (!decide ((allP xs).1 = (allP xs).1)) = false by simp]
  refine eround (fun k => by rw [laws_FnTakenOnce.j0]) (eneg (by simp) ?_)
  unfold playR allP
  by_cases g : areN xs = true
  · rw [if_pos g, if_pos g]
    have f := areN_fine g
    obtain ⟨az, q1, q2, q3, q4, T', B', xt', q5, q6⟩ := run_rel xs 0 0 [] [] inv_zero f.2
    rw [show ((0 : Nat) : Int) = 0 from rfl] at q1 q3 q4 q5
    rw [List.nil_append] at q1
    have w1 : (plays 0 0 xs).2.1 = (T' : Int) := by rw [q5]
    have w2 : (plays 0 0 xs).2.2 = (B' : Int) := by rw [q5]
    dsimp only
    rw [w1, w2, q1]
    refine epos rfl (enb (implGW_eq _ _) (epos (inv_good q6) (epos rfl ?_)))
    refine eround (fun k => by rw [laws_FnTakenOnce.j1]) (eneg (by rw [plays_len, q2]; simp) ?_)
    exact fto_l0 t hbt xs (plays 0 0 xs).1 az (by omega) (plays_len xs 0 0) q2 q3 (fun i hi z => (q4 i hi z).2) xs.length 0 (by omega)
  · rw [if_neg g, if_neg g]
    exact eneg (by simp) (fto_j5 t hbt)

end Go.Proofs.Ytonejnaanklfjaa.Pure
