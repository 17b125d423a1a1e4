/- The law FnWays, told over lists: ways are made of the best hands, each hand in one way at most; the hands stand by their scores, those of one score by their numbers. No condition. -/
import Derived.Test.YtpibdgknmjjolaaQFnWaysx9
import Derived.Test.YtpibdgknmjjolaaPk
namespace Go.Proofs.Ytpibdgknmjjolaa.Pure
open Go.RowKit Go.Proofs.Ytpibdgknmjjolaa.QFnWays Go.Proofs.YtpibdgknmjjolaaW.PrintWords Go.Proofs.YtpibdgknmjjolaaW.PrintLast Go.Proofs.YtpibdgknmjjolaaW.PrintMore Go.Proofs.Ytpibdgknmjjolaa
set_option linter.unusedVariables false
set_option linter.unusedSimpArgs false

open Pk

def inR (lo hi x : Int) : Bool := decide (x ≥ lo) && decide (x ≤ hi)
theorem inR_iff {lo hi x : Int} : inR lo hi x = true ↔ lo ≤ x ∧ x ≤ hi := by simp [inR]
theorem l1In_eq (a lo hi : Int) : spec_l1In.f a lo hi = some (inR lo hi a) := by
  unfold spec_l1In.f inR
  by_cases h : a ≥ lo <;> simp [h]
theorem within_eq (a lo hi : Int) : impl_within.f a lo hi = some (inR lo hi a) := by
  unfold impl_within.f inR
  by_cases h : a ≥ lo <;> simp [h]
/-- all elements, each with its place, from place i on -/
def allI {α : Type} (p : Nat → α → Bool) : Nat → List α → Bool
  | _, [] => true
  | i, x :: xs => p i x && allI p (i + 1) xs
theorem allI_congr {α : Type} {p q : Nat → α → Bool} : ∀ (xs : List α) (i : Nat), (∀ j x, i ≤ j → j < i + xs.length → p j x = q j x) → allI p i xs = allI q i xs
  | [], _, _ => rfl
  | x :: xs, i, h => by
    simp only [allI]
    rw [h i x (Nat.le_refl _) (by simp), allI_congr xs (i + 1) (fun j y h1 h2 => h j y (by omega) (by simp only [List.length_cons]; omega))]
def tallyAt (i : Nat) (x : S68) : Bool := decide (x.f0 = (i : Int)) && (inR 0 100 x.f1 && inR 0 100 x.f2)
def tallyAt' (i : Nat) (x : S68) : Bool := (inR 0 11 x.f0 && (inR 0 100 x.f1 && inR 0 100 x.f2)) && decide (x.f0 = (i : Int))
def goodT (xs : List S68) : Bool := allI tallyAt 0 xs && inR 1 12 (xs.length : Int)
theorem l14Tally_eq (x : S68) (i : Nat) : spec_l14Tally.f x.f0 x.f1 x.f2 (i : Int) = some (tallyAt i x) := by
  unfold spec_l14Tally.f tallyAt
  rw [l1In_eq, l1In_eq]
  by_cases h : x.f0 = (i : Int) <;> cases h1 : inR 0 100 x.f1 <;> simp [h]
theorem isTally_eq (x : S68) : impl_isTally.f x.f0 x.f1 x.f2 = some (inR 0 11 x.f0 && (inR 0 100 x.f1 && inR 0 100 x.f2)) := by
  unfold impl_isTally.f
  rw [within_eq, within_eq, within_eq]
  cases h : inR 0 11 x.f0 <;> cases h1 : inR 0 100 x.f1 <;> simp
theorem specGT_l (xs : List S68) (hn : xs.length ≤ 1048576) : ∀ (d i : Nat), i + d = xs.length → Ev (fun k => spec_GoodTallies.l0 k xs xs (xs.length : Int) (i : Int)) (allI tallyAt i (xs.drop i) && inR 1 12 (xs.length : Int)) := by
  intro d
  induction d with
  | zero =>
    intro i hi
    refine eround (fun k => by rw [spec_GoodTallies.l0]) (eneg (by omega) (enb (l1In_eq _ _ _) (enow ?_)))
    rw [List.drop_eq_nil_of_le (by omega)]; rfl
  | succ d ih =>
    intro i hi
    have hlt : i < xs.length := by omega
    refine eround (fun k => by rw [spec_GoodTallies.l0]) (epos (by omega) (epos (by omega) (epos (by omega) ?_)))
    rw [show rd_T68 xs (i : Int) = xs[i] from getD_get xs i _ hlt, List.drop_eq_getElem_cons hlt]
    refine enb (l14Tally_eq _ _) ?_
    simp only [allI]
    cases h : tallyAt i xs[i] with
    | true =>
      refine epos rfl ?_
      rw [w64 (by omega) (by omega), Bool.true_and]
      exact ih (i + 1) (by omega)
    | false => exact eneg (by simp) (enow (by simp))
theorem implGT_l (xs : List S68) (hn : xs.length ≤ 1048576) : ∀ (d i : Nat), i + d = xs.length → Ev (fun k => impl_GoodTallies.l0 k xs xs (xs.length : Int) (i : Int)) (allI tallyAt' i (xs.drop i) && inR 1 12 (xs.length : Int)) := by
  intro d
  induction d with
  | zero =>
    intro i hi
    refine eround (fun k => by rw [impl_GoodTallies.l0]) (eneg (by omega) (enb (within_eq _ _ _) (enow ?_)))
    rw [List.drop_eq_nil_of_le (by omega)]; rfl
  | succ d ih =>
    intro i hi
    have hlt : i < xs.length := by omega
    refine eround (fun k => by rw [impl_GoodTallies.l0]) (epos (by omega) (epos (by omega) (epos (by omega) ?_)))
    rw [show rd_T68 xs (i : Int) = xs[i] from getD_get xs i _ hlt, List.drop_eq_getElem_cons hlt]
    refine enb (isTally_eq _) ?_
    simp only [allI, tallyAt']
    cases h : inR 0 11 xs[i].f0 && (inR 0 100 xs[i].f1 && inR 0 100 xs[i].f2) with
    | true =>
      refine epos rfl ?_
      by_cases h2 : xs[i].f0 = (i : Int)
      · refine epos h2 ?_
        rw [w64 (by omega) (by omega)]
        simp only [h2, decide_true, Bool.true_and]
        exact ih (i + 1) (by omega)
      · exact eneg h2 (enow (by simp [h2]))
    | false => exact eneg (by simp) (enow (by simp))
theorem specGT_e (xs : List S68) (hn : xs.length ≤ 1048576) : Ev (fun k => spec_GoodTallies.f k xs) (goodT xs) := specGT_l xs hn xs.length 0 (by omega)
theorem implGT_e (xs : List S68) (hn : xs.length ≤ 1048576) : Ev (fun k => impl_GoodTallies.f k xs) (goodT xs) := by
  have h := implGT_l xs hn xs.length 0 (by omega)
  have e : goodT xs = (allI tallyAt' 0 (xs.drop 0) && inR 1 12 (xs.length : Int)) := by
    unfold goodT
    cases hl : inR 1 12 (xs.length : Int) with
    | false => simp
    | true =>
      rw [inR_iff] at hl
      rw [Bool.and_true, Bool.and_true, List.drop_zero]
      refine allI_congr xs 0 (fun j x h1 h2 => ?_)
      unfold tallyAt tallyAt'
      by_cases h3 : x.f0 = (j : Int)
      · have : inR 0 11 x.f0 = true := by rw [inR_iff]; omega
        simp [h3] at this ⊢
        simp [this]
      · simp [h3]
  rw [e]
  exact h
def sc (T : List S68) (a : Int) : Int := (impl_score.f (rd_T68 T a).f0 (rd_T68 T a).f1 (rd_T68 T a).f2).getD 0
def fineT (T : List S68) : Prop := T.length ≤ 12 ∧ ∀ x ∈ T, 0 ≤ x.f1 ∧ x.f1 ≤ 100 ∧ 0 ≤ x.f2 ∧ x.f2 ≤ 100
theorem allI_all {α : Type} {p : Nat → α → Bool} {q : α → Prop} (hq : ∀ i x, p i x = true → q x) : ∀ (xs : List α) (i : Nat), allI p i xs = true → ∀ x ∈ xs, q x
  | [], _, _, x, hx => by simp at hx
  | y :: ys, i, h, x, hx => by
    simp only [allI, Bool.and_eq_true] at h
    rcases List.mem_cons.1 hx with rfl | hx
    · exact hq i _ h.1
    · exact allI_all hq ys (i + 1) h.2 x hx
theorem goodT_fine {T : List S68} (h : goodT T = true) : fineT T ∧ 1 ≤ T.length := by
  unfold goodT at h
  rw [Bool.and_eq_true, inR_iff] at h
  refine ⟨⟨by omega, allI_all (fun i x hp => ?_) T 0 h.1⟩, by omega⟩
  simp only [tallyAt, Bool.and_eq_true, inR_iff] at hp
  omega
theorem rdT_mem (T : List S68) (a : Int) (h0 : 0 ≤ a) (h1 : a < T.length) : rd_T68 T a ∈ T := by
  obtain ⟨i, rfl⟩ := Int.eq_ofNat_of_zero_le h0
  have hlt : i < T.length := by omega
  rw [show rd_T68 T (i : Int) = T[i] from getD_get _ i _ hlt]
  exact List.getElem_mem hlt
theorem score_i {T : List S68} (h : fineT T) (a : Int) (h0 : 0 ≤ a) (h1 : a < T.length) : impl_score.f (rd_T68 T a).f0 (rd_T68 T a).f1 (rd_T68 T a).f2 = some (sc T a) := by
  have := h.2 _ (rdT_mem T a h0 h1)
  unfold sc
  generalize rd_T68 T a = x at this
  have e : wrap64 (wrap64 (x.f1 + x.f2) + 2) ≠ 0 := by rw [w64 (x := x.f1 + x.f2) (by omega) (by omega), w64 (by omega) (by omega)]; omega
  unfold impl_score.f
  rw [if_neg e]; rfl
theorem score_s {T : List S68} (h : fineT T) (a : Int) (h0 : 0 ≤ a) (h1 : a < T.length) : spec_l14Score.f (rd_T68 T a).f0 (rd_T68 T a).f1 (rd_T68 T a).f2 = some (sc T a) := score_i h a h0 h1
/-! a hand is put to its place, from the left -/
def insL (s : Int → Int) (h : Int) : List Int → List Int
  | [] => [h]
  | x :: r => if s x ≥ s h then x :: insL s h r else h :: x :: r
theorem insL_mem (s : Int → Int) (h : Int) : ∀ (l : List Int) (x : Int), x ∈ insL s h l ↔ x = h ∨ x ∈ l
  | [], x => by simp [insL]
  | y :: r, x => by
    unfold insL
    split
    · simp only [List.mem_cons, insL_mem s h r x]
      exact ⟨fun z => by rcases z with z | z | z <;> simp [z], fun z => by rcases z with z | z | z <;> simp [z]⟩
    · simp only [List.mem_cons]
theorem insL_len (s : Int → Int) (h : Int) : ∀ (l : List Int), (insL s h l).length = l.length + 1
  | [] => rfl
  | y :: r => by
    unfold insL
    split
    · simp [insL_len s h r]
    · rfl
theorem insL_pre (s : Int → Int) (h : Int) : ∀ (A B : List Int), (∀ x ∈ A, s x ≥ s h) → insL s h (A ++ B) = A ++ insL s h B
  | [], _, _ => rfl
  | a :: A, B, H => by
    rw [List.cons_append, insL, if_pos (H a (by simp)), insL_pre s h A B (fun x hx => H x (by simp [hx]))]; rfl
def fallsS (s : Int → Int) (l : List Int) : Prop := l.Pairwise (fun a b => s a ≥ s b)
theorem insL_falls (s : Int → Int) (h : Int) : ∀ (l : List Int), fallsS s l → fallsS s (insL s h l)
  | [], _ => by simp [insL, fallsS]
  | y :: r, H => by
    unfold fallsS at H
    rw [List.pairwise_cons] at H
    unfold insL
    split
    · rename_i c
      unfold fallsS
      rw [List.pairwise_cons]
      refine ⟨fun x hx => ?_, insL_falls s h r H.2⟩
      rcases (insL_mem s h r x).1 hx with rfl | hx
      · exact c
      · exact H.1 x hx
    · rename_i c
      unfold fallsS
      rw [List.pairwise_cons, List.pairwise_cons]
      refine ⟨fun x hx => ?_, H⟩
      rcases List.mem_cons.1 hx with rfl | hx
      · omega
      · have := H.1 x hx; omega
def ranks (s : Int → Int) : Nat → List Int
  | 0 => []
  | n + 1 => insL s (n : Int) (ranks s n)
theorem ranks_len (s : Int → Int) : ∀ n, (ranks s n).length = n
  | 0 => rfl
  | n + 1 => by rw [ranks, insL_len, ranks_len s n]
theorem ranks_mem (s : Int → Int) : ∀ n x, x ∈ ranks s n ↔ 0 ≤ x ∧ x < (n : Int)
  | 0, x => ⟨fun h => by simp [ranks] at h, fun h => by omega⟩
  | n + 1, x => by rw [ranks, insL_mem, ranks_mem s n x]; omega
theorem ranks_falls (s : Int → Int) : ∀ n, fallsS s (ranks s n)
  | 0 => List.Pairwise.nil
  | n + 1 => insL_falls s _ _ (ranks_falls s n)
/-! the reference -/
theorem rd_mid (A : List Int) (h : Int) (Y : List Int) : rd (A ++ h :: Y) (A.length : Int) = h := by
  rw [rd_get _ _ (by simp)]; simp
theorem specRk_l1 {T : List S68} (hT : fineT T) (out : List Int) (hr : ∀ x ∈ out, 0 ≤ x ∧ x < (T.length : Int)) (hn : out.length ≤ 12) (h : Nat) (hh : h < T.length) (R : List Int) : ∀ (B A : List Int), out = A ++ B →
    Ev (fun k => spec_l14Rank.l0 k T (A ++ insL (sc T) (h : Int) B) T (T.length : Int) (wrap64 ((h : Int) + 1))) R →
    Ev (fun k => spec_l14Rank.l1 k T out (h : Int) (A.length : Int) T (T.length : Int) (h : Int) (rd_T68 T (h : Int)).f0 (rd_T68 T (h : Int)).f1 (rd_T68 T (h : Int)).f2) R := by
  intro B
  induction B with
  | nil =>
    intro A ho H
    have hA : A.length = out.length := by rw [ho]; simp
    refine eround (fun k => by rw [spec_l14Rank.l1]) (eneg (by omega) ?_)
    refine enb rfl ?_
    refine epos (by omega) (epos (by omega) ?_)
    refine enb rfl ?_
    have e : out.take ((A.length : Int)).toNat = A := by rw [ho]; simp
    have e2 : out.drop ((A.length : Int)).toNat = [] := by rw [ho]; simp
    rw [e]
    refine epos (by simp; omega) ?_
    refine enb rfl ?_
    refine epos (by simp; omega) ?_
    refine enb rfl ?_
    refine enb rfl ?_
    rw [e2]
    refine epos (by simp; omega) ?_
    simpa [insL] using H
  | cons x r ih =>
    intro A ho H
    have hx := hr x (by rw [ho]; simp)
    have hA : A.length + (r.length + 1) = out.length := by rw [ho]; simp
    refine eround (fun k => by rw [spec_l14Rank.l1]) (epos (by omega) (epos (by omega) ?_))
    rw [show rd out (A.length : Int) = x by rw [ho]; exact rd_mid A x r]
    refine epos hx.1 (epos hx.2 ?_)
    refine enb (score_s hT x hx.1 hx.2) ?_
    refine enb (score_s hT (h : Int) (by omega) (by omega)) ?_
    by_cases c : sc T x ≥ sc T (h : Int)
    · refine epos c ?_
      rw [w64 (by omega) (by omega)]
      have := ih (A ++ [x]) (by rw [ho]; simp) (by simpa [insL, c] using H)
      simpa using this
    · have e : out.take ((A.length : Int)).toNat = A := by rw [ho]; simp
      have e2 : out.drop ((A.length : Int)).toNat = x :: r := by rw [ho]; simp
      refine eneg c ?_
      refine enb rfl ?_
      refine epos (by omega) ?_
      refine enb rfl ?_
      rw [e]
      refine epos (by simp; omega) ?_
      refine enb rfl ?_
      refine epos (by simp; omega) ?_
      refine enb rfl ?_
      refine enb rfl ?_
      rw [e2]
      refine epos (by simp; omega) ?_
      simpa [insL, c] using H
theorem specRk_l0 {T : List S68} (hT : fineT T) : ∀ (d i : Nat), i + d = T.length → Ev (fun k => spec_l14Rank.l0 k T (ranks (sc T) i) T (T.length : Int) (i : Int)) (ranks (sc T) T.length) := by
  have h12 := hT.1
  intro d
  induction d with
  | zero =>
    intro i hi
    obtain rfl : i = T.length := by omega
    exact eround (fun k => by rw [spec_l14Rank.l0]) (eneg (by omega) (enow rfl))
  | succ d ih =>
    intro i hi
    refine eround (fun k => by rw [spec_l14Rank.l0]) (epos (by omega) (epos (by omega) (epos (by omega) ?_)))
    refine specRk_l1 hT (ranks (sc T) i) (fun x hx => by have := (ranks_mem (sc T) i x).1 hx; omega) (by rw [ranks_len]; omega) i (by omega) _ (ranks (sc T) i) [] (by simp) ?_
    rw [w64 (by omega) (by omega)]
    exact ih (i + 1) (by omega)
theorem specRk_e {T : List S68} (hT : fineT T) : Ev (fun k => spec_l14Rank.f k T) (ranks (sc T) T.length) := specRk_l0 hT T.length 0 (by omega)
/-! the program: each hand goes down from the right -/
def insR (s : Int → Int) (h : Int) : List Int → List Int → List Int
  | [], B => h :: B
  | a :: r, B => if s a < s h then insR s h r (a :: B) else (a :: r).reverse ++ h :: B
theorem insL_low (s : Int → Int) (h : Int) (B : List Int) (hB : ∀ b ∈ B, s b < s h) : insL s h B = h :: B := by
  cases B with
  | nil => rfl
  | cons b r => rw [insL, if_neg (by have := hB b (by simp); omega)]
theorem insR_insL (s : Int → Int) (h : Int) : ∀ (ra B : List Int), (∀ b ∈ B, s b < s h) → fallsS s (ra.reverse ++ B) → insR s h ra B = insL s h (ra.reverse ++ B)
  | [], B, hB, _ => by simp [insR, insL_low s h B hB]
  | a :: r, B, hB, H => by
    unfold insR
    by_cases c : s a < s h
    · rw [if_pos c, insR_insL s h r (a :: B) (fun b hb => by rcases List.mem_cons.1 hb with rfl | hb; exact c; exact hB b hb) (by simpa using H)]
      simp
    · rw [if_neg c, insL_pre s h _ B (fun x hx => ?_), insL_low s h B hB]
      rw [List.reverse_cons, List.append_assoc] at H
      unfold fallsS at H
      rw [List.pairwise_append] at H
      rcases List.mem_cons.1 (List.mem_reverse.1 hx) with rfl | hx
      · omega
      · have := H.2.2 x (by simpa using hx) a (by simp); omega
theorem swap_mid (A : List Int) (a h : Int) (Y : List Int) : ((A ++ a :: h :: Y).set (A.length + 1) a).set A.length h = A ++ h :: a :: Y := by
  rw [List.set_append_right _ _ (by omega), List.set_append_right _ _ (by omega)]
  simp
theorem cmp_e {T : List S68} (hT : fineT T) (a b : Int) (ha : 0 ≤ a ∧ a < (T.length : Int)) (hb : 0 ≤ b ∧ b < (T.length : Int)) : ∃ c, impl_ranked_1.f a b T = some c ∧ (c < 0 ↔ sc T b < sc T a) := by
  unfold impl_ranked_1.f
  rw [if_pos hb.1, if_pos hb.2, score_i hT b hb.1 hb.2, Option.bind_some, if_pos ha.1, if_pos ha.2, score_i hT a ha.1 ha.2, Option.bind_some]
  simp only [cmp_Compare_int.f, cmp_isNaN_int.f]
  by_cases h1 : sc T b < sc T a
  · exact ⟨-1, by simp [h1], by simp [h1]⟩
  · by_cases h2 : sc T b > sc T a
    · exact ⟨1, by simp [h1, h2], by simp [h1]⟩
    · exact ⟨0, by simp [h1, h2], by simp [h1]⟩
theorem implIn_l1 {T : List S68} (hT : fineT T) (n i h : Int) (hh : 0 ≤ h ∧ h < (T.length : Int)) (C : List Int) (R : List Int) : ∀ (ra B : List Int), (∀ x ∈ ra, 0 ≤ x ∧ x < (T.length : Int)) → ra.length + (B ++ C).length ≤ 12 →
    Ev (fun k => slices_insertionSortCmpFunc_158_at_141_50.l0 k (insR (sc T) h ra B ++ C) 0 n (wrap64 (i + 1)) T) R →
    Ev (fun k => slices_insertionSortCmpFunc_158_at_141_50.l1 k (ra.reverse ++ h :: (B ++ C)) 0 n i (ra.length : Int) T) R := by
  intro ra
  induction ra with
  | nil =>
    intro B _ _ H
    exact eround (fun k => by rw [slices_insertionSortCmpFunc_158_at_141_50.l1]) (eneg (by simp) (by simpa [insR] using H))
  | cons a r ih =>
    intro B hr hl H
    have ha := hr a (by simp)
    simp only [List.length_cons] at hl
    have e1 : wrap64 (((a :: r).length : Int) - 1) = (r.length : Int) := by rw [List.length_cons, w64 (by push_cast; omega) (by push_cast; omega)]; push_cast; omega
    have e2 : (a :: r).reverse ++ h :: (B ++ C) = r.reverse ++ a :: h :: (B ++ C) := by simp
    have r1 : rd (r.reverse ++ a :: h :: (B ++ C)) ((a :: r).length : Int) = h := by
      have := rd_mid (r.reverse ++ [a]) h (B ++ C)
      simpa using this
    have r2 : rd (r.reverse ++ a :: h :: (B ++ C)) (r.length : Int) = a := by
      have := rd_mid r.reverse a (h :: (B ++ C))
      simpa using this
    have hL : (r.reverse ++ a :: h :: (B ++ C)).length = r.length + 2 + (B ++ C).length := by simp; omega
    refine eround (fun k => by rw [slices_insertionSortCmpFunc_158_at_141_50.l1]) ?_
    rw [e1, e2, r1, r2]
    refine epos (by rw [List.length_cons]; omega) (epos (by omega) (epos (by rw [hL, List.length_cons]; omega) (epos (by omega) (epos (by rw [hL]; omega) ?_))))
    obtain ⟨c, c1, c2⟩ := cmp_e hT h a hh ha
    refine enb c1 ?_
    by_cases hc : sc T a < sc T h
    · refine epos (c2.2 hc) ?_
      have e3 : ((r.reverse ++ a :: h :: (B ++ C)).set (((a :: r).length : Int)).toNat a).set ((r.length : Int)).toNat h = r.reverse ++ h :: ((a :: B) ++ C) := by
        have := swap_mid r.reverse a h (B ++ C)
        rw [List.length_reverse] at this
        exact this
      rw [e3]
      refine ih (a :: B) (fun x hx => hr x (by simp [hx])) (by simp at hl ⊢; omega) ?_
      simpa [insR, hc] using H
    · refine eneg (fun z => hc (c2.1 z)) ?_
      rw [← e2]
      simpa [insR, hc] using H
theorem implIn_l0 {T : List S68} (hT : fineT T) : ∀ (d i : Nat), i + d = T.length → Ev (fun k => slices_insertionSortCmpFunc_158_at_141_50.l0 k (ranks (sc T) i ++ ((List.range T.length).drop i).map (fun (x : Nat) => (x : Int))) 0 (T.length : Int) (i : Int) T) (ranks (sc T) T.length) := by
  have h12 := hT.1
  intro d
  induction d with
  | zero =>
    intro i hi
    obtain rfl : i = T.length := by omega
    refine eround (fun k => by rw [slices_insertionSortCmpFunc_158_at_141_50.l0]) (eneg (by omega) (enow ?_))
    rw [List.drop_eq_nil_of_le (by simp)]; simp
  | succ d ih =>
    intro i hi
    have hlt : i < (List.range T.length).length := by simp; omega
    have hI := ih (i + 1) (by omega)
    rw [List.drop_eq_getElem_cons hlt, List.getElem_range, List.map_cons]
    generalize hC : ((List.range T.length).drop (i + 1)).map (fun (x : Nat) => (x : Int)) = C at hI
    have hCl : C.length = T.length - (i + 1) := by rw [← hC]; simp
    refine eround (fun k => by rw [slices_insertionSortCmpFunc_158_at_141_50.l0]) (epos (by omega) ?_)
    have := implIn_l1 hT (T.length : Int) (i : Int) (i : Int) ⟨by omega, by omega⟩ C (ranks (sc T) T.length) (ranks (sc T) i).reverse [] (fun x hx => by have := (ranks_mem (sc T) i x).1 (by simpa using hx); omega) (by simp [ranks_len, hCl]; omega) (by
      rw [insR_insL _ _ _ _ (by simp) (by simpa using ranks_falls (sc T) i), w64 (by omega) (by omega)]
      simpa [ranks] using hI)
    simpa [ranks_len] using this
theorem implSort_e {T : List S68} (hT : fineT T) (h1 : 1 ≤ T.length) : Ev (fun k => slices_SortStableFunc_140_at_141_50.f k ((List.range T.length).map (fun (x : Nat) => (x : Int))) T) (ranks (sc T) T.length) := by
  have h12 := hT.1
  unfold slices_SortStableFunc_140_at_141_50.f slices_stableCmpFunc_152_at_141_50.f
  have hs := implIn_l0 hT (T.length - 1) 1 (by omega)
  rw [show ranks (sc T) 1 ++ ((List.range T.length).drop 1).map (fun (x : Nat) => (x : Int)) = (List.range T.length).map (fun (x : Nat) => (x : Int)) by
    rw [show ranks (sc T) 1 = [0] from rfl]
    obtain ⟨m, hm⟩ : ∃ m, T.length = m + 1 := ⟨T.length - 1, by omega⟩
    rw [hm, List.range_succ_eq_map]; simp] at hs
  refine ebind (f := fun _ t => some t) ?_ (enow rfl)
  simp only [List.length_map, List.length_range]
  refine eround (fun k => by rw [slices_stableCmpFunc_152_at_141_50.l0]) (eneg (by omega) (ebind (a := ranks (sc T) T.length) ?_ ?_))
  · unfold slices_insertionSortCmpFunc_158_at_141_50.f
    rw [w64 (by omega) (by omega)]
    exact hs
  · exact eround (fun k => by rw [slices_stableCmpFunc_152_at_141_50.l1]) (eneg (by omega) (enow rfl))
theorem implRk_l {T : List S68} (hT : fineT T) (h1 : 1 ≤ T.length) : ∀ (d i : Nat), i + d = T.length → Ev (fun k => impl_ranked.l0 k ((List.range i).map (fun (x : Nat) => (x : Int))) (T.length : Int) (i : Int) T) (ranks (sc T) T.length) := by
  have h12 := hT.1
  intro d
  induction d with
  | zero =>
    intro i hi
    obtain rfl : i = T.length := by omega
    exact eround (fun k => by rw [impl_ranked.l0]) (eneg (by omega) (ebind (f := fun _ t => some t) (implSort_e hT h1) (enow rfl)))
  | succ d ih =>
    intro i hi
    refine eround (fun k => by rw [impl_ranked.l0]) (epos (by omega) (epos (by simp; omega) ?_))
    rw [w64 (by omega) (by omega)]
    have := ih (i + 1) (by omega)
    rw [List.range_succ, List.map_append] at this
    exact this
theorem implRk_e {T : List S68} (hT : fineT T) (h1 : 1 ≤ T.length) : Ev (fun k => impl_ranked.f k T) (ranks (sc T) T.length) := implRk_l hT h1 T.length 0 (by omega)
def rankR (T : List S68) : List Int × Bool := if goodT T then (ranks (sc T) T.length, true) else ([], false)
theorem rankR_len (T : List S68) : (rankR T).1.length ≤ 1048576 := by
  unfold rankR
  split
  · rename_i g
    have := (goodT_fine g).1.1
    simp only [ranks_len]; omega
  · simp
theorem specRH_e (T : List S68) (hn : T.length ≤ 1048576) : Ev (fun k => spec_RankHands.f k T) (rankR T) := by
  unfold spec_RankHands.f rankR
  refine ebind (specGT_e T hn) ?_
  cases g : goodT T with
  | false => exact eneg (by decide) (enow (by simp))
  | true => exact epos rfl (ebind (specRk_e (goodT_fine g).1) (enow (by simp)))
theorem implRH_e (T : List S68) (hn : T.length ≤ 1048576) : Ev (fun k => impl_RankHands.f k T) (rankR T) := by
  unfold impl_RankHands.f rankR
  refine ebind (implGT_e T hn) ?_
  cases g : goodT T with
  | false => exact eneg (by decide) (enow (by simp))
  | true => exact epos rfl (ebind (implRk_e (goodT_fine g).1 (goodT_fine g).2) (enow (by simp)))
def wayFrom (r : List Int) (m k : Nat) : Nat → Nat → List Int
  | _, 0 => []
  | i, d + 1 => rd r ((k + i * m : Nat) : Int) :: wayFrom r m k (i + 1) d
def waysFrom (r : List Int) (m long : Nat) : Nat → Nat → List (List Int)
  | _, 0 => []
  | k, d + 1 => wayFrom r m k 0 long :: waysFrom r m long (k + 1) d
theorem wayFrom_len (r : List Int) (m k : Nat) : ∀ d i, (wayFrom r m k i d).length = d
  | 0, _ => rfl
  | d + 1, i => by simp [wayFrom, wayFrom_len r m k d (i + 1)]
theorem waysFrom_len (r : List Int) (m long : Nat) : ∀ d k, (waysFrom r m long k d).length = d
  | 0, _ => rfl
  | d + 1, k => by simp [waysFrom, waysFrom_len r m long d (k + 1)]
theorem waysFrom_rows (r : List Int) (m long : Nat) : ∀ d k, ∀ y ∈ waysFrom r m long k d, y.length = long
  | 0, _, y, hy => by simp [waysFrom] at hy
  | d + 1, k, y, hy => by
    rw [waysFrom, List.mem_cons] at hy
    rcases hy with rfl | hy
    · exact wayFrom_len r m k long 0
    · exact waysFrom_rows r m long d (k + 1) y hy
theorem ways_ix {r : List Int} {m long k i : Nat} (hm : m ≤ 12) (hl : long ≤ 4) (hk : k < m) (hi : i < long) (hr : long * m ≤ r.length) : wrap64 ((k : Int) + wrap64 ((i : Int) * (m : Int))) = ((k + i * m : Nat) : Int) ∧ k + i * m < r.length := by
  have h1 : (i + 1) * m ≤ long * m := Nat.mul_le_mul_right m hi
  have h2 : i * m ≤ 4 * 12 := Nat.mul_le_mul (by omega) hm
  rw [Nat.succ_mul] at h1
  have h3 : (i : Int) * (m : Int) = ((i * m : Nat) : Int) := by push_cast; rfl
  rw [h3, w64 (x := ((i * m : Nat) : Int)) (by omega) (by omega), w64 (by omega) (by omega)]
  exact ⟨by push_cast; rfl, by omega⟩
theorem specWays_l1 (r : List Int) (m long k : Nat) (out : List (List Int)) (R : List (List Int) × Bool) (hm : m ≤ 12) (hl : long ≤ 4) (hk : k < m) (hr : long * m ≤ r.length) (ho : out.length ≤ 12)
    (H : Ev (fun kk => spec_WaysOf.l0 kk (long : Int) r (m : Int) (out ++ [wayFrom r m k 0 long]) (wrap64 ((k : Int) + 1))) R) : ∀ (d i : Nat) (acc : List Int), i + d = long → acc ++ wayFrom r m k i d = wayFrom r m k 0 long → acc.length ≤ i →
    Ev (fun kk => spec_WaysOf.l1 kk (long : Int) r (m : Int) out (k : Int) acc (i : Int)) R := by
  intro d
  induction d with
  | zero =>
    intro i acc hi he ha
    refine eround (fun k => by rw [spec_WaysOf.l1]) (eneg (by omega) (epos (by omega) ?_))
    rw [wayFrom, List.append_nil] at he
    rw [he]; exact H
  | succ d ih =>
    intro i acc hi he ha
    obtain ⟨e1, e2⟩ := ways_ix hm hl hk (show i < long by omega) hr
    refine eround (fun k => by rw [spec_WaysOf.l1]) (epos (by omega) ?_)
    rw [e1]
    refine epos (by omega) (epos (by omega) (epos (by omega) ?_))
    rw [w64 (by omega) (by omega)]
    exact ih (i + 1) _ (by omega) (by rw [← he, wayFrom, List.append_assoc]; rfl) (by simp; omega)
theorem specWays_l0 (r : List Int) (m long : Nat) (hm : m ≤ 12) (hl : long ≤ 4) (hr : long * m ≤ r.length) : ∀ (d k : Nat) (out : List (List Int)), k + d = m → out.length = k → Ev (fun kk => spec_WaysOf.l0 kk (long : Int) r (m : Int) out (k : Int)) (out ++ waysFrom r m long k d, true) := by
  intro d
  induction d with
  | zero =>
    intro k out hk ho
    exact eround (fun k => by rw [spec_WaysOf.l0]) (eneg (by omega) (enow (by simp [waysFrom])))
  | succ d ih =>
    intro k out hk ho
    refine eround (fun k => by rw [spec_WaysOf.l0]) (epos (by omega) ?_)
    refine specWays_l1 r m long k out _ hm hl (by omega) hr (by omega) ?_ long 0 [] (by omega) (by simp) (by simp)
    rw [w64 (by omega) (by omega)]
    have := ih (k + 1) (out ++ [wayFrom r m k 0 long]) (by omega) (by simp [ho])
    simpa [waysFrom] using this
theorem implWays_l1 (r : List Int) (m long k : Nat) (out : List (List Int)) (R : List (List Int) × Bool) (hm : m ≤ 12) (hl : long ≤ 4) (hk : k < m) (hr : long * m ≤ r.length) (ho : out.length ≤ 12)
    (H : Ev (fun kk => impl_WaysOf.l0 kk (long : Int) r (out ++ [wayFrom r m k 0 long]) (m : Int) (m : Int) (wrap64 ((k : Int) + 1))) R) : ∀ (d i : Nat) (acc : List Int), i + d = long → acc ++ wayFrom r m k i d = wayFrom r m k 0 long → acc.length ≤ i →
    Ev (fun kk => impl_WaysOf.l1 kk (long : Int) r out (m : Int) (k : Int) acc (m : Int) (k : Int) (long : Int) (i : Int)) R := by
  intro d
  induction d with
  | zero =>
    intro i acc hi he ha
    refine eround (fun k => by rw [impl_WaysOf.l1]) (eneg (by omega) (epos (by omega) ?_))
    rw [wayFrom, List.append_nil] at he
    rw [he]; exact H
  | succ d ih =>
    intro i acc hi he ha
    obtain ⟨e1, e2⟩ := ways_ix hm hl hk (show i < long by omega) hr
    refine eround (fun k => by rw [impl_WaysOf.l1]) (epos (by omega) ?_)
    rw [e1]
    refine epos (by omega) (epos (by omega) (epos (by omega) ?_))
    rw [w64 (by omega) (by omega)]
    exact ih (i + 1) _ (by omega) (by rw [← he, wayFrom, List.append_assoc]; rfl) (by simp; omega)
theorem implWays_l0 (r : List Int) (m long : Nat) (hm : m ≤ 12) (hl : long ≤ 4) (hr : long * m ≤ r.length) : ∀ (d k : Nat) (out : List (List Int)), k + d = m → out.length = k → Ev (fun kk => impl_WaysOf.l0 kk (long : Int) r out (m : Int) (m : Int) (k : Int)) (out ++ waysFrom r m long k d, true) := by
  intro d
  induction d with
  | zero =>
    intro k out hk ho
    exact eround (fun k => by rw [impl_WaysOf.l0]) (eneg (by omega) (enow (by simp [waysFrom])))
  | succ d ih =>
    intro k out hk ho
    refine eround (fun k => by rw [impl_WaysOf.l0]) (epos (by omega) ?_)
    refine implWays_l1 r m long k out _ hm hl (by omega) hr (by omega) ?_ long 0 [] (by omega) (by simp) (by simp)
    rw [w64 (by omega) (by omega)]
    have := ih (k + 1) (out ++ [wayFrom r m k 0 long]) (by omega) (by simp [ho])
    simpa [waysFrom] using this
def waysR (T : List S68) (a : Int) : List (List Int) × Bool := if goodT T && inR 1 4 a then (waysFrom (ranks (sc T) T.length) (T.length / a.toNat) a.toNat 0 (T.length / a.toNat), true) else ([], false)
theorem waysR_small (T : List S68) (a : Int) : (waysR T a).1.length ≤ 1048576 ∧ ∀ y ∈ (waysR T a).1, y.length ≤ 1048576 := by
  unfold waysR
  split
  · rename_i g
    rw [Bool.and_eq_true, inR_iff] at g
    have h12 := (goodT_fine g.1).1.1
    have := Nat.div_le_self T.length a.toNat
    exact ⟨by simp only [waysFrom_len]; omega, fun y hy => by rw [waysFrom_rows _ _ _ _ _ y hy]; omega⟩
  · simp
theorem ways_facts {T : List S68} {a : Int} (g : goodT T = true) (h : inR 1 4 a = true) : ∃ long : Nat, a = (long : Int) ∧ 1 ≤ long ∧ long ≤ 4 ∧ T.length / long ≤ 12 ∧ long * (T.length / long) ≤ (ranks (sc T) T.length).length ∧ wrap64 ((T.length : Int) / (long : Int)) = ((T.length / long : Nat) : Int) := by
  rw [inR_iff] at h
  obtain ⟨long, rfl⟩ := Int.eq_ofNat_of_zero_le (show 0 ≤ a by omega)
  have h12 := (goodT_fine g).1.1
  have h1 := Nat.div_le_self T.length long
  refine ⟨long, rfl, by omega, by omega, by omega, ?_, ?_⟩
  · rw [ranks_len, Nat.mul_comm]; exact Nat.div_mul_le_self _ _
  · show wrap64 ((T.length / long : Nat) : Int) = _
    generalize T.length / long = q at h1
    exact w64 (by omega) (by omega)
theorem specWO_e (T : List S68) (a : Int) (hn : T.length ≤ 1048576) : Ev (fun k => spec_WaysOf.f k T a) (waysR T a) := by
  unfold spec_WaysOf.f waysR
  refine ebind (specGT_e T hn) ?_
  cases g : goodT T with
  | false => exact eneg (by decide) (eround (fun k => by rw [spec_WaysOf.j0]) (epos rfl (enow (by simp))))
  | true =>
    refine epos rfl (enb (l1In_eq _ _ _) ?_)
    cases h : inR 1 4 a with
    | false => exact eround (fun k => by rw [spec_WaysOf.j0]) (epos (by decide) (enow (by simp)))
    | true =>
      obtain ⟨long, rfl, h1, h4, hm, hr, hd⟩ := ways_facts g h
      refine eround (fun k => by rw [spec_WaysOf.j0]) (eneg (by decide) ?_)
      refine ebind (specRk_e (goodT_fine g).1) ?_
      refine eneg (by omega) ?_
      rw [hd]
      simpa using specWays_l0 (ranks (sc T) T.length) (T.length / long) long hm h4 hr (T.length / long) 0 [] (by omega) rfl
theorem implWO_e (T : List S68) (a : Int) (hn : T.length ≤ 1048576) : Ev (fun k => impl_WaysOf.f k T a) (waysR T a) := by
  unfold impl_WaysOf.f waysR
  refine ebind (implGT_e T hn) ?_
  cases g : goodT T with
  | false => exact eneg (by decide) (eround (fun k => by rw [impl_WaysOf.j0]) (epos rfl (enow (by simp))))
  | true =>
    refine epos rfl (enb (within_eq _ _ _) ?_)
    cases h : inR 1 4 a with
    | false => exact eround (fun k => by rw [impl_WaysOf.j0]) (epos (by decide) (enow (by simp)))
    | true =>
      obtain ⟨long, rfl, h1, h4, hm, hr, hd⟩ := ways_facts g h
      refine eround (fun k => by rw [impl_WaysOf.j0]) (eneg (by decide) ?_)
      refine ebind (implRk_e (goodT_fine g).1 (goodT_fine g).2) ?_
      refine eneg (by omega) ?_
      rw [ranks_len, hd]
      simpa using implWays_l0 (ranks (sc T) T.length) (T.length / long) long hm h4 hr (T.length / long) 0 [] (by omega) rfl
/-! the cursor of what is drawn -/
def bytes (s : List Int) : Prop := ∀ x ∈ s, 0 ≤ x ∧ x ≤ 255
theorem bytes_of {s : List Int} (h : ∀ x ∈ s, (Lit.int .u8 x).wf = true) : bytes s := by
  intro x hx
  have := h x hx
  simp [Lit.wf, IntKind.min, IntKind.max, IntKind.bits, IntKind.signed] at this
  omega
theorem u64_range (y : Int) : 0 ≤ IntKind.u64.wrap y ∧ IntKind.u64.wrap y < 18446744073709551616 := by
  simp only [IntKind.wrap, IntKind.bits, IntKind.signed]
  constructor
  · simp; omega
  · simp; omega
theorem wraps_u64 (n : Int) (h0 : 0 ≤ n) (h1 : n < 2 ^ 62) : IntKind.u64.wrap n = n := by
  have : (2 : Int) ^ 62 = 4611686018427387904 := by decide
  exact u64_wrap_small n h0 (by omega)
theorem and255 (x : Int) (h0 : 0 ≤ x) (h1 : x < 4611686018427387904) : 0 ≤ Go.bits .and .u64 x 255 ∧ Go.bits .and .u64 x 255 ≤ 255 := by
  obtain ⟨a, rfl⟩ := Int.eq_ofNat_of_zero_le h0
  have ha : a < 2 ^ 62 := by have : (2 : Nat) ^ 62 = 4611686018427387904 := by decide
                             omega
  have := (bits_nat .u64 62 (by decide) wraps_u64 a 255 ha (by decide)).1
  rw [show ((255 : Nat) : Int) = 255 from rfl] at this
  rw [this]
  have : a &&& 255 ≤ 255 := Nat.and_le_right
  omega
theorem and_u64 (y : Int) : 0 ≤ wrap64 (Go.bits .and .u64 (IntKind.u64.wrap y / 1099511627776) 255) ∧ wrap64 (Go.bits .and .u64 (IntKind.u64.wrap y / 1099511627776) 255) ≤ 255 := by
  have r := u64_range y
  have := and255 (IntKind.u64.wrap y / 1099511627776) (by omega) (by omega)
  rw [w64 (by omega) (by omega)]
  exact this
theorem bytes_rd {s : List Int} (hb : bytes s) (p : Int) (h0 : 0 ≤ p) (h1 : p < s.length) : 0 ≤ rd s p ∧ rd s p ≤ 255 := by
  obtain ⟨i, rfl⟩ := Int.eq_ofNat_of_zero_le h0
  rw [rd_get s i (by omega)]
  exact hb _ (List.getElem_mem _)
theorem next_e (s : List Int) (hb : bytes s) (p x : Int) (h0 : 0 ≤ p) (h1 : p ≤ 1152921504606846976) : ∃ v x', spec_l1Cur_next.f s p x = some (v, p + 1, x') ∧ 0 ≤ v ∧ v ≤ 255 := by
  unfold spec_l1Cur_next.f
  rw [w64 (x := p + 1) (by omega) (by omega)]
  by_cases h : p < (s.length : Int)
  · have := bytes_rd hb p h0 h
    rw [w64 (x := rd s p) (by omega) (by omega), if_pos h, if_pos h0, if_pos (by omega)]
    exact ⟨_, _, rfl, this⟩
  · rw [if_neg h, if_neg (by omega)]
    exact ⟨_, _, rfl, and_u64 _⟩
theorem tmod_range (v n : Int) (h0 : 0 ≤ v) (h : 1 < n) : 0 ≤ Int.tmod v n ∧ Int.tmod v n < n := by
  rw [Int.tmod_eq_emod_of_nonneg h0]
  exact ⟨Int.emod_nonneg _ (by omega), Int.emod_lt_of_pos _ (by omega)⟩
theorem pick_e (s : List Int) (hb : bytes s) (p x n : Int) (h0 : 0 ≤ p) (h1 : p ≤ 1152921504606846900) : ∃ r p' x', spec_l1Cur_pick.f s p x n = some (r, p', x') ∧ (0 ≤ r ∧ (n ≤ 1 → r = 0) ∧ (1 < n → r < n)) ∧ p ≤ p' ∧ p' ≤ p + 2 := by
  unfold spec_l1Cur_pick.f
  by_cases hn : n ≤ 1
  · exact ⟨0, p, x, by rw [if_pos hn], ⟨by omega, fun _ => rfl, fun h => by omega⟩, by omega, by omega⟩
  · rw [if_neg hn]
    obtain ⟨v, x', e, v0, v1⟩ := next_e s hb p x h0 (by omega)
    rw [e, Option.bind_some]
    by_cases h2 : n > 200
    · obtain ⟨u, x'', e', u0, u1⟩ := next_e s hb (p + 1) x' (by omega) (by omega)
      rw [if_pos h2]
      simp only [e', Option.bind_some]
      rw [if_neg (by omega), w64 (x := v * 256) (by omega) (by omega), w64 (by omega) (by omega)]
      have := tmod_range (v * 256 + u) n (by omega) (by omega)
      exact ⟨_, _, _, rfl, ⟨this.1, fun h => by omega, fun _ => this.2⟩, by omega, by omega⟩
    · rw [if_neg h2, if_neg (by omega)]
      have := tmod_range v n v0 (by omega)
      exact ⟨_, p + 1, x', rfl, ⟨this.1, fun h => by omega, fun _ => this.2⟩, by omega, by omega⟩
theorem one_e (s : List Int) (hb : bytes s) (p x n : Int) (h0 : 0 ≤ p) (h1 : p ≤ 1152921504606846900) : ∃ b p' x', spec_l1Cur_one.f s p x n = some (b, p', x') ∧ p ≤ p' ∧ p' ≤ p + 2 := by
  obtain ⟨r, p', x', e, _, h2, h3⟩ := pick_e s hb p x n h0 h1
  exact ⟨r == 0, p', x', by unfold spec_l1Cur_one.f; simp only [e, Option.bind_some], h2, h3⟩
theorem among_e (s : List Int) (hb : bytes s) (p x : Int) (l : List Int) (hl : 1 ≤ l.length) (h0 : 0 ≤ p) (h1 : p ≤ 1152921504606846900) : ∃ v p' x', spec_l1Cur_among.f s p x l = some (v, p', x') ∧ v ∈ l ∧ p ≤ p' ∧ p' ≤ p + 2 := by
  obtain ⟨r, p', x', e, ⟨r0, r1, r2⟩, h2, h3⟩ := pick_e s hb p x (l.length : Int) h0 h1
  have hr : r < (l.length : Int) := by
    by_cases h : 1 < (l.length : Int)
    · exact r2 h
    · have := r1 (by omega); omega
  refine ⟨rd l r, p', x', ?_, ?_, h2, h3⟩
  · unfold spec_l1Cur_among.f
    simp only [e, Option.bind_some]
    rw [if_pos r0, if_pos hr]
  · obtain ⟨i, rfl⟩ := Int.eq_ofNat_of_zero_le r0
    rw [rd_get l i (by omega)]
    exact List.getElem_mem _
theorem tall_j2 (s : List Int) (hb : bytes s) (T : List S68) (b : Bool) (p x : Int) (hT : b = true → 0 < T.length) (h0 : 0 ≤ p) (h1 : p ≤ 1152921504606000000) : ∃ T' p' x', Ev (fun k => spec_l1Cur_tallies.j2 k T b s p x) (T', p', x') ∧ T'.length = T.length ∧ p ≤ p' ∧ p' ≤ p + 6 := by
  cases b with
  | false => exact ⟨T, p, x, eround (fun k => by rw [spec_l1Cur_tallies.j2]) (eneg (by decide) (enow rfl)), rfl, by omega, by omega⟩
  | true =>
    obtain ⟨a, p1, x1, e1, _, g1, g2⟩ := pick_e s hb p x 2 h0 (by omega)
    obtain ⟨b, p2, x2, e2, _, g3, g4⟩ := among_e s hb p1 x1 [0, 100, 101] (by simp) (by omega) (by omega)
    obtain ⟨c, p3, x3, e3, _, g5, g6⟩ := among_e s hb p2 x2 [-1, 0, 100] (by simp) (by omega) (by omega)
    have hT' := hT rfl
    refine ⟨T.set 0 ⟨a, b, c⟩, p3, x3, eround (fun k => by rw [spec_l1Cur_tallies.j2]) (epos rfl ?_), by simp, by omega, by omega⟩
    refine enb e1 ?_
    refine enb e2 ?_
    refine enb e3 ?_
    exact epos (by omega) (enow rfl)
theorem tall_l0 (s : List Int) (hb : bytes s) (n : Int) (hn : n ≤ 13) : ∀ (d i : Nat) (T : List S68) (p x : Int), (n ≤ i ∧ d = 0 ∨ (i : Int) + d = n) → T.length = i → 0 ≤ p → p + 4 * d ≤ 1152921504605000100 → ∃ T' p' x', Ev (fun k => spec_l1Cur_tallies.l0 k T n (i : Int) s p x) (T', p', x') ∧ T'.length = i + d ∧ p ≤ p' ∧ p' ≤ p + 4 * d + 8 := by
  intro d
  induction d with
  | zero =>
    intro i T p x hi hT h0 h1
    have hlt : ¬ (i : Int) < n := by omega
    by_cases c : (T.length : Int) > 0
    · obtain ⟨b, p1, x1, e1, g1, g2⟩ := one_e s hb p x 20 h0 (by omega)
      obtain ⟨T', p', x', e2, g3, g4, g5⟩ := tall_j2 s hb T b p1 x1 (fun _ => by omega) (by omega) (by omega)
      exact ⟨T', p', x', eround (fun k => by rw [spec_l1Cur_tallies.l0]) (eneg hlt (epos c (enb e1 e2))), by omega, by omega, by omega⟩
    · obtain ⟨T', p', x', e2, g3, g4, g5⟩ := tall_j2 s hb T false p x (fun h => by simp at h) (by omega) (by omega)
      exact ⟨T', p', x', eround (fun k => by rw [spec_l1Cur_tallies.l0]) (eneg hlt (eneg c e2)), by omega, by omega, by omega⟩
  | succ d ih =>
    intro i T p x hi hT h0 h1
    obtain ⟨a, p1, x1, e1, _, g1, g2⟩ := pick_e s hb p x 9 h0 (by omega)
    obtain ⟨b, p2, x2, e2, _, g3, g4⟩ := pick_e s hb p1 x1 4 (by omega) (by omega)
    have hi' : (i : Int) + (d + 1 : Nat) = n := by omega
    obtain ⟨T', p', x', e3, g5, g6, g7⟩ := ih (i + 1) (T ++ [⟨(i : Int), a, b⟩]) p2 x2 (Or.inr (by push_cast at hi' ⊢; omega)) (by simp [hT]) (by omega) (by push_cast at h1; omega)
    refine ⟨T', p', x', eround (fun k => by rw [spec_l1Cur_tallies.l0]) (epos (by omega) ?_), by omega, by omega, by push_cast; omega⟩
    refine enb e1 ?_
    refine enb e2 ?_
    refine epos (by omega) ?_
    rw [w64 (by omega) (by omega)]
    exact e3
theorem tall_j0 (s : List Int) (hb : bytes s) (n : Int) (hn : n ≤ 13) (p x : Int) (h0 : 0 ≤ p) (h1 : p ≤ 1152921504605000000) : ∃ T p' x', Ev (fun k => spec_l1Cur_tallies.j0 k ([] : List S68) n s p x) (T, p', x') ∧ T.length ≤ 13 ∧ p ≤ p' ∧ p' ≤ p + 70 := by
  by_cases c : n ≤ 0
  · obtain ⟨T, p', x', e, g1, g2, g3⟩ := tall_l0 s hb n hn 0 0 [] p x (Or.inl ⟨by omega, rfl⟩) rfl h0 (by omega)
    exact ⟨T, p', x', eround (fun k => by rw [spec_l1Cur_tallies.j0]; rfl) e, by omega, g2, by omega⟩
  · obtain ⟨T, p', x', e, g1, g2, g3⟩ := tall_l0 s hb n hn n.toNat 0 [] p x (Or.inr (by omega)) rfl h0 (by omega)
    exact ⟨T, p', x', eround (fun k => by rw [spec_l1Cur_tallies.j0]; rfl) e, by omega, g2, by omega⟩
theorem tall_e (s : List Int) (hb : bytes s) (p x : Int) (h0 : 0 ≤ p) (h1 : p ≤ 1152921504604000000) : ∃ T p' x', Ev (fun k => spec_l1Cur_tallies.f k s p x) (T, p', x') ∧ T.length ≤ 13 ∧ p ≤ p' ∧ p' ≤ p + 100 := by
  obtain ⟨a, p1, x1, e1, ⟨a0, _, a2⟩, g1, g2⟩ := pick_e s hb p x 8 h0 (by omega)
  obtain ⟨b, p2, x2, e2, g3, g4⟩ := one_e s hb p1 x1 20 (by omega) (by omega)
  have := a2 (by omega)
  unfold spec_l1Cur_tallies.f
  cases b with
  | true =>
    obtain ⟨n, p3, x3, e3, hn, g5, g6⟩ := among_e s hb p2 x2 [0, 12, 13] (by simp) (by omega) (by omega)
    obtain ⟨T, p', x', e4, g7, g8, g9⟩ := tall_j0 s hb n (by simp at hn; omega) p3 x3 (by omega) (by omega)
    exact ⟨T, p', x', enb e1 (enb e2 (epos rfl (enb e3 e4))), g7, by omega, by omega⟩
  | false =>
    obtain ⟨T, p', x', e4, g7, g8, g9⟩ := tall_j0 s hb (wrap64 (1 + a)) (by rw [w64 (by omega) (by omega)]; omega) p2 x2 (by omega) (by omega)
    exact ⟨T, p', x', enb e1 (enb e2 (eneg (by simp) e4)), g7, by omega, by omega⟩
theorem has_l (xs : List Int) (a : Int) (hn : xs.length ≤ 9223372036854775807) : ∀ (d i : Nat), i + d = xs.length → Ev (fun k => laws_has.l0 k a xs (xs.length : Int) (i : Int)) (decide (a ∈ xs.drop i)) := by
  intro d
  induction d with
  | zero =>
    intro i hi
    refine eround (fun k => by rw [laws_has.l0]) (eneg (by omega) (enow ?_))
    rw [List.drop_eq_nil_of_le (by omega)]; simp
  | succ d ih =>
    intro i hi
    have hlt : i < xs.length := by omega
    refine eround (fun k => by rw [laws_has.l0]) (epos (by omega) (epos (by omega) (epos (by omega) ?_)))
    rw [rd_get xs i hlt, List.drop_eq_getElem_cons hlt]
    by_cases e : xs[i] = a
    · exact epos e (enow (by symm; rw [decide_eq_true_eq, e]; exact List.mem_cons_self))
    · refine eneg e ?_
      rw [w64 (by omega) (by omega)]
      have : decide (a ∈ xs[i] :: List.drop (i + 1) xs) = decide (a ∈ List.drop (i + 1) xs) := by
        apply decide_eq_decide.2
        rw [List.mem_cons]
        exact ⟨fun h => h.resolve_left (fun z => e z.symm), Or.inr⟩
      rw [this]
      exact ih (i + 1) (by omega)
theorem has_e (xs : List Int) (a : Int) (hn : xs.length ≤ 9223372036854775807) : Ev (fun k => laws_has.f k xs a) (decide (a ∈ xs)) := has_l xs a hn xs.length 0 (by omega)
theorem sameI_l (xs ys : List Int) (hl : xs.length = ys.length) (hn : xs.length ≤ 9223372036854775807) : ∀ (d i : Nat), i + d = xs.length → Ev (fun k => laws_sameInts.l0 k xs ys (xs.length : Int) (i : Int)) (decide (xs.drop i = ys.drop i)) := by
  intro d
  induction d with
  | zero =>
    intro i hi
    refine eround (fun k => by rw [laws_sameInts.l0]) (eneg (by omega) (enow ?_))
    rw [List.drop_eq_nil_of_le (show xs.length ≤ i by omega), List.drop_eq_nil_of_le (show ys.length ≤ i by omega)]; rfl
  | succ d ih =>
    intro i hi
    have hlt : i < xs.length := by omega
    have hlt' : i < ys.length := by omega
    refine eround (fun k => by rw [laws_sameInts.l0]) (epos (by omega) (epos (by omega) (epos (by omega) (epos (by omega) ?_))))
    rw [rd_get xs i hlt, rd_get ys i hlt', List.drop_eq_getElem_cons hlt, List.drop_eq_getElem_cons hlt']
    by_cases h : xs[i] = ys[i]
    · refine epos h ?_
      rw [w64 (by omega) (by omega)]
      simp only [h, List.cons.injEq, true_and]
      exact ih (i + 1) (by omega)
    · exact eneg h (enow (by simp only [List.cons.injEq, h, false_and, decide_false]))
theorem sameI_e (xs ys : List Int) (hn : xs.length ≤ 9223372036854775807) : Ev (fun k => laws_sameInts.f k xs ys) (decide (xs = ys)) := by
  unfold laws_sameInts.f
  by_cases hl : xs.length = ys.length
  · exact epos (by omega) (sameI_l xs ys hl hn xs.length 0 (by omega))
  · refine eneg (by omega) (enow ?_)
    have : xs ≠ ys := fun h => hl (by rw [h])
    simp [this]
theorem sameRows_l (xs : List (List Int)) (hs : xs.length ≤ 1048576 ∧ ∀ y ∈ xs, y.length ≤ 1048576) : ∀ (d i : Nat), i + d = xs.length → Ev (fun k => laws_sameRows.l0 k xs xs (xs.length : Int) (i : Int)) true := by
  have hn := hs.1
  intro d
  induction d with
  | zero =>
    intro i hi
    exact eround (fun k => by rw [laws_sameRows.l0]) (eneg (by omega) (enow rfl))
  | succ d ih =>
    intro i hi
    have hlt : i < xs.length := by omega
    refine eround (fun k => by rw [laws_sameRows.l0]) (epos (by omega) (epos (by omega) (epos (by omega) (epos (by omega) ?_))))
    rw [show rd_L2 xs (i : Int) = xs[i] from getD_get xs i _ hlt]
    have := sameI_e xs[i] xs[i] (by have := hs.2 _ (List.getElem_mem hlt); omega)
    rw [decide_eq_true rfl] at this
    refine ebind this (epos rfl ?_)
    rw [w64 (by omega) (by omega)]
    exact ih (i + 1) (by omega)
theorem sameRows_e (xs : List (List Int)) (hs : xs.length ≤ 1048576 ∧ ∀ y ∈ xs, y.length ≤ 1048576) : Ev (fun k => laws_sameRows.f k xs xs) true := by
  unfold laws_sameRows.f
  exact epos rfl (sameRows_l xs hs xs.length 0 (by omega))
/-! the order of the hands -/
def fallsL (s : Int → Int) (l : List Int) : Prop := l.Pairwise (fun a b => s a > s b ∨ s a = s b ∧ a < b)
theorem insL_fallsL (s : Int → Int) (h : Int) : ∀ (l : List Int), (∀ x ∈ l, x < h) → fallsL s l → fallsL s (insL s h l)
  | [], _, _ => by simp [insL, fallsL]
  | y :: r, hl, H => by
    have hy := hl y (by simp)
    unfold fallsL at H
    rw [List.pairwise_cons] at H
    unfold insL
    split
    · rename_i c
      unfold fallsL
      rw [List.pairwise_cons]
      refine ⟨fun x hx => ?_, insL_fallsL s h r (fun x hx => hl x (by simp [hx])) H.2⟩
      rcases (insL_mem s h r x).1 hx with rfl | hx
      · omega
      · exact H.1 x hx
    · rename_i c
      unfold fallsL
      rw [List.pairwise_cons, List.pairwise_cons]
      refine ⟨fun x hx => ?_, H⟩
      rcases List.mem_cons.1 hx with rfl | hx
      · omega
      · have := H.1 x hx; omega
theorem ranks_fallsL (s : Int → Int) : ∀ n, fallsL s (ranks s n)
  | 0 => List.Pairwise.nil
  | n + 1 => insL_fallsL s _ _ (fun x hx => by have := (ranks_mem s n x).1 hx; omega) (ranks_fallsL s n)
theorem ranks_lt (s : Int → Int) (n i j : Nat) (hij : i < j) (hj : j < (ranks s n).length) : s ((ranks s n)[i]'(by omega)) > s (ranks s n)[j] ∨ s ((ranks s n)[i]'(by omega)) = s (ranks s n)[j] ∧ (ranks s n)[i]'(by omega) < (ranks s n)[j] :=
  List.pairwise_iff_getElem.1 (ranks_fallsL s n) i j (by omega) hj hij
theorem ranks_inj (s : Int → Int) (n i j : Nat) (hi : i < (ranks s n).length) (hj : j < (ranks s n).length) (h : (ranks s n)[i] = (ranks s n)[j]) : i = j := by
  rcases Nat.lt_trichotomy i j with c | c | c
  · have := ranks_lt s n i j c hj; rw [h] at this; omega
  · exact c
  · have := ranks_lt s n j i c hi; rw [h] at this; omega
/-! scores -/
theorem allI_get {α : Type} {p : Nat → α → Bool} : ∀ (xs : List α) (i j : Nat) (h : j < xs.length), allI p i xs = true → p (i + j) xs[j] = true
  | [], _, _, h, _ => by simp at h
  | y :: ys, i, 0, _, h => by simp only [allI, Bool.and_eq_true] at h; simpa using h.1
  | y :: ys, i, j + 1, hj, h => by
    simp only [allI, Bool.and_eq_true] at h
    have := allI_get ys (i + 1) j (by simpa using hj) h.2
    rw [List.getElem_cons_succ, show i + (j + 1) = i + 1 + j by omega]
    exact this
theorem scoreOf_good {T : List S68} (g : goodT T = true) (a : Int) (h0 : 0 ≤ a) (h1 : a < T.length) : impl_ScoreOf.f (rd_T68 T a).f0 (rd_T68 T a).f1 (rd_T68 T a).f2 = some (sc T a, true) := by
  have hs := score_i (goodT_fine g).1 a h0 h1
  have h12 := (goodT_fine g).1.1
  unfold impl_ScoreOf.f
  rw [isTally_eq, hs]
  have : inR 0 11 (rd_T68 T a).f0 = true ∧ inR 0 100 (rd_T68 T a).f1 = true ∧ inR 0 100 (rd_T68 T a).f2 = true := by
    obtain ⟨i, rfl⟩ := Int.eq_ofNat_of_zero_le h0
    have hlt : i < T.length := by omega
    rw [show rd_T68 T (i : Int) = T[i] from getD_get _ i _ hlt]
    unfold goodT at g
    rw [Bool.and_eq_true] at g
    have := allI_get T 0 i hlt g.1
    simp only [tallyAt, Bool.and_eq_true, decide_eq_true_eq] at this
    exact ⟨inR_iff.2 (by omega), this.2.1, this.2.2⟩
  simp [this]
theorem scoreOf_both (a b c : Int) : ∃ v ok, impl_ScoreOf.f a b c = some (v, ok) ∧ spec_ScoreOf.f a b c = some (v, ok) ∧ (ok = true → 0 ≤ v ∧ v ≤ 99) := by
  have e1 : impl_isTally.f a b c = some (inR 0 11 a && (inR 0 100 b && inR 0 100 c)) := isTally_eq ⟨a, b, c⟩
  unfold impl_ScoreOf.f spec_ScoreOf.f spec_l14Tally.f
  rw [e1, l1In_eq, l1In_eq, l1In_eq]
  by_cases h1 : inR 0 11 a = true
  · by_cases h2 : inR 0 100 b = true
    · by_cases h3 : inR 0 100 c = true
      · have b2 := inR_iff.1 h2
        have b3 := inR_iff.1 h3
        have e2 : impl_score.f a b c = some (100 * (b + 1) / (b + c + 2)) := by
          unfold impl_score.f
          rw [w64 (x := b + c) (by omega) (by omega), w64 (x := b + c + 2) (by omega) (by omega), if_neg (by omega), w64 (x := b + 1) (by omega) (by omega), w64 (x := 100 * (b + 1)) (by omega) (by omega), Int.tdiv_eq_ediv_of_nonneg (by omega)]
          have l1 : 0 ≤ 100 * (b + 1) / (b + c + 2) := Int.ediv_nonneg (by omega) (by omega)
          have l2 : 100 * (b + 1) / (b + c + 2) < 100 := Int.ediv_lt_of_lt_mul (by omega) (by omega)
          rw [w64 (by omega) (by omega)]
        have e3 : spec_l14Score.f a b c = some (100 * (b + 1) / (b + c + 2)) := e2
        have l1 : 0 ≤ 100 * (b + 1) / (b + c + 2) := Int.ediv_nonneg (by omega) (by omega)
        have l2 : 100 * (b + 1) / (b + c + 2) < 100 := Int.ediv_lt_of_lt_mul (by omega) (by omega)
        exact ⟨_, true, by simp [h1, h2, h3, e2], by simp [h1, h2, h3, e3], fun _ => ⟨l1, by omega⟩⟩
      · exact ⟨0, false, by simp [h3], by simp [h1, h2, h3], fun h => by simp at h⟩
    · exact ⟨0, false, by simp [h2], by simp [h1, h2], fun h => by simp at h⟩
  · exact ⟨0, false, by simp [h1], by simp [h1], fun h => by simp at h⟩
/-! the law's loops -/
theorem ways_l0 {T : List S68} (g : goodT T = true) (m : List Int) (a : Int) (W : List (List Int)) (b : Bool) (H : Ev (fun k => laws_FnWays.j2 k m T a W b (ranks (sc T) T.length)) true) : ∀ (d i : Nat), i + 1 + d = T.length → Ev (fun k => laws_FnWays.l0 k m T a W b (ranks (sc T) T.length) ((i + 1 : Nat) : Int)) true := by
  have h12 := (goodT_fine g).1.1
  have hl := ranks_len (sc T) T.length
  intro d
  induction d with
  | zero =>
    intro i hi
    exact eround (fun k => by rw [laws_FnWays.l0]) (eneg (by omega) H)
  | succ d ih =>
    intro i hi
    have e1 : wrap64 (((i + 1 : Nat) : Int) - 1) = (i : Int) := by rw [w64 (by omega) (by omega)]; omega
    have e2 : wrap64 (((i + 1 : Nat) : Int) + 1) = ((i + 1 + 1 : Nat) : Int) := by rw [w64 (by omega) (by omega)]; omega
    have r1 := (ranks_mem (sc T) T.length (ranks (sc T) T.length)[i]).1 (List.getElem_mem (by omega))
    have r2 := (ranks_mem (sc T) T.length (ranks (sc T) T.length)[i + 1]).1 (List.getElem_mem (by omega))
    have hc := ranks_lt (sc T) T.length i (i + 1) (by omega) (by omega)
    refine eround (fun k => by rw [laws_FnWays.l0]) (epos (by omega) ?_)
    rw [e1, e2, rd_get _ i (by omega), rd_get _ (i + 1) (by omega)]
    refine epos (by omega) (epos (by omega) (epos r1.1 (epos r1.2 ?_)))
    refine enb (scoreOf_good g _ r1.1 r1.2) ?_
    refine epos (by omega) (epos r2.1 (epos r2.2 ?_))
    refine enb (scoreOf_good g _ r2.1 r2.2) ?_
    refine epos rfl (epos rfl (eneg (by dsimp only; omega) ?_))
    by_cases c : sc T (ranks (sc T) T.length)[i] = sc T (ranks (sc T) T.length)[i + 1]
    · exact epos c (eneg (by omega) (ih (i + 1) (by omega)))
    · exact eneg c (ih (i + 1) (by omega))
theorem ix_inj {m k k' i i' : Nat} (h : k < m) (h' : k' < m) (e : k + i * m = k' + i' * m) : k = k' ∧ i = i' := by
  have e1 : (k + i * m) % m = k := by rw [Nat.add_mul_mod_self_right, Nat.mod_eq_of_lt h]
  have e2 : (k' + i' * m) % m = k' := by rw [Nat.add_mul_mod_self_right, Nat.mod_eq_of_lt h']
  have e3 : (k + i * m) / m = i := by rw [Nat.add_mul_div_right _ _ (by omega), Nat.div_eq_of_lt h]; omega
  have e4 : (k' + i' * m) / m = i' := by rw [Nat.add_mul_div_right _ _ (by omega), Nat.div_eq_of_lt h']; omega
  rw [e] at e1 e3
  exact ⟨by omega, by omega⟩
theorem wrap_mul {m long : Nat} (hm : m ≤ 12) (h4 : long ≤ 4) : wrap64 ((m : Int) * (long : Int)) = ((m * long : Nat) : Int) := by
  have : m * long ≤ 12 * 4 := Nat.mul_le_mul hm h4
  rw [← Int.natCast_mul]
  generalize m * long = q at this
  exact w64 (by omega) (by omega)
def metW (r : List Int) (m k i : Nat) (long : Nat) (y : Int) : Prop := ∃ k' i', y = rd r ((k' + i' * m : Nat) : Int) ∧ k' < m ∧ i' < long ∧ (k' < k ∨ k' = k ∧ i' < i)
theorem wayFrom_get (r : List Int) (m k : Nat) : ∀ (d i j : Nat) (h : j < (wayFrom r m k i d).length), (wayFrom r m k i d)[j] = rd r ((k + (i + j) * m : Nat) : Int)
  | 0, _, _, h => by simp [wayFrom] at h
  | d + 1, i, 0, _ => by simp [wayFrom]
  | d + 1, i, j + 1, h => by
    simp only [wayFrom, List.getElem_cons_succ]
    rw [wayFrom_get r m k d (i + 1) j (by simpa [wayFrom] using h), show i + 1 + j = i + (j + 1) by omega]
theorem waysFrom_get (r : List Int) (m long : Nat) : ∀ (d k j : Nat) (h : j < (waysFrom r m long k d).length), (waysFrom r m long k d)[j] = wayFrom r m (k + j) 0 long
  | 0, _, _, h => by simp [waysFrom] at h
  | d + 1, k, 0, _ => by simp [waysFrom]
  | d + 1, k, j + 1, h => by
    simp only [waysFrom, List.getElem_cons_succ]
    rw [waysFrom_get r m long d (k + 1) j (by simpa [waysFrom] using h), show k + 1 + j = k + (j + 1) by omega]
theorem row_at (r : List Int) (m k long i : Nat) (hi : i < long) (hix : k + i * m < r.length) : rd (wayFrom r m k 0 long) (i : Int) = r[k + i * m] := by
  have hw := wayFrom_len r m k long 0
  rw [rd_get _ i (by omega), wayFrom_get _ m k long 0 i (by omega), Nat.zero_add, rd_get _ _ hix]
theorem take_in (r : List Int) (m k long i : Nat) (hk : k < m) (hi : i < long) (hix : k + i * m < r.length) : r[k + i * m] ∈ r.take (m * long) := by
  have h1 : (i + 1) * m ≤ long * m := Nat.mul_le_mul_right m (by omega)
  have h2 : k + i * m < m * long := by rw [Nat.succ_mul, Nat.mul_comm long m] at h1; omega
  rw [List.mem_iff_getElem]
  exact ⟨k + i * m, by rw [List.length_take]; exact Nat.lt_min.2 ⟨h2, hix⟩, by simp⟩
theorem ways_l2 {T : List S68} (x1 r : List Int) (hrl : r.length ≤ 12) (hinj : ∀ (i j : Nat) (hi : i < r.length) (hj : j < r.length), r[i] = r[j] → i = j) (m long k : Nat) (hk : k < m) (h4 : long ≤ 4) (hm : m ≤ 12) (hr : long * m ≤ r.length)
    (H : ∀ all, (∀ y ∈ all, metW r m (k + 1) 0 long y) → all.length ≤ 4 * (k + 1) → Ev (fun kk => laws_FnWays.l1 kk x1 T (long : Int) (waysFrom r m long 0 m) r all (m : Int) (wrap64 ((k : Int) + 1))) true) :
    ∀ (d i : Nat) (all : List Int), i + d = long → (∀ y ∈ all, metW r m k i long y) → all.length ≤ 4 * k + i →
    Ev (fun kk => laws_FnWays.l2 kk x1 T (long : Int) (waysFrom r m long 0 m) r all (m : Int) (k : Int) (wayFrom r m k 0 long) (long : Int) (i : Int)) true := by
  have hw := wayFrom_len r m k long 0
  have hww := waysFrom_len r m long m 0
  intro d
  induction d with
  | zero =>
    intro i all hi ha hc
    refine eround (fun k => by rw [laws_FnWays.l2]) (eneg (by omega) (H all (fun y hy => ?_) (by omega)))
    obtain ⟨k', i', e, q1, q2, q3⟩ := ha y hy
    exact ⟨k', i', e, q1, q2, by omega⟩
  | succ d ih =>
    intro i all hi ha hc
    have hix := (ways_ix (r := r) hm h4 hk (show i < long by omega) hr).2
    have hno : r[k + i * m] ∉ all := by
      intro hy
      obtain ⟨k', i', e, q1, q2, q3⟩ := ha _ hy
      have hix' := (ways_ix (r := r) hm h4 q1 q2 hr).2
      rw [rd_get _ _ hix'] at e
      obtain ⟨rfl, rfl⟩ := ix_inj hk q1 (hinj _ _ hix hix' e)
      rcases q3 with q | ⟨_, q⟩
      · exact Nat.lt_irrefl _ q
      · exact Nat.lt_irrefl _ q
    have hin := take_in r m k long i hk (by omega) hix
    refine eround (fun k => by rw [laws_FnWays.l2]) (epos (by omega) (epos (by omega) (epos (by omega) ?_)))
    rw [row_at r m k long i (by omega) hix, hww, wrap_mul hm h4]
    refine ebind (has_e all _ (by omega)) ?_
    refine eneg (by simp [hno]) ?_
    refine epos (by omega) (epos (by rw [Nat.mul_comm]; omega) ?_)
    rw [Int.toNat_natCast]
    refine ebind (has_e (r.take (m * long)) _ (by simp; omega)) ?_
    refine epos (by simp [hin]) (epos (by omega) ?_)
    rw [w64 (by omega) (by omega)]
    refine ih (i + 1) _ (by omega) (fun y hy => ?_) (by simp; omega)
    rcases List.mem_append.1 hy with hy | hy
    · obtain ⟨k', i', e, q1, q2, q3⟩ := ha y hy
      exact ⟨k', i', e, q1, q2, by omega⟩
    · rw [List.mem_singleton] at hy
      exact ⟨k, i, by rw [hy, rd_get _ _ hix], hk, by omega, by omega⟩
theorem ways_l1 {T : List S68} (x1 r : List Int) (hrl : r.length ≤ 12) (hinj : ∀ (i j : Nat) (hi : i < r.length) (hj : j < r.length), r[i] = r[j] → i = j) (m long : Nat) (h1 : 1 ≤ long) (h4 : long ≤ 4) (hm : m ≤ 12) (hr : long * m ≤ r.length) (hd : wrap64 ((T.length : Int) / (long : Int)) = (m : Int))
    (H : Ev (fun k => laws_FnWays.j5 k x1) true) : ∀ (d k : Nat) (all : List Int), k + d = m → (∀ y ∈ all, metW r m k 0 long y) → all.length ≤ 4 * k →
    Ev (fun kk => laws_FnWays.l1 kk x1 T (long : Int) (waysFrom r m long 0 m) r all (m : Int) (k : Int)) true := by
  have hww := waysFrom_len r m long m 0
  intro d
  induction d with
  | zero =>
    intro k all hk ha hc
    refine eround (fun k => by rw [laws_FnWays.l1]) (eneg (by omega) (eneg (by omega) (epos ?_ H)))
    rw [hd, hww]
  | succ d ih =>
    intro k all hk ha hc
    have hrow : rd_L2 (waysFrom r m long 0 m) (k : Int) = wayFrom r m k 0 long := by
      rw [show rd_L2 (waysFrom r m long 0 m) (k : Int) = (waysFrom r m long 0 m)[k] from getD_get _ k _ (by omega), waysFrom_get _ m long m 0 k (by omega), Nat.zero_add]
    refine eround (fun k => by rw [laws_FnWays.l1]) (epos (by omega) (epos (by omega) (epos (by omega) ?_)))
    rw [hrow, wayFrom_len]
    refine epos rfl (ways_l2 x1 r hrl hinj m long k (by omega) h4 hm hr (fun all ha hc => ?_) long 0 all (by omega) ha (by omega))
    rw [w64 (by omega) (by omega)]
    exact ih (k + 1) all (by omega) ha (by omega)
theorem FnWays : laws_FnWays.Pure := by
  intro s t _ _ hs _ _ ht
  replace hs := bytes_of hs
  replace ht := bytes_of ht
  apply Ev.rounds
  unfold laws_FnWays.f
  by_cases hb : wrap64 ((s.length : Int) + (t.length : Int)) > 1048576
  · exact epos hb (enow rfl)
  refine eneg hb ?_
  obtain ⟨T, p1, x1, e1, hT, _, _⟩ := tall_e s hs 0 0 (by omega) (by omega)
  obtain ⟨a, p2, x2, e2, _, _, _⟩ := pick_e s hs p1 x1 6 (by omega) (by omega)
  have eD : Ev (fun k => spec_DrawWaysOf.f k s) (T, a) := by
    unfold spec_DrawWaysOf.f
    exact ebind e1 (enb e2 (enow rfl))
  have hn : T.length ≤ 1048576 := by omega
  have hj5 : Ev (fun k => laws_FnWays.j5 k t) true := by
    obtain ⟨U, q1, y1, f1, hU, _, _⟩ := tall_e t ht 0 0 (by omega) (by omega)
    have fR : Ev (fun k => spec_DrawRankHands.f k t) U := by
      unfold spec_DrawRankHands.f spec_DrawGoodTallies.f
      exact ebind (f := fun _ z => some z) (ebind f1 (enow rfl)) (enow rfl)
    obtain ⟨a0, a1, a2, fS⟩ : ∃ a0 a1 a2, Ev (fun k => spec_DrawScoreOf.f k t) (a0, a1, a2) := by
      unfold spec_DrawScoreOf.f
      by_cases c : (U.length : Int) = 0
      · exact ⟨_, _, _, ebind f1 (epos c (enow rfl))⟩
      · obtain ⟨j, q2, y2, f2, ⟨j0, j1, j2⟩, _, _⟩ := pick_e t ht q1 y1 (U.length : Int) (by omega) (by omega)
        refine ⟨_, _, _, ebind f1 (eneg c (enb f2 (epos j0 (epos ?_ (enow rfl)))))⟩
        by_cases d : (U.length : Int) ≤ 1
        · have := j1 d; dsimp only; omega
        · exact j2 (by omega)
    obtain ⟨v, ok, g1, g2, g3⟩ := scoreOf_both a0 a1 a2
    have hU' : U.length ≤ 1048576 := by omega
    have sI := sameI_e (rankR U).1 (rankR U).1 (by have := rankR_len U; omega)
    rw [decide_eq_true rfl] at sI
    refine eround (fun k => by rw [laws_FnWays.j5]) ?_
    refine ebind fS ?_
    refine enb g1 ?_
    refine enb g2 ?_
    refine ebind fR ?_
    refine ebind (implRH_e U hU') ?_
    refine ebind (specRH_e U hU') ?_
    refine epos (by simp) (epos rfl (epos (by simp) ?_))
    refine ebind sI (epos rfl ?_)
    cases ok with
    | false => exact eneg (by simp) (enow rfl)
    | true =>
      obtain ⟨v0, v1⟩ := g3 rfl
      exact epos rfl (epos v0 (enow (by simp [v1])))
  have hj2 : Ev (fun k => laws_FnWays.j2 k t T a (waysR T a).1 (waysR T a).2 (rankR T).1) true := by
    refine eround (fun k => by rw [laws_FnWays.j2]) ?_
    cases g : goodT T with
    | false => exact eneg (by simp [waysR, g]) hj5
    | true =>
      cases h : inR 1 4 a with
      | false => exact eneg (by simp [waysR, g, h]) hj5
      | true =>
        obtain ⟨long, rfl, h1, h4, hm, hr, hd⟩ := ways_facts g h
        refine epos (by simp [waysR, g, h]) ?_
        simp only [waysR, rankR, g, h, Bool.and_self, if_true, Int.toNat_natCast, waysFrom_len]
        exact ways_l1 t _ (by rw [ranks_len]; exact (goodT_fine g).1.1) (ranks_inj (sc T) T.length) (T.length / long) long h1 h4 hm hr hd hj5 (T.length / long) 0 [] (by omega) (by simp) (by simp)
  have hj0 : Ev (fun k => laws_FnWays.j0 k t T a (waysR T a).1 (waysR T a).2 (rankR T).1 (rankR T).2 false) true := by
    refine eround (fun k => by rw [laws_FnWays.j0]) (eneg (by decide) ?_)
    cases g : goodT T with
    | false => exact eneg (by simp [rankR, g]) hj2
    | true =>
      refine epos (by simp [rankR, g]) ?_
      have hge := (goodT_fine g).2
      have e : (rankR T).1 = ranks (sc T) T.length := by simp [rankR, g]
      rw [e] at hj2 ⊢
      exact ways_l0 g t a _ _ hj2 (T.length - 1) 0 (by omega)
  have sR := sameRows_e (waysR T a).1 (waysR_small T a)
  have sI := sameI_e (rankR T).1 (rankR T).1 (by have := rankR_len T; omega)
  rw [decide_eq_true rfl] at sI
  refine ebind eD ?_
  refine ebind (implWO_e T a hn) ?_
  refine ebind (specWO_e T a hn) ?_
  refine ebind (implRH_e T hn) ?_
  refine ebind (specRH_e T hn) ?_
  refine eneg (by simp) ?_
  refine ebind sR (epos rfl (eneg (by simp) ?_))
  refine ebind sI (epos rfl ?_)
  refine ebind (implGT_e T hn) ?_
  rw [show (goodT T != (rankR T).2) = false by unfold rankR; cases goodT T <;> rfl]
  exact hj0

end Go.Proofs.Ytpibdgknmjjolaa.Pure
